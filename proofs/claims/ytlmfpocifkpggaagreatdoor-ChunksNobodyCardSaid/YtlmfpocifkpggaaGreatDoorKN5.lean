import Derived.Test.YtlmfpocifkpggaaGreatDoorKN4
set_option linter.unusedVariables false
set_option linter.unusedSimpArgs false
set_option linter.unusedSectionVars false
section
set_option maxRecDepth 100000
set_option maxHeartbeats 4000000
namespace Go.Proofs.Eng
open Go.RowKit
open Extern.Stop (cell)
theorem chunks_Open_nil (w : World) :
    Ret Tryz.prog 12 [.pointer none] w (fun v w' => v = .tuple #[.pointer none, .int .i64 1] ∧ Ext w w') := by
 have hX := Ext.refl w
 refine enter 35 _ Tryz.func12 rfl rfl (Nat.le_of_ble_eq_true rfl) rfl ?_
 refine c_seq (r_plain ?_)
 refine o_box1 (by conv => lhs; whnf) rfl ?_
 intro w1 g1 hN1
 have hE1 := hN1.ext
 have hX := hX.ext hE1
 have hB1 := hN1.blk
 refine p1 (x_assign (by conv => lhs; whnf)) ?_
 refine p1 (x_assign (by conv => lhs; whnf)) ?_
 refine r_nil (t_n (c_seq (c_seq (r_plain ?_))))
 refine p1 (x_load1 un34 rfl (hB1.cell (rfl))) ?_
 refine p1 ((x_eql_ptrnil u34 rfl rfl)) ?_
 refine r_nil (t_n ?_)
 first | refine c_dec rfl (fun hc8 => ?_) (fun hc8 => ?_) | refine c_if rfl (fun hc8 => ?_) (fun hc8 => ?_)
 ·try simp only [dA, dB, dC, dD, dE, dF, dG, Int.not_lt, Int.not_le] at hc8
  refine c_seq (r_plain ?_)
  refine p1 (x_assign (by conv => lhs; whnf)) ?_
  refine p1 (x_assign (by conv => lhs; whnf)) ?_
  refine r_nil (t_n (c_ret (t_r ?_)))
  refine end2 rfl (by conv => lhs; whnf) (by conv => lhs; whnf) ?_
  exact ⟨rfl, hX⟩
 ·try simp only [dA, dB, dC, dD, dE, dF, dG, Int.not_lt, Int.not_le] at hc8
  exact (hc8 trivial).elim
theorem chunks_Open (gd : Nat) (S : Nat → Prop) (D : DS) (w : World) (hD : Dsk S w gd D) (hok : DOk D) (hst : D.steps < 4611686018427360000) (hle : D.left ≤ 9223372036854775807) (hnm : ∀ x ∈ D.l, namedD x.1 = true) (hS : ∀ k, S k → 6 ≤ k) (hg : Gt w) :
    Ret Tryz.prog 12 [.pointer (some ⟨gd, 0, none⟩)] w (fun v w' => (∃ pv, v = .tuple #[pv, .int .i64 (openC D).2] ∧ (((openC D).2 = 0 ∧ ∃ g, pv = .pointer (some ⟨g, 0, none⟩) ∧ Cst (grow S w w') w' g gd (openC D).1) ∨ ((openC D).2 ≠ 0 ∧ pv = .pointer none ∧ Dsk (grow S w w') w' gd (openC D).1.D))) ∧ ModS S EC w w') := by
 have hgs := hg.size
 have hD := hD.narrow (Nat.le_refl _)
 have hS1 : ∀ k, (fun j => S j ∧ j < w.heap.size) k → 6 ≤ k := fun k h => hS k h.1
 have hSb : ∀ k, (fun j => S j ∧ j < w.heap.size) k → k < w.heap.size := fun k h => h.2
 have hX := ModS.refl S EC w
 refine enter 35 _ Tryz.func12 rfl rfl (Nat.le_of_ble_eq_true rfl) rfl ?_
 refine c_seq (r_plain ?_)
 have hz1 := hX.size
 refine o_box1 (by conv => lhs; whnf) rfl ?_
 intro w1 g1 hN1
 have hE1 := hN1.ext
 have hX := hX.ext hE1
 have hD := hD.ext hE1
 have hg := hg.ext hE1
 have hB1 := hN1.blk
 have hq1 := hN1.g_eq
 refine p1 (x_assign (by conv => lhs; whnf)) ?_
 refine p1 (x_assign (by conv => lhs; whnf)) ?_
 refine r_nil (t_n (c_seq (c_seq (r_plain ?_))))
 refine p1 (x_load1 un34 rfl (hB1.cell (rfl))) ?_
 refine p1 ((x_eql_ptrnil u34 rfl rfl).cast (congrArg _ (decide_eq_false (by simp)))) ?_
 refine r_nil (t_n ?_)
 refine c_f rfl ?_
 refine c_skip (t_n (c_seq (r_plain ?_)))
 refine p1 (x_load1 un34 rfl (hB1.cell (rfl))) ?_
 have hXs := hX.size
 refine o_makeMap0 (κ := Hash) (ν := R3) ?_
 intro w2 g10 hE2 hK10
 have hX := hX.ext hE2
 have hD := hD.ext hE2
 have hg := hg.ext hE2
 have hB1 := hB1.ext hE2
 have hM := hK10 kkHash vCh 0 w.heap.size (hXs)
 refine p1 (x_buildS pl91 rfl rfl rfl) ?_
 have hMl := hM.low
 have hMt := hM.lt
 have hz12 := hX.size
 have hl12_1 := hB1.lt
 refine o_boxA (by conv => lhs; whnf) ?_
 intro w3 g12 hN12
 have hE3 := hN12.ext
 have hX := hX.ext hE3
 have hD := hD.ext hE3
 have hg := hg.ext hE3
 have hB1 := hB1.ext hE3
 have hM := hM.ext hE3
 have hB12 := hN12.blk
 have hq12 := hN12.g_eq
 have hz4 := hX.size
 have hl4_1 := hB1.lt
 have hl4_12 := hB12.lt
 refine o_alloc zr30 ?_
 intro w4 g4 hN4
 have hE4 := hN4.ext
 have hX := hX.ext hE4
 have hD := hD.ext hE4
 have hg := hg.ext hE4
 have hB1 := hB1.ext hE4
 have hM := hM.ext hE4
 have hB12 := hB12.ext hE4
 have hB4 := hN4.blk
 have hq4 := hN4.g_eq
 refine o_store1 rfl (by conv => lhs; whnf) rfl rfl sz30 hB4 (by first | exact Nat.zero_lt_one | simp) ?_
 intro w5 hP5
 have hX := hX.new hP5 (by omega)
 have hD := hD.modT (hP5.mod 0 (Nat.zero_le _)) (by decide)
 have hg := hg.put hP5 (by omega)
 have hB1 := hP5.keep hB1 (by omega)
 have hM := hM.mod (hP5.mod 0 (Nat.zero_le _)) (Nat.zero_le _) (by decide)
 have hB12 := hP5.keep hB12 (by omega)
 have hB4 := hP5.blk
 try simp only [List.setIfInBounds_toArray, List.set_cons_zero, List.set_cons_succ] at hB4
 refine r_nil (t_n (c_seq (r_plain ?_)))
 refine p1 (x_load1 un34 rfl (hB1.cell (rfl))) ?_
 refine o_call Tryz.func37 fn37 fb37 (disk_Read gd (fun j => S j ∧ j < w.heap.size) D _ hD hok nMan (by decide)) rfl ?_
 rintro v6 w6 ⟨⟨qb, nb, cb, rfl, hO⟩, hE6⟩
 have hX := hX.ext hE6
 have hD := hD.ext hE6
 have hg := hg.ext hE6
 have hB1 := hB1.ext hE6
 have hM := hM.ext hE6
 have hB12 := hB12.ext hE6
 have hB4 := hB4.ext hE6
 refine p1 (x_move (by conv => lhs; whnf)) ?_
 refine p1 (x_extract rfl rfl) ?_
 refine p1 (x_extract rfl rfl) ?_
 refine p1 (x_assign (by conv => lhs; whnf)) ?_
 refine p1 (x_assign (by conv => lhs; whnf)) ?_
 refine r_nil (t_n (c_seq (c_seq (r_plain ?_))))
 refine p1 (x_move (by conv => lhs; whnf)) ?_
 refine r_nil (t_n (c_block (c_seq (r_plain ?_))))
 refine p1 (x_eql rfl rfl) ?_
 refine p1 (x_assign (by conv => lhs; whnf)) ?_
 refine r_nil (t_n ?_)
 first | refine c_dec rfl (fun hc19 => ?_) (fun hc19 => ?_) | refine c_if rfl (fun hc19 => ?_) (fun hc19 => ?_)
 ·try simp only [dA, dB, dC, dD, dE, dF, dG, Int.not_lt, Int.not_le] at hc19
  have hoc := openC_load hc19
  refine r_plain ?_
  refine p1 (x_load1 un30 rfl (hB4.cell (rfl))) ?_
  refine p1 (x_move (by conv => lhs; whnf)) ?_
  have hXs := hX.size
  refine o_call Tryz.func44 fn44 fb44 (store_load gd (fun j => S j ∧ j < w.heap.size) D _ hD hok (by omega) hle hnm hS1 hg (fun j h => Nat.lt_of_lt_of_le h.2 hXs) g12 g10 hB12 (hM.lower (Nat.zero_le _)) (fun h => by have := h.2; omega) (by omega) (by omega) (readD D nMan).1 0 _ _ _ _ hO.sl) rfl ?_
  rintro v7 w7 ⟨rfl, hCs, hD2, hM2⟩
  have hX := hX.trans hM2 (fun j hj h => by rcases h with h | h | h <;> first | exact h.1 | (exfalso; omega))
  have hB4 := hB4.modS hM2 (.inr (by decide))
  have hMs := hM2.size
  refine p1 (x_assign (by conv => lhs; whnf)) ?_
  refine r_nil (b_n (t_n (c_seq (c_seq (r_plain ?_)))))
  refine p1 (x_move (by conv => lhs; whnf)) ?_
  refine p1 (x_neq rfl rfl) ?_
  refine r_nil (t_n ?_)
  first | refine c_dec rfl (fun hc32 => ?_) (fun hc32 => ?_) | refine c_if rfl (fun hc32 => ?_) (fun hc32 => ?_)
  ·try simp only [dA, dB, dC, dD, dE, dF, dG, Int.not_lt, Int.not_le] at hc32
   refine c_seq (r_plain ?_)
   refine p1 (x_move (by conv => lhs; whnf)) ?_
   refine p1 (x_assign (by conv => lhs; whnf)) ?_
   refine p1 (x_assign (by conv => lhs; whnf)) ?_
   refine r_nil (t_n (c_ret (t_r ?_)))
   refine end2 rfl (by conv => lhs; whnf) (by conv => lhs; whnf) ?_
   first
     | (rw [hoc]; exact ⟨⟨_, rfl, .inr ⟨hc32, rfl, hD2.mono (fun j hj h => h.imp (fun h => h.1) fun ⟨a, _⟩ => ⟨by omega, hj⟩)⟩⟩, hX⟩)
     | (rw [hoc]
        have h0 : (loadC D (readD D nMan).1).2 = 0 := by omega
        refine ⟨⟨_, by rw [h0], .inl ⟨h0, _, rfl, (hCs h0).mono (fun j hj h => ?_)⟩⟩, hX⟩
        rcases h with (h | h | h) | ⟨h, _⟩
        · exact .inl h.1
        · exact .inr ⟨by omega, hj⟩
        · exact .inr ⟨by omega, hj⟩
        · exact .inr ⟨by omega, hj⟩)
     | (rw [hoc]; exact ⟨⟨_, rfl, .inr ⟨hc32, rfl, hD.mono (fun j hj h => .inl h.1)⟩⟩, hX⟩)
     | exact absurd (by omega : (readD D nMan).2 = 0) hc19
     | (rw [hoc]
        have h0 : (runD openOps D).2 = 0 := by first | omega | exact Classical.byContradiction hc32
        refine ⟨⟨_, by rw [h0], .inl ⟨h0, _, rfl, grow (fun j => S j ∧ j < w.heap.size) _ _, g10, _, none, 0, 0, none, ⟨fun k h => ?_, hD2, hB12, hMz, Chs.none_ _ _, FB.nil _ _, .inr ⟨by omega, hl12⟩, .inr ⟨by omega, hMz.lt⟩, fun h => ?_, rfl⟩⟩⟩, hX⟩
        · exact h.imp (fun h => h.1) fun ⟨a, b⟩ => ⟨by omega, b⟩
        · rcases h with h | ⟨h, _⟩
          · have := h.2; omega
          · omega)
  ·try simp only [dA, dB, dC, dD, dE, dF, dG, Int.not_lt, Int.not_le] at hc32
   refine c_skip (t_n (c_seq (r_plain ?_)))
   refine p1 (x_load1 un30 rfl (hB4.cell (rfl))) ?_
   refine p1 (x_assign (by conv => lhs; whnf)) ?_
   refine p1 (x_assign (by conv => lhs; whnf)) ?_
   refine r_nil (t_n (c_ret ?_))
   refine end2 rfl (by conv => lhs; whnf) (by conv => lhs; whnf) ?_
   first
     | (rw [hoc]; exact ⟨⟨_, rfl, .inr ⟨hc32, rfl, hD2.mono (fun j hj h => h.imp (fun h => h.1) fun ⟨a, _⟩ => ⟨by omega, hj⟩)⟩⟩, hX⟩)
     | (rw [hoc]
        have h0 : (loadC D (readD D nMan).1).2 = 0 := by omega
        refine ⟨⟨_, by rw [h0], .inl ⟨h0, _, rfl, (hCs h0).mono (fun j hj h => ?_)⟩⟩, hX⟩
        rcases h with (h | h | h) | ⟨h, _⟩
        · exact .inl h.1
        · exact .inr ⟨by omega, hj⟩
        · exact .inr ⟨by omega, hj⟩
        · exact .inr ⟨by omega, hj⟩)
     | (rw [hoc]; exact ⟨⟨_, rfl, .inr ⟨hc32, rfl, hD.mono (fun j hj h => .inl h.1)⟩⟩, hX⟩)
     | exact absurd (by omega : (readD D nMan).2 = 0) hc19
     | (rw [hoc]
        have h0 : (runD openOps D).2 = 0 := by first | omega | exact Classical.byContradiction hc32
        refine ⟨⟨_, by rw [h0], .inl ⟨h0, _, rfl, grow (fun j => S j ∧ j < w.heap.size) _ _, g10, _, none, 0, 0, none, ⟨fun k h => ?_, hD2, hB12, hMz, Chs.none_ _ _, FB.nil _ _, .inr ⟨by omega, hl12⟩, .inr ⟨by omega, hMz.lt⟩, fun h => ?_, rfl⟩⟩⟩, hX⟩
        · exact h.imp (fun h => h.1) fun ⟨a, b⟩ => ⟨by omega, b⟩
        · rcases h with h | ⟨h, _⟩
          · have := h.2; omega
          · omega)
 ·try simp only [dA, dB, dC, dD, dE, dF, dG, Int.not_lt, Int.not_le] at hc19
  refine c_seq (r_plain ?_)
  refine p1 (x_eql rfl rfl) ?_
  refine p1 (x_assign (by conv => lhs; whnf)) ?_
  refine r_nil (t_n ?_)
  first | refine c_dec rfl (fun hc24 => ?_) (fun hc24 => ?_) | refine c_if rfl (fun hc24 => ?_) (fun hc24 => ?_)
  ·try simp only [dA, dB, dC, dD, dE, dF, dG, Int.not_lt, Int.not_le] at hc24
   have hoc := openC_new hc24
   refine r_plain ?_
   refine p1 (x_makeFunc (fs := []) (cs := [.pointer (some ⟨g1, 0, none⟩)]) rfl rfl) ?_
   refine p1 (x_makeFunc (fs := []) (cs := [.pointer (some ⟨g1, 0, none⟩), .pointer (some ⟨g4, 0, none⟩)]) rfl rfl) ?_
   refine p1 (x_makeFunc (fs := []) (cs := [.pointer (some ⟨g1, 0, none⟩), .pointer (some ⟨g4, 0, none⟩)]) rfl rfl) ?_
   refine o_buildSlice u149 inf95 rfl (by decide) (fun base hb => fill_kn [fcv (46, [.pointer (some ⟨g1, 0, none⟩)]), fcv (48, [.pointer (some ⟨g1, 0, none⟩), .pointer (some ⟨g4, 0, none⟩)]), fcv (50, [.pointer (some ⟨g1, 0, none⟩), .pointer (some ⟨g4, 0, none⟩)])] (by intro v hv'; simp only [List.mem_cons, List.not_mem_nil, or_false] at hv'; rcases hv' with rfl | rfl | rfl <;> rfl) base hb) ?_
   intro w8 g29 hN29
   have hE8 := hN29.ext
   have hX := hX.ext hE8
   have hD := hD.ext hE8
   have hg := hg.ext hE8
   have hB1 := hB1.ext hE8
   have hM := hM.ext hE8
   have hB12 := hB12.ext hE8
   have hB4 := hB4.ext hE8
   have hO := hO.ext hE8
   have hS29 : Sl kFn 95 0 w8 (some ⟨g29, 0, none⟩) 3 3 [(46, [.pointer (some ⟨g1, 0, none⟩)]), (48, [.pointer (some ⟨g1, 0, none⟩), .pointer (some ⟨g4, 0, none⟩)]), (50, [.pointer (some ⟨g1, 0, none⟩), .pointer (some ⟨g4, 0, none⟩)])] := (own_lit (B0 := 0) ([(46, [.pointer (some ⟨g1, 0, none⟩)]), (48, [.pointer (some ⟨g1, 0, none⟩), .pointer (some ⟨g4, 0, none⟩)]), (50, [.pointer (some ⟨g1, 0, none⟩), .pointer (some ⟨g4, 0, none⟩)])] : List Clo) hN29 (Nat.zero_le _) (by simp)).sl
   have hXs := hX.size
   refine o_call Tryz.func45 fn45 fb45 (all_disk [(46, [.pointer (some ⟨g1, 0, none⟩)]), (48, [.pointer (some ⟨g1, 0, none⟩), .pointer (some ⟨g4, 0, none⟩)]), (50, [.pointer (some ⟨g1, 0, none⟩), .pointer (some ⟨g4, 0, none⟩)])] [fun D => cleanD D (toStr []), fun D => createD D (nSeg 1), fun D => writeM D ⟨1, 0, []⟩] (fun i => D.steps + 64 * i) gd (fun j => S j ∧ j < w.heap.size) D _ _ _ _ hD (⟨hok, Nat.le_refl _, hle, hnm⟩) hS29 rfl (fun i hi => ?_)) rfl ?_
   · rcases i with _ | _ | _ | i
     · exact ⟨Tryz.f46, Tryz.func46, fn46, fb46, fun Di w1 hDi m hgi => (open_1 gd _ Di w1 hDi hgi.ok (Nat.lt_of_le_of_lt hgi.steps (by show _ + _ < _; omega)) hgi.left hgi.names (far_grow hS1 (by omega)) (hg.modS m hS1) g1 (hB1.modS m (.inr (by decide)))).dg ((Good.cleanD hgi _).mono (by show D.steps + 64 * 0 + 64 ≤ D.steps + 64 * 1; omega))⟩
     · exact ⟨Tryz.f48, Tryz.func48, fn48, fb48, fun Di w1 hDi m hgi => (open_2 gd _ Di w1 hDi hgi.ok (Nat.lt_of_le_of_lt hgi.steps (by show _ + _ < _; omega)) hgi.left hgi.names (far_grow hS1 (by omega)) (hg.modS m hS1) g1 g4 g12 _ (hB1.modS m (.inr (by decide))) (hB4.modS m (.inr (by decide))) (hB12.modS m (.inr (by decide))) rfl).dg ((Good.create hgi _).mono (by show D.steps + 64 * 1 + 1 ≤ D.steps + 64 * 2; omega))⟩
     · exact ⟨Tryz.f50, Tryz.func50, fn50, fb50, fun Di w1 hDi m hgi => (open_3 gd _ Di w1 hDi hgi.ok (Nat.lt_of_le_of_lt hgi.steps (by show _ + _ < _; omega)) hgi.left hgi.names (far_grow hS1 (by omega)) (hg.modS m hS1) g1 g4 g12 _ (hB1.modS m (.inr (by decide))) (hB4.modS m (.inr (by decide))) (hB12.modS m (.inr (by decide))) rfl).dg ((Good.writeM hgi ⟨1, 0, []⟩).mono (by show D.steps + 64 * 2 + 4 ≤ D.steps + 64 * 3; omega))⟩
     · exact absurd hi (by omega)
   rintro v9 w9 ⟨rfl, hD2, hM2⟩
   have hM8 := hM.lt
   have hB12 := hB12.modS hM2 (.inr (by decide))
   have hB4 := hB4.modS hM2 (.inr (by decide))
   have hMs := hM2.size
   have hXw := hX.size
   have hX := hX.trans (hM2.wideE fun k h => h) (fun j hj h => h.1)
   have hMz := (hM.lower (Nat.zero_le _)).turn hM2 (fun h => by have := h.2; omega) rfl
   have hl12 := hB12.lt
   refine p1 (x_assign (by conv => lhs; whnf)) ?_
   refine r_nil (b_n (t_n (c_seq (c_seq (r_plain ?_)))))
   refine p1 (x_move (by conv => lhs; whnf)) ?_
   refine p1 (x_neq rfl rfl) ?_
   refine r_nil (t_n ?_)
   first | refine c_dec rfl (fun hc32 => ?_) (fun hc32 => ?_) | refine c_if rfl (fun hc32 => ?_) (fun hc32 => ?_)
   ·try simp only [dA, dB, dC, dD, dE, dF, dG, Int.not_lt, Int.not_le] at hc32
    refine c_seq (r_plain ?_)
    refine p1 (x_move (by conv => lhs; whnf)) ?_
    refine p1 (x_assign (by conv => lhs; whnf)) ?_
    refine p1 (x_assign (by conv => lhs; whnf)) ?_
    refine r_nil (t_n (c_ret (t_r ?_)))
    refine end2 rfl (by conv => lhs; whnf) (by conv => lhs; whnf) ?_
    first
      | (rw [hoc]; exact ⟨⟨_, rfl, .inr ⟨hc32, rfl, hD2.mono (fun j hj h => h.imp (fun h => h.1) fun ⟨a, _⟩ => ⟨by omega, hj⟩)⟩⟩, hX⟩)
      | (rw [hoc]
         have h0 : (loadC D (readD D nMan).1).2 = 0 := by omega
         refine ⟨⟨_, by rw [h0], .inl ⟨h0, _, rfl, (hCs h0).mono (fun j hj h => ?_)⟩⟩, hX⟩
         rcases h with (h | h | h) | ⟨h, _⟩
         · exact .inl h.1
         · exact .inr ⟨by omega, hj⟩
         · exact .inr ⟨by omega, hj⟩
         · exact .inr ⟨by omega, hj⟩)
      | (rw [hoc]; exact ⟨⟨_, rfl, .inr ⟨hc32, rfl, hD.mono (fun j hj h => .inl h.1)⟩⟩, hX⟩)
      | exact absurd (by omega : (readD D nMan).2 = 0) hc19
      | (rw [hoc]
         have h0 : (runD openOps D).2 = 0 := by first | omega | exact Classical.byContradiction hc32
         refine ⟨⟨_, by rw [h0], .inl ⟨h0, _, rfl, grow (fun j => S j ∧ j < w.heap.size) _ _, g10, _, none, 0, 0, none, ⟨fun k h => ?_, hD2, hB12, hMz, Chs.none_ _ _, FB.nil _ _, .inr ⟨by omega, hl12⟩, .inr ⟨by omega, hMz.lt⟩, fun h => ?_, rfl⟩⟩⟩, hX⟩
         · exact h.imp (fun h => h.1) fun ⟨a, b⟩ => ⟨by omega, b⟩
         · rcases h with h | ⟨h, _⟩
           · have := h.2; omega
           · omega)
   ·try simp only [dA, dB, dC, dD, dE, dF, dG, Int.not_lt, Int.not_le] at hc32
    refine c_skip (t_n (c_seq (r_plain ?_)))
    refine p1 (x_load1 un30 rfl (hB4.cell (rfl))) ?_
    refine p1 (x_assign (by conv => lhs; whnf)) ?_
    refine p1 (x_assign (by conv => lhs; whnf)) ?_
    refine r_nil (t_n (c_ret ?_))
    refine end2 rfl (by conv => lhs; whnf) (by conv => lhs; whnf) ?_
    first
      | (rw [hoc]; exact ⟨⟨_, rfl, .inr ⟨hc32, rfl, hD2.mono (fun j hj h => h.imp (fun h => h.1) fun ⟨a, _⟩ => ⟨by omega, hj⟩)⟩⟩, hX⟩)
      | (rw [hoc]
         have h0 : (loadC D (readD D nMan).1).2 = 0 := by omega
         refine ⟨⟨_, by rw [h0], .inl ⟨h0, _, rfl, (hCs h0).mono (fun j hj h => ?_)⟩⟩, hX⟩
         rcases h with (h | h | h) | ⟨h, _⟩
         · exact .inl h.1
         · exact .inr ⟨by omega, hj⟩
         · exact .inr ⟨by omega, hj⟩
         · exact .inr ⟨by omega, hj⟩)
      | (rw [hoc]; exact ⟨⟨_, rfl, .inr ⟨hc32, rfl, hD.mono (fun j hj h => .inl h.1)⟩⟩, hX⟩)
      | exact absurd (by omega : (readD D nMan).2 = 0) hc19
      | (rw [hoc]
         have h0 : (runD openOps D).2 = 0 := by first | omega | exact Classical.byContradiction hc32
         refine ⟨⟨_, by rw [h0], .inl ⟨h0, _, rfl, grow (fun j => S j ∧ j < w.heap.size) _ _, g10, _, none, 0, 0, none, ⟨fun k h => ?_, hD2, hB12, hMz, Chs.none_ _ _, FB.nil _ _, .inr ⟨by omega, hl12⟩, .inr ⟨by omega, hMz.lt⟩, fun h => ?_, rfl⟩⟩⟩, hX⟩
         · exact h.imp (fun h => h.1) fun ⟨a, b⟩ => ⟨by omega, b⟩
         · rcases h with h | ⟨h, _⟩
           · have := h.2; omega
           · omega)
  ·try simp only [dA, dB, dC, dD, dE, dF, dG, Int.not_lt, Int.not_le] at hc24
   have hoc := openC_bad hc19 hc24
   refine c_skip (b_n (t_n (c_seq (c_seq (r_plain ?_)))))
   refine p1 (x_move (by conv => lhs; whnf)) ?_
   refine p1 (x_neq rfl rfl) ?_
   refine r_nil (t_n ?_)
   first | refine c_dec rfl (fun hc32 => ?_) (fun hc32 => ?_) | refine c_if rfl (fun hc32 => ?_) (fun hc32 => ?_)
   ·try simp only [dA, dB, dC, dD, dE, dF, dG, Int.not_lt, Int.not_le] at hc32
    refine c_seq (r_plain ?_)
    refine p1 (x_move (by conv => lhs; whnf)) ?_
    refine p1 (x_assign (by conv => lhs; whnf)) ?_
    refine p1 (x_assign (by conv => lhs; whnf)) ?_
    refine r_nil (t_n (c_ret (t_r ?_)))
    refine end2 rfl (by conv => lhs; whnf) (by conv => lhs; whnf) ?_
    first
      | (rw [hoc]; exact ⟨⟨_, rfl, .inr ⟨hc32, rfl, hD2.mono (fun j hj h => h.imp (fun h => h.1) fun ⟨a, _⟩ => ⟨by omega, hj⟩)⟩⟩, hX⟩)
      | (rw [hoc]
         have h0 : (loadC D (readD D nMan).1).2 = 0 := by omega
         refine ⟨⟨_, by rw [h0], .inl ⟨h0, _, rfl, (hCs h0).mono (fun j hj h => ?_)⟩⟩, hX⟩
         rcases h with (h | h | h) | ⟨h, _⟩
         · exact .inl h.1
         · exact .inr ⟨by omega, hj⟩
         · exact .inr ⟨by omega, hj⟩
         · exact .inr ⟨by omega, hj⟩)
      | (rw [hoc]; exact ⟨⟨_, rfl, .inr ⟨hc32, rfl, hD.mono (fun j hj h => .inl h.1)⟩⟩, hX⟩)
      | exact absurd (by omega : (readD D nMan).2 = 0) hc19
      | (rw [hoc]
         have h0 : (runD openOps D).2 = 0 := by first | omega | exact Classical.byContradiction hc32
         refine ⟨⟨_, by rw [h0], .inl ⟨h0, _, rfl, grow (fun j => S j ∧ j < w.heap.size) _ _, g10, _, none, 0, 0, none, ⟨fun k h => ?_, hD2, hB12, hMz, Chs.none_ _ _, FB.nil _ _, .inr ⟨by omega, hl12⟩, .inr ⟨by omega, hMz.lt⟩, fun h => ?_, rfl⟩⟩⟩, hX⟩
         · exact h.imp (fun h => h.1) fun ⟨a, b⟩ => ⟨by omega, b⟩
         · rcases h with h | ⟨h, _⟩
           · have := h.2; omega
           · omega)
   ·try simp only [dA, dB, dC, dD, dE, dF, dG, Int.not_lt, Int.not_le] at hc32
    refine c_skip (t_n (c_seq (r_plain ?_)))
    refine p1 (x_load1 un30 rfl (hB4.cell (rfl))) ?_
    refine p1 (x_assign (by conv => lhs; whnf)) ?_
    refine p1 (x_assign (by conv => lhs; whnf)) ?_
    refine r_nil (t_n (c_ret ?_))
    refine end2 rfl (by conv => lhs; whnf) (by conv => lhs; whnf) ?_
    first
      | (rw [hoc]; exact ⟨⟨_, rfl, .inr ⟨hc32, rfl, hD2.mono (fun j hj h => h.imp (fun h => h.1) fun ⟨a, _⟩ => ⟨by omega, hj⟩)⟩⟩, hX⟩)
      | (rw [hoc]
         have h0 : (loadC D (readD D nMan).1).2 = 0 := by omega
         refine ⟨⟨_, by rw [h0], .inl ⟨h0, _, rfl, (hCs h0).mono (fun j hj h => ?_)⟩⟩, hX⟩
         rcases h with (h | h | h) | ⟨h, _⟩
         · exact .inl h.1
         · exact .inr ⟨by omega, hj⟩
         · exact .inr ⟨by omega, hj⟩
         · exact .inr ⟨by omega, hj⟩)
      | (rw [hoc]; exact ⟨⟨_, rfl, .inr ⟨hc32, rfl, hD.mono (fun j hj h => .inl h.1)⟩⟩, hX⟩)
      | exact absurd (by omega : (readD D nMan).2 = 0) hc19
      | (rw [hoc]
         have h0 : (runD openOps D).2 = 0 := by first | omega | exact Classical.byContradiction hc32
         refine ⟨⟨_, by rw [h0], .inl ⟨h0, _, rfl, grow (fun j => S j ∧ j < w.heap.size) _ _, g10, _, none, 0, 0, none, ⟨fun k h => ?_, hD2, hB12, hMz, Chs.none_ _ _, FB.nil _ _, .inr ⟨by omega, hl12⟩, .inr ⟨by omega, hMz.lt⟩, fun h => ?_, rfl⟩⟩⟩, hX⟩
         · exact h.imp (fun h => h.1) fun ⟨a, b⟩ => ⟨by omega, b⟩
         · rcases h with h | ⟨h, _⟩
           · have := h.2; omega
           · omega)
end Go.Proofs.Eng
end
section
namespace Go.Proofs.Eng
open Go.RowKit
open Extern.Stop (cell)
section
variable {P : Program} {Q : Exit → Act → World → Prop} {n : Nat} {f : Nat → Value} {w : World}
theorem c_rangeFuncA {α : Type} {g : Operand} {ps : List Nat} {assign body : Code} {gf : FuncId} {lb : List Value} {encs : α → List Value} {E : World → World → Prop} {S Sp : List α → Prop} {X : List α → α → World → Prop} {Rl : World → World → Prop} {fn : Func}
    (I : List α → World → Prop) (Ix : Code → List α → World → Prop) (hEe : ∀ A B, Ext A B → E A B)
    (hg : ev n f g = .func (.func gf) #[] lb.toArray) (hfn : P.funcs[gf]? = some fn) (hn : (fn.name == "runtime.NumGoroutine") = false) (hb : fn.body.isNone = false)
    (hEs : ∀ A B, E A B → A.heap.size ≤ B.heap.size) (hEl : ∀ A B, Lp w.heap.size A B → E A B) (hEt : ∀ A B C, E A B → E B C → E A C) (hseq : SeqOk P gf lb encs E S Sp X Rl w) (hRe : ∀ A B, Ext A B → Rl A B) (hRl : ∀ A B, Rl A B → A.heap.size ≤ B.heap.size ∧ ∀ k, ty A k = none → k < A.heap.size → B.heap[k]? = A.heap[k]?) (hXx : ∀ s x A B, X s x A → Lp w.heap.size A B → X s x B) (hps : ∀ x, (encs x).length = ps.length)
    (hIe : ∀ s A B, I s A → Rl A B → I s B) (hIl : ∀ s A B, I s A → Lp w.heap.size A B → I s B) (hXe : ∀ c s A B, Ix c s A → Rl A B → Ix c s B) (hXl : ∀ c s A B, Ix c s A → Lp w.heap.size A B → Ix c s B)
    (h0 : I [] w)
    (hround : ∀ l pre x W, w.heap.size ≤ W.heap.size → I pre W → X pre x W → Wf (some l) P assign (Exit.then (fun a W2 => ∃ f₁ : Nat → Value, a = fr n f₁ ∧ Ext W W2 ∧ ∀ W3, Lp w.heap.size W2 W3 → Wf (some l) P body (rndPost E I Ix (pre ++ [x]) W3) (fr n f₁) W3) noQ) (fr n (updR (updP f (ps.zip (encs x))) sp undef)) W)
    (hdone : ∀ D xs W, w.heap.size ≤ D → S xs → I xs W → Dfr W D → decD (f sp) = decD (f sp) → Q .normal { fr n f with defers := { target := .collected D, args := #[] } :: decD (f sp) } W)
    (hstop : ∀ D c pre W, w.heap.size ≤ D → Sp pre → Ix c pre W → Dfr W D → Wp P c Q { fr n f with defers := { target := .collected D, args := #[] } :: decD (f sp) } W) :
    Wp P (Code.rangeFunc g ps.toArray assign body) Q (fr n f) w := by
  refine Wf.toWp ⟨?_⟩
  refine wpIn_rangeFunc ?_
  intro fnid _
  obtain ⟨rec, hrec⟩ : ∃ rec : LoopState → Option Code → Loop, rec = fun st pe => { state := st, pending := pe, fn := fnid, tmps := (fr n f).tmps, params := ps.toArray, assign, body, defers := w.heap.size } := ⟨_, rfl⟩
  obtain ⟨W1, hW1⟩ : ∃ W1, (w.alloc (.deferred (some []))).alloc (.loop (rec .ready none)) = W1 := ⟨_, rfl⟩
  have hL1 : W1.heap[w.heap.size + 1]? = some (.loop (rec .ready none)) := by
    rw [← hW1]; have := World.alloc_heap_new (w.alloc (.deferred (some []))) (.loop (rec .ready none)); rwa [World.size_alloc] at this
  have hK1 : Dfr W1 w.heap.size := by
    unfold Dfr
    rw [← hW1]; exact (Below.heap_alloc _ _ _ (by simp)).trans (World.alloc_heap_new w _)
  have hx1 : Ext w W1 := by rw [← hW1]; exact (Ext.alloc _ _).trans (Ext.alloc _ _)
  have hI1 : I [] W1 := hIe _ _ _ h0 (hRe _ _ hx1)
  refine ⟨w.heap.size + 1, [{ target := .collected w.heap.size, args := #[] }], W1, { target := .fn (.func gf) lb.toArray, args := #[.func (.yield (w.heap.size + 1)) #[] #[]] }, W1, gf,
    (.func (.yield (w.heap.size + 1)) #[] #[] :: lb).toArray, W1, ?_, ?_, fun _ _ => trivial, ?_, fun hd => (by cases hd), ?_⟩
  · rw [← hW1, hrec]; exact run_enterLoop_outer _ _ _ _ _
  · simp only [resolve, eval_fr, hg]
    simp [Deferred.ofValue, Sem.run_bind]
    rfl
  · have hn' : ¬ fn.name = "runtime.NumGoroutine" := by simpa using hn
    have hb' : ¬ fn.body = none := by intro e; rw [e] at hb; cases hb
    simp [invoke, callFunc, hfn, hn', hb', Sem.run_bind, Sem.run]
  · have lty : ∀ {W : World} {r : Loop} {k : Nat}, W.heap[k]? = some (.loop r) → ty W k = none := fun h => by unfold ty; rw [h]
    refine (callsIn_wide (n := 0)).2 (Calls.mono (hseq.out (w.heap.size + 1)
      (fun pre W => (I pre W ∧ w.heap.size ≤ W.heap.size) ∧ W.heap[w.heap.size + 1]? = some (.loop (rec .ready none)) ∧ Dfr W w.heap.size)
      (fun pre W => ∃ c, Ix c pre W ∧ W.heap[w.heap.size + 1]? = some (.loop (rec .done (some c))) ∧ Dfr W w.heap.size)
      W1 hx1
      (fun s A B hs hx => ⟨⟨hIe _ _ _ hs.1.1 hx, Nat.le_trans hs.1.2 (hRl _ _ hx).1⟩, ((hRl _ _ hx).2 _ (lty hs.2.1) (Array.getElem?_eq_some_iff.1 hs.2.1).1).trans hs.2.1, ((hRl _ _ hx).2 _ (dfr_ty hs.2.2) (dfr_lt hs.2.2)).trans hs.2.2⟩)
      (fun s A B hs hx => by obtain ⟨c, h1, h2, h3⟩ := hs; exact ⟨c, hXe _ _ _ _ h1 hx, ((hRl _ _ hx).2 _ (lty h2) (Array.getElem?_eq_some_iff.1 h2).1).trans h2, ((hRl _ _ hx).2 _ (dfr_ty h3) (dfr_lt h3)).trans h3⟩)
      ?_ ⟨⟨hI1, hx1.size⟩, hL1, hK1⟩) ?_)
    · -- one round
      rintro pre x W ⟨⟨hi, hsz⟩, hl, hk⟩ hlen
      have hlt : w.heap.size + 1 < W.heap.size := (Array.getElem?_eq_some_iff.1 hl).1
      have hy := run_yield (P := P) (args := (encs x).toArray) hl (by rw [hrec]; simp [hps x])
      rw [hrec] at hy
      refine ⟨fnid, _, assign, body, hy, roundIn_of_wpIn trivial ?_⟩
      have hfr : ({ tmps := ((ps.toArray.zip (encs x).toArray).foldl (fun (t : Array Value) (p : Nat × Value) => match p with | (p, v) => t.setIfInBounds p v) (fr n f).tmps), defers := [] } : Act) = fr n (updR (updP f (ps.zip (encs x))) sp undef) := by
        rw [← frame_round]
        congr 1
        rw [← foldl_zip]
        simp
      refine (congrArg (fun a => Code.wpIn _ _ P assign _ a W) hfr).mpr ?_
      refine wpIn_mono (hround (w.heap.size + 1) pre x W hsz hi hlen).out ?_
      rintro e a2 W2 hq
      cases e with
      | normal =>
        obtain ⟨f₁, rfl, hxa, hbd⟩ := hq
        have hl := (hxa.old _ hlt).trans hl
        have hk := (hxa.old _ (dfr_lt hk)).trans hk
        have hlt : w.heap.size + 1 < W2.heap.size := Nat.lt_of_lt_of_le hlt hxa.size
        have hsz : w.heap.size ≤ W2.heap.size := Nat.le_trans hsz hxa.size
        have hb0 : Lp w.heap.size W2 (W2.putObj (w.heap.size + 1) (.loop { rec .ready none with state := .busy })) := Lp.put hl (lty hl) (by omega)
        refine ⟨_, run_beginRound hl (by rw [hrec]), ?_⟩
        have hl2 : (W2.putObj (w.heap.size + 1) (.loop { rec .ready none with state := .busy })).heap[w.heap.size + 1]? = some (.loop { rec .ready none with state := .busy }) := World.putObj_heap_same hlt
        have hk2 : Dfr (W2.putObj (w.heap.size + 1) (.loop { rec .ready none with state := .busy })) w.heap.size := (World.putObj_heap_other (by omega)).trans hk
        refine wpIn_mono (hbd _ hb0).out ?_
        have fin : ∀ (jump : Option Code) (W3 : World), (∀ k, ty (W2.putObj (w.heap.size + 1) (.loop { rec .ready none with state := .busy })) k = none → k < (W2.putObj (w.heap.size + 1) (.loop { rec .ready none with state := .busy })).heap.size → W3.heap[k]? = (W2.putObj (w.heap.size + 1) (.loop { rec .ready none with state := .busy })).heap[k]?) →
            (Instr.endRound (w.heap.size + 1) jump).run P W3 = .ok (.bool jump.isNone) (W3.putObj (w.heap.size + 1) (.loop (rec (if jump.isNone then .ready else .done) jump))) ∧
            Lp w.heap.size W3 (W3.putObj (w.heap.size + 1) (.loop (rec (if jump.isNone then .ready else .done) jump))) ∧
            (W3.putObj (w.heap.size + 1) (.loop (rec (if jump.isNone then .ready else .done) jump))).heap[w.heap.size + 1]? = some (.loop (rec (if jump.isNone then .ready else .done) jump)) ∧
            Dfr (W3.putObj (w.heap.size + 1) (.loop (rec (if jump.isNone then .ready else .done) jump))) w.heap.size := fun jump W3 hk3 => by
          have hl3 := (hk3 _ (lty hl2) (Array.getElem?_eq_some_iff.1 hl2).1).trans hl2
          have := run_endRound (P := P) jump hl3
          rw [hrec] at this ⊢
          exact ⟨this, Lp.put hl3 (lty hl3) (by omega), World.putObj_heap_same (Array.getElem?_eq_some_iff.1 hl3).1, (World.putObj_heap_other (by omega)).trans ((hk3 _ (dfr_ty hk2) (dfr_lt hk2)).trans hk2)⟩
        rintro e a3 W3 hp
        cases e with
        | normal =>
          obtain ⟨hr3, hk3, hi3⟩ := hp
          obtain ⟨hr, hlp, hl4, hk4⟩ := fin none W3 hk3
          refine ⟨_, _, hr, .inl ⟨rfl, ⟨⟨hIl _ _ _ hi3 hlp, ?_⟩, hl4, hk4⟩, hEt _ _ _ (hEt _ _ _ (hEt _ _ _ (hEe _ _ hxa) (hEl _ _ hb0)) hr3) (hEl _ _ hlp)⟩⟩
          have h1 := hEs _ _ hr3
          have h2 := hb0.size
          have h3 := hlp.size
          omega
        | ret =>
          obtain ⟨hk3, hi3⟩ := hp
          obtain ⟨hr, hlp, hl4, hk4⟩ := fin (some .ret) W3 hk3
          exact ⟨_, _, hr, .inr ⟨rfl, .ret, hXl _ _ _ _ hi3 hlp, hl4, hk4⟩⟩
        | exit id =>
          obtain ⟨hk3, hi3⟩ := hp
          obtain ⟨hr, hlp, hl4, hk4⟩ := fin (some (.exit id)) W3 hk3
          exact ⟨_, _, hr, .inr ⟨rfl, .exit id, hXl _ _ _ _ hi3 hlp, hl4, hk4⟩⟩
        | goto t => exact hp.elim
        | panic ch => exact hp.elim
        | outgrown => exact hp.elim
      | _ => exact hq.elim
    · -- behind the iterator
      rintro e W2 ⟨⟨v, rfl⟩, (⟨xs, hS, ⟨hi, _⟩, hl, hk⟩ | ⟨pre, hSp, c, hi, hl, hk⟩)⟩
      · have hr := run_endLoop (P := P) hl (by rw [hrec]; simp)
        have hlp : Lp w.heap.size W2 (W2.putObj (w.heap.size + 1) (.loop { rec .ready none with state := .exhausted })) := Lp.put hl (lty hl) (by omega)
        refine ⟨none, _, ?_, hdone w.heap.size xs _ (Nat.le_refl _) hS (hIl _ _ _ hi hlp) ((World.putObj_heap_other (by omega)).trans hk) rfl⟩
        rw [hrec] at hr ⊢; exact hr
      · have hr := run_endLoop (P := P) hl (by rw [hrec]; simp)
        have hlp : Lp w.heap.size W2 (W2.putObj (w.heap.size + 1) (.loop { rec .done (some c) with state := .exhausted })) := Lp.put hl (lty hl) (by omega)
        refine ⟨some c, _, ?_, wpIn_wide.2 (hstop w.heap.size c pre _ (Nat.le_refl _) hSp (hXl _ _ _ _ hi hlp) ((World.putObj_heap_other (by omega)).trans hk)).out⟩
        rw [hrec] at hr ⊢; exact hr
theorem c_rfA {α : Type} {g : Operand} {ps : List Nat} {assign body : Code} {gf : FuncId} {lb : List Value} {encs : α → List Value} {E : World → World → Prop} {S Sp : List α → Prop} {X : List α → α → World → Prop} {Rl : World → World → Prop} {fn : Func}
    (Ds : List Nat) (I : List α → World → Prop) (Ix : Code → List α → World → Prop) (hEe : ∀ A B, Ext A B → E A B) (hsp : f sp = encDs Ds)
    (hg : ev n f g = .func (.func gf) #[] lb.toArray) (hfn : P.funcs[gf]? = some fn) (hn : (fn.name == "runtime.NumGoroutine") = false) (hb : fn.body.isNone = false)
    (hEs : ∀ A B, E A B → A.heap.size ≤ B.heap.size) (hEl : ∀ A B, Lp w.heap.size A B → E A B) (hEt : ∀ A B C, E A B → E B C → E A C) (hseq : SeqOk P gf lb encs E S Sp X Rl w) (hXx : ∀ s x A B, X s x A → Lp w.heap.size A B → X s x B) (hRe : ∀ A B, Ext A B → Rl A B) (hRl : ∀ A B, Rl A B → A.heap.size ≤ B.heap.size ∧ ∀ k, ty A k = none → k < A.heap.size → B.heap[k]? = A.heap[k]?)
    (hps : ∀ x, (encs x).length = ps.length)
    (hIe : ∀ s A B, I s A → Rl A B → I s B) (hIl : ∀ s A B, I s A → Lp w.heap.size A B → I s B) (hXe : ∀ c s A B, Ix c s A → Rl A B → Ix c s B) (hXl : ∀ c s A B, Ix c s A → Lp w.heap.size A B → Ix c s B)
    (h0 : I [] w)
    (hround : ∀ l pre x W, w.heap.size ≤ W.heap.size → I pre W → X pre x W → Wf (some l) P assign (Exit.then (fun a W2 => ∃ f₁ : Nat → Value, a = fr n f₁ ∧ Ext W W2 ∧ ∀ W3, Lp w.heap.size W2 W3 → Wf (some l) P body (rndPost E I Ix (pre ++ [x]) W3) (fr n f₁) W3) noQ) (fr n (updR (updP f (ps.zip (encs x))) sp undef)) W)
    (hdone : ∀ D xs W, w.heap.size ≤ D → S xs → I xs W → Dfr W D → Q .normal (fr n (updR f sp (encDs (D :: Ds)))) W)
    (hstop : ∀ D c pre W, w.heap.size ≤ D → Sp pre → Ix c pre W → Dfr W D → Wp P c Q (fr n (updR f sp (encDs (D :: Ds)))) W) :
    Wp P (Code.rangeFunc g ps.toArray assign body) Q (fr n f) w :=
  c_rangeFuncA I Ix hEe hg hfn hn hb hEs hEl hEt hseq hRe hRl hXx hps hIe hIl hXe hXl h0 hround
    (fun D xs W h1 h2 h3 h4 _ => by rw [fr_off n f D Ds hsp]; exact hdone D xs W h1 h2 h3 h4) (fun D c pre W h1 h2 h3 h4 => by rw [fr_off n f D Ds hsp]; exact hstop D c pre W h1 h2 h3 h4)
end
theorem Mp.rnd {κ ν : Type} {kk : κ → Value} {d : VK ν} {B0 r : Nat} {E : List TypeId} {w w' : World} {μ : κ → Option ν} (h : Mp kk d 0 B0 w r μ) (m : Rnd E w w') (ht : tMap ∉ E) (hd : d.E = []) : Mp kk d 0 B0 w' r μ :=
  h.keep (fun hl => m.old r tMap h.tyOf ht) (fun j hj ho => ho.elim (fun h => by omega) fun ⟨u, hu, _⟩ => by rw [hd] at hu; simp at hu)
theorem Rg.rnd {κ ν : Type} [DecidableEq κ] {kk : κ → Value} {d : VK ν} {B0 r it : Nat} {E : List TypeId} {w w' : World} {μ : κ → Option ν} {vs : List κ} (h : Rg kk d 0 B0 w r it μ vs) (m : Rnd E w w') (ht : tMap ∉ E ∧ tIter ∉ E) (hd : d.E = []) : Rg kk d 0 B0 w' r it μ vs := by
  have hM := h.mp 0 (Nat.zero_le _)
  obtain ⟨es, clock, l, since, seen, c0, hm, hT, h1, h2⟩ := h.ex
  have hi : ty w it = some tIter := by unfold Eng.ty; rw [h1]
  exact h.keep (fun hl => m.old r tMap hM.tyOf ht.1) (fun hl => m.old it tIter hi ht.2) (fun j hj ho => ho.elim (fun h => by omega) fun ⟨u, hu, _⟩ => by rw [hd] at hu; simp at hu)
theorem iter_rl (B : Nat) : ∀ A C : World, Mod B tIter A C → A.heap.size ≤ C.heap.size ∧ ∀ k, ty A k = none → k < A.heap.size → C.heap[k]? = A.heap[k]? := fun _ _ h => ⟨h.size, fun k hk hl => h.old k hl (.inr (by rw [hk]; simp))⟩
def encH (x : Hash) : List Value := [.agg (hv x)]
theorem sl1_blk {e B : Nat} {w : World} {g : Nat} {p : Option Addr} {n c : Nat} {x : By} (hB : Blk w g #[.slice p n c] e) (h : Sl kByte 5 B w p n c x) : Sl (kSl kByte 5) e B w (some ⟨g, 0, none⟩) 1 1 [x] := by
  refine ⟨rfl, Nat.le_refl _, by omega, [[.slice p n c]], ⟨⟨p, n, c, rfl, h⟩, trivial⟩, ⟨⟨fun _ => rfl, fun j v hv => ?_⟩, fun _ => .inr hB.ty⟩⟩
  cases j with
  | zero => simp at hv; subst hv; exact hB.cell rfl
  | succ j => simp at hv
def sub (w : World) (Z : Nat) : Nat → Prop := fun j => w.heap.size ≤ j ∧ j < Z
theorem Cst.sub {S : Nat → Prop} {w w' : World} {g gd : Nat} {C : CS} (h : Cst S w' g gd C) (hS : ∀ j, S j → w.heap.size ≤ j) : Cst (sub w w'.heap.size) w' g gd C := h.mono fun j hj hs => ⟨hS j hs, hj⟩
theorem out_new {B Z n c : Nat} {w w' : World} {p : Option Addr} {e : TypeId} {xs : By} {g : Nat} (h : Sl kByte e B w' p n c xs) (hp : p = some ⟨g, 0, none⟩) (hg : Z ≤ g) : Out (sub w Z) w' p n c xs :=
  Out.ofSl h fun _ hs => by subst hp; have := hs.2; show False; have h2 : ab (some (⟨g, 0, none⟩ : Addr)) < Z := hs.2; exact absurd h2 (by show ¬ g < Z; omega)
end Go.Proofs.Eng
end
section
set_option maxRecDepth 100000
set_option maxHeartbeats 4000000
namespace Go.Proofs.Eng
open Go.RowKit
open Extern.Stop (cell)
theorem slices_Clone_hash (xs : List Hash) (B : Nat) (p : Option Addr) (n c : Nat) (w : World) (hl : Sl kHash 64 B w p n c xs) (hs : n ≤ 4194304000) :
    Ret Tryz.prog 88 [.slice p n c] w (fun v w' => (∃ q c', v = .slice q n c' ∧ Own kHash 64 0 w.heap.size w' q n c' xs) ∧ Ext w w') := by
 have hX := Ext.refl w
 refine enter 8 _ Tryz.func88 rfl rfl (Nat.le_of_ble_eq_true rfl) rfl ?_
 refine c_seq (r_plain ?_)
 refine p1 (x_assign (by conv => lhs; whnf)) ?_
 refine r_nil (t_n (c_seq (c_seq (r_plain ?_))))
 refine p1 (x_move (by conv => lhs; whnf)) ?_
 refine p1 (x_eql_slnil u54 rfl rfl) ?_
 refine r_nil (t_n ?_)
 first | refine c_dec rfl (fun hc4 => ?_) (fun hc4 => ?_) | refine c_if rfl (fun hc4 => ?_) (fun hc4 => ?_)
 ·try simp only [dA, dB, dC, dD, dE, dF, dG, Int.not_lt, Int.not_le] at hc4
  have hn : n = 0 := by
    rcases Nat.eq_zero_or_pos n with h | h
    · exact h
    · have := hl.adr kHash_pos h; rw [hc4] at this; cases this
  have hx0 : xs = [] := List.eq_nil_of_length_eq_zero (by rw [hl.len, hn])
  have hp : Own kHash 64 0 w.heap.size w none 0 0 xs := by rw [hx0]; exact Own.nil _ _ _ _ _
  refine c_seq (r_plain ?_)
  refine p1 (x_assign (by conv => lhs; whnf)) ?_
  refine r_nil (t_n (c_ret (t_r ?_)))
  refine end1 rfl (by conv => lhs; whnf) ?_
  first | (subst hn; exact ⟨⟨none, 0, rfl, hp⟩, hX⟩) | exact ⟨⟨_, _, by rw [Nat.zero_add], by rw [List.nil_append, Nat.zero_add] at hO; exact hO⟩, hX⟩
 ·try simp only [dA, dB, dC, dD, dE, dF, dG, Int.not_lt, Int.not_le] at hc4
  refine c_skip (t_n (c_seq (r_plain ?_)))
  refine o_buildSlice u54 inf64 rfl (by decide) (fun base hb => by have h0 : base = #[] := Array.eq_empty_of_size_eq_zero (by simpa using hb); subst h0; rfl) ?_
  intro w1 g5 hN5
  have hE1 := hN5.ext
  have hX := hX.ext hE1
  have hO : Own kHash 64 0 w.heap.size w1 (some ⟨g5, 0, none⟩) 0 0 [] := Own.made kHash 64 0 _ hN5 [] [] 0 0 rfl trivial (by have := hX.size; have := hN5.g_eq; have := hN5.ext.size; omega) (by omega) (by omega) (by rfl) (by simp)
  refine p1 (x_move (by conv => lhs; whnf)) ?_
  have hB0 := hX.size
  have hl2 := hl.ext hX
  refine o_append (d := kHash) (xs) u54 inf64 rfl kHash_pos rfl rfl hO (src_pure u54 hl2 (by decide)) hl.len (hash_all _ _ _) (rfl) (by omega) (by omega) (by omega) (by omega) (by decide) ?_
  intro p7 c7 w2 hO hM2
  have hX := hX.mod hM2 (Nat.le_refl _)
  refine p1 (x_assign (by conv => lhs; whnf)) ?_
  refine r_nil (t_n (c_ret ?_))
  refine end1 rfl (by conv => lhs; whnf) ?_
  first | (subst hn; exact ⟨⟨none, 0, rfl, hp⟩, hX⟩) | exact ⟨⟨_, _, by rw [Nat.zero_add], by rw [List.nil_append, Nat.zero_add] at hO; exact hO⟩, hX⟩
theorem slices_Compact_hash (xs : List Hash) (B0 : Nat) (p : Option Addr) (n c : Nat) (w : World) (hO : Own kHash 64 0 B0 w p n c xs) :
    Ret Tryz.prog 91 [.slice p n c] w (fun v w' => ∃ m, m ≤ n ∧ v = .slice p m c ∧ Own kHash 64 0 B0 w' p m c (cpt xs n) ∧ Mod B0 64 w w') := by
 have hX := Mod.refl B0 64 w
 refine enter 61 _ Tryz.func91 rfl rfl (Nat.le_of_ble_eq_true rfl) rfl ?_
 refine c_seq (r_plain ?_)
 refine p1 (x_assign (by conv => lhs; whnf)) ?_
 refine r_nil (t_n (c_seq (c_seq ?_)))
 have hlen := hO.len
 have hsm := hO.small
 refine r_plain ?_
 refine p1 (x_move (by conv => lhs; whnf)) ?_
 refine p1 (x_len_slice u54 rfl) ?_
 refine p1 (x_lss rfl rfl) ?_
 refine r_nil (t_n ?_)
 first | refine c_dec rfl (fun hc8 => ?_) (fun hc8 => ?_) | refine c_if rfl (fun hc8 => ?_) (fun hc8 => ?_)
 ·try simp only [dA, dB, dC, dD, dE, dF, dG, Int.not_lt, Int.not_le] at hc8
  have hp : cpt xs n = xs := by rw [cpt_take n (by omega) (fun i h1 h2 => by omega), List.take_of_length_le (by omega)]
  refine c_seq (r_plain ?_)
  refine p1 (x_move (by conv => lhs; whnf)) ?_
  refine p1 (x_assign (by conv => lhs; whnf)) ?_
  refine r_nil (t_n (c_ret (t_r ?_)))
  refine end1 rfl (by conv => lhs; whnf) ?_
  first | exact ⟨n, Nat.le_refl _, rfl, (by rw [hp]; exact hO), hX⟩ | exact ⟨m, by omega, rfl, (by rw [← hmt]; exact hO), hX⟩
 ·try simp only [dA, dB, dC, dD, dE, dF, dG, Int.not_lt, Int.not_le] at hc8
  refine c_skip (t_n (c_seq (c_seq (r_plain ?_))))
  refine p1 (x_assign (by conv => lhs; whnf)) ?_
  refine r_nil (t_n (c_block ?_))
  have hWL0 := Ext.refl w
  refine c_loop (ι := Nat) [2, 3, 4, 5, 10, 11, 12, 13, 14, 15, 16, 17, 18, 19, 20, 21, 22, 23, 24, 25, 26, 27, 28, 29, 30, 31, 32, 33, 34, 35, 36, 37, 38, 39, 40, 41, 42, 43, 44, 45, 46, 47, 48, 49, 50, 51, 52, 53, 54, 55, 56, 57, 58, 59] (fun k => [(3, .int .i64 (k : Int))]) (fun k w' => Ext w w' ∧ (1 ≤ k ∧ k ≤ n ∧ ∀ i, 0 < i → i < k → xs.getD i default ≠ xs.getD (i - 1) default)) (fun k => n - k) (1) ⟨rfl, trivial⟩ ⟨Ext.refl _, ⟨by omega, by omega, fun i h1 h2 => by omega⟩⟩ ?_
  rintro k GL0 w1 ⟨hE1, hk1, hkn, hL⟩
  have hX := hX.ext hE1
  have hO := hO.ext hE1
  have hWL0 := hE1
  refine c_seq (c_seq (r_plain ?_))
  refine p1 (x_move (by conv => lhs; whnf)) ?_
  refine p1 (x_move (by conv => lhs; whnf)) ?_
  refine p1 (x_len_slice u54 rfl) ?_
  refine p1 (x_lss rfl rfl) ?_
  refine r_nil (t_n ?_)
  first | refine c_dec rfl (fun hc13 => ?_) (fun hc13 => ?_) | refine c_if rfl (fun hc13 => ?_) (fun hc13 => ?_)
  ·try simp only [dA, dB, dC, dD, dE, dF, dG, Int.not_lt, Int.not_le] at hc13
   refine c_skip (t_n (c_seq (c_block (c_seq ?_))))
   refine r_still mixed (by kernel_rfl) ?_
   intro w2 hE2
   have hX := hX.ext hE2
   have hO := hO.ext hE2
   have hWL0 := hWL0.ext hE2
   refine s1 (x_move (by conv => lhs; whnf)) ?_
   refine s1 (x_move (by conv => lhs; whnf)) ?_
   refine s1 (x_ixs u54 sz64 rfl rfl (hO.sl.adr kHash_pos (by omega)) (by omega) (by omega)) ?_
   refine s1 (x_loadN ua64 rfl (hcs_sz sz64 _) (hO.sl.hashAt _ (by omega) (by omega))) ?_
   refine s1 (x_move (by conv => lhs; whnf)) ?_
   refine s1 (x_move (by conv => lhs; whnf)) ?_
   refine s1 (x_sub rfl rfl (fits_i64 (by omega) (by omega))) ?_
   refine s1 (x_ixs u54 sz64 rfl rfl (hO.sl.adr kHash_pos (by omega)) (by omega) (by omega)) ?_
   refine s1 (x_loadN ua64 rfl (hcs_sz sz64 _) (hO.sl.hashAt _ (by omega) (by omega))) ?_
   refine s1 (x_eql_bytes u64 u5 sz5 eg64 rfl rfl (xs.getD _ default).2 (xs.getD _ default).2) ?_
   refine s_nil (t_n ?_)
   first | refine c_dec rfl (fun hc25 => ?_) (fun hc25 => ?_) | refine c_if rfl (fun hc25 => ?_) (fun hc25 => ?_)
   ·try simp only [dA, dB, dC, dD, dE, dF, dG, Int.not_lt, Int.not_le] at hc25
    have hq : xs.getD k default = xs.getD (k - 1) default := by have := Subtype.ext hc25; rw [show ((k : Int) - 1).toNat = k - 1 from by omega, Int.toNat_natCast] at this; exact this
    have hq2 : cpt xs (k + 1) = xs.take k := by rw [cpt_eq (by omega) hq, cpt_take k (by omega) hL]
    refine c_seq (r_plain ?_)
    refine p1 (x_move (by conv => lhs; whnf)) ?_
    refine p1 (x_move (by conv => lhs; whnf)) ?_
    refine p1 (x_slice_lN u54 sz64 rfl rfl (by omega)) ?_
    refine p1 (x_assign (by conv => lhs; whnf)) ?_
    refine r_nil (t_n (c_seq (c_seq (r_plain ?_))))
    refine p1 (x_assign (by conv => lhs; whnf)) ?_
    refine r_nil (t_n (c_block ?_))
    refine c_loop (ι := Nat × Nat × List Hash) [3, 5, 29, 30, 31, 32, 33, 34, 35, 36, 37, 38, 39, 40, 41, 42, 43, 44, 45, 46, 47, 48, 49, 50, 51, 52, 53] (fun (j, m, zs) => [(3, .int .i64 (m : Int)), (5, .int .i64 (j : Int))]) (fun (j, m, zs) w' => Mod B0 64 w w' ∧ (Own kHash 64 0 B0 w' p n c zs ∧ 1 ≤ j ∧ k + j ≤ n ∧ m < k + j ∧ m = (cpt xs (k + j)).length ∧ zs.take m = cpt xs (k + j) ∧ zs.drop (k + j - 1) = xs.drop (k + j - 1))) (fun (j, m, zs) => n - k - j) ((1, k, xs)) ⟨rfl, rfl, trivial⟩ ⟨hX, ⟨hO, by omega, by omega, by omega, by rw [hq2, List.length_take]; omega, hq2.symm, rfl⟩⟩ ?_
    rintro ⟨j, m, zs⟩ GL2 w3 ⟨hE3, hO, hj1, hjn, hmk, hml, hmt, hmd⟩
    have hX := hE3
    refine c_seq (c_seq (r_plain ?_))
    refine p1 (x_move (by conv => lhs; whnf)) ?_
    refine p1 (x_move (by conv => lhs; whnf)) ?_
    refine p1 (x_len_slice u54 rfl) ?_
    refine p1 (x_lss rfl rfl) ?_
    refine r_nil (t_n ?_)
    first | refine c_dec rfl (fun hc32 => ?_) (fun hc32 => ?_) | refine c_if rfl (fun hc32 => ?_) (fun hc32 => ?_)
    ·try simp only [dA, dB, dC, dD, dE, dF, dG, Int.not_lt, Int.not_le] at hc32
     refine c_skip (t_n (c_seq (c_block (c_seq ?_))))
     have hlz := hO.len
     have ez : ∀ i, k + j - 1 ≤ k + i → (zs.drop k).getD i default = xs.getD (k + i) default := fun i hi => by
       have h1 := congrArg (fun l => l.getD (k + i - (k + j - 1)) default) hmd
       simp only [List.getD_eq_getElem?_getD, List.getElem?_drop] at h1 ⊢
       rw [show k + j - 1 + (k + i - (k + j - 1)) = k + i from by omega] at h1
       exact h1
     refine r_still mixed (by kernel_rfl) ?_
     intro w4 hE4
     have hX := hX.ext hE4
     have hO := hO.ext hE4
     refine s1 (x_move (by conv => lhs; whnf)) ?_
     refine s1 (x_move (by conv => lhs; whnf)) ?_
     refine s1 (x_ixs u54 sz64 rfl rfl ((hO.sl.dropI k (by omega)).adr kHash_pos (by omega)) (by omega) (by omega)) ?_
     refine s1 (x_loadN ua64 rfl (hcs_sz sz64 _) ((hO.sl.dropI k (by omega)).hashAt _ (by omega) (by omega))) ?_
     refine s1 (x_move (by conv => lhs; whnf)) ?_
     refine s1 (x_move (by conv => lhs; whnf)) ?_
     refine s1 (x_sub rfl rfl (fits_i64 (by omega) (by omega))) ?_
     refine s1 (x_ixs u54 sz64 rfl rfl ((hO.sl.dropI k (by omega)).adr kHash_pos (by omega)) (by omega) (by omega)) ?_
     refine s1 (x_loadN ua64 rfl (hcs_sz sz64 _) ((hO.sl.dropI k (by omega)).hashAt _ (by omega) (by omega))) ?_
     refine s1 (x_neq_bytes u64 u5 sz5 eg64 rfl rfl ((zs.drop k).getD _ default).2 ((zs.drop k).getD _ default).2) ?_
     refine s_nil (t_n ?_)
     first | refine c_dec rfl (fun hc44 => ?_) (fun hc44 => ?_) | refine c_if rfl (fun hc44 => ?_) (fun hc44 => ?_)
     ·try simp only [dA, dB, dC, dD, dE, dF, dG, Int.not_lt, Int.not_le] at hc44
      have hne : xs.getD (k + j) default ≠ xs.getD (k + j - 1) default := fun e => hc44 (by rw [show ((j : Int) - 1).toNat = j - 1 from by omega, Int.toNat_natCast, ez j (by omega), ez (j - 1) (by omega), show k + (j - 1) = k + j - 1 from by omega, e])
      have hcp : cpt xs (k + j + 1) = cpt xs (k + j) ++ [xs.getD (k + j) default] := cpt_ne hne
      have ey : (zs.drop k).getD ((j : Int)).toNat default = xs.getD (k + j) default := by rw [Int.toNat_natCast, ez j (by omega)]
      refine c_seq (r_plain ?_)
      refine p1 (x_move (by conv => lhs; whnf)) ?_
      refine p1 (x_move (by conv => lhs; whnf)) ?_
      refine p1 (x_move (by conv => lhs; whnf)) ?_
      refine p1 (x_move (by conv => lhs; whnf)) ?_
      refine p1 (x_ixs u54 sz64 rfl rfl ((hO.sl.dropI k (by omega)).adr kHash_pos (by omega)) (by omega) (by omega)) ?_
      refine p1 (x_loadN ua64 rfl (hcs_sz sz64 _) ((hO.sl.dropI k (by omega)).hashAt _ (by omega) (by omega))) ?_
      refine p1 (x_ixs u54 sz64 rfl rfl (hO.sl.adr kHash_pos (by omega)) (by omega) (by omega)) ?_
      refine o_storeSl (d := kHash) (i := m) ((zs.drop k).getD ((j : Int)).toNat default) rfl rfl hO (by omega) rfl sz64 (Nat.zero_le _) (by decide) ?_
      intro w5 hO hM5
      have hX := hX.mod hM5 (trivial)
      refine r_nil (t_n (r_plain ?_))
      refine p1 (x_move (by conv => lhs; whnf)) ?_
      refine p1 (x_add rfl rfl (fits_i64 (by omega) (by omega))) ?_
      refine p1 (x_assign (by conv => lhs; whnf)) ?_
      refine r_nil (b_n (t_n (r_plain ?_)))
      refine p1 (x_move (by conv => lhs; whnf)) ?_
      refine p1 (x_add rfl rfl (fits_i64 (by omega) (by omega))) ?_
      refine p1 (x_assign (by conv => lhs; whnf)) ?_
      refine r_nil ?_
      first
        | exact t_n (At.mk ((j + 1, m + 1, zs.set m ((zs.drop k).getD ((j : Int)).toNat default))) (by repeat (first | exact Agr.refl _ _ | exact Agr.hav _ _ _ | refine Agr.upd rfl ?_ | refine Agr.updR rfl ?_ | refine Agr.updL ?_ _ rfl | refine Agr.hav' rfl ?_)) ⟨rfl, rfl, trivial⟩ ⟨⟨hX, hO, by omega, by omega, by omega, by rw [← Nat.add_assoc, hcp, List.length_append, ← hml]; rfl, by rw [← Nat.add_assoc, hcp, ey, List.take_succ_eq_append_getElem (by rw [List.length_set]; omega), List.getElem_set_self, List.take_set_of_le (Nat.le_refl _), hmt], by rw [List.drop_set_of_lt (by omega)]; exact drop_more hmd (by omega)⟩, by first | (dsimp only; omega) | ((show _ < _); omega)⟩)
        | exact t_n (At.mk ((j + 1, m, zs)) (by repeat (first | exact Agr.refl _ _ | exact Agr.hav _ _ _ | refine Agr.upd rfl ?_ | refine Agr.updR rfl ?_ | refine Agr.updL ?_ _ rfl | refine Agr.hav' rfl ?_)) ⟨rfl, rfl, trivial⟩ ⟨⟨hX, hO, by omega, by omega, by omega, by rw [← Nat.add_assoc, hcp]; exact hml, by rw [← Nat.add_assoc, hcp]; exact hmt, drop_more hmd (by omega)⟩, by first | (dsimp only; omega) | ((show _ < _); omega)⟩)
     ·try simp only [dA, dB, dC, dD, dE, dF, dG, Int.not_lt, Int.not_le] at hc44
      have heq : xs.getD (k + j) default = xs.getD (k + j - 1) default := by
        have h1 := Subtype.ext (Classical.byContradiction hc44)
        rw [show ((j : Int) - 1).toNat = j - 1 from by omega, Int.toNat_natCast, ez j (by omega), ez (j - 1) (by omega), show k + (j - 1) = k + j - 1 from by omega] at h1
        exact h1
      have hcp : cpt xs (k + j + 1) = cpt xs (k + j) := cpt_eq (by omega) heq
      refine c_skip (b_n (t_n (r_plain ?_)))
      refine p1 (x_move (by conv => lhs; whnf)) ?_
      refine p1 (x_add rfl rfl (fits_i64 (by omega) (by omega))) ?_
      refine p1 (x_assign (by conv => lhs; whnf)) ?_
      refine r_nil ?_
      first
        | exact t_n (At.mk ((j + 1, m + 1, zs.set m ((zs.drop k).getD ((j : Int)).toNat default))) (by repeat (first | exact Agr.refl _ _ | exact Agr.hav _ _ _ | refine Agr.upd rfl ?_ | refine Agr.updR rfl ?_ | refine Agr.updL ?_ _ rfl | refine Agr.hav' rfl ?_)) ⟨rfl, rfl, trivial⟩ ⟨⟨hX, hO, by omega, by omega, by omega, by rw [← Nat.add_assoc, hcp, List.length_append, ← hml]; rfl, by rw [← Nat.add_assoc, hcp, ey, List.take_succ_eq_append_getElem (by rw [List.length_set]; omega), List.getElem_set_self, List.take_set_of_le (Nat.le_refl _), hmt], by rw [List.drop_set_of_lt (by omega)]; exact drop_more hmd (by omega)⟩, by first | (dsimp only; omega) | ((show _ < _); omega)⟩)
        | exact t_n (At.mk ((j + 1, m, zs)) (by repeat (first | exact Agr.refl _ _ | exact Agr.hav _ _ _ | refine Agr.upd rfl ?_ | refine Agr.updR rfl ?_ | refine Agr.updL ?_ _ rfl | refine Agr.hav' rfl ?_)) ⟨rfl, rfl, trivial⟩ ⟨⟨hX, hO, by omega, by omega, by omega, by rw [← Nat.add_assoc, hcp]; exact hml, by rw [← Nat.add_assoc, hcp]; exact hmt, drop_more hmd (by omega)⟩, by first | (dsimp only; omega) | ((show _ < _); omega)⟩)
    ·try simp only [dA, dB, dC, dD, dE, dF, dG, Int.not_lt, Int.not_le] at hc32
     have hjj : k + j = n := by omega
     have hlz := hO.len
     rw [hjj] at hmt
     refine c_exit (t_e (t_e (b_hit (t_n (c_seq (r_plain ?_))))))
     refine p1 (x_move (by conv => lhs; whnf)) ?_
     refine p1 (x_move (by conv => lhs; whnf)) ?_
     refine p1 (x_slice_lN u54 sz64 rfl rfl (by omega)) ?_
     refine o_clear (d := kHash) u54 inf64 rfl (by decide) kHash_pos rfl hO (by omega) (Nat.zero_le _) (by decide) ?_
     intro w6 hO hM6
     have hX := hX.mod hM6 (trivial)
     refine r_nil (t_n (c_seq (r_plain ?_)))
     refine p1 (x_move (by conv => lhs; whnf)) ?_
     refine p1 (x_move (by conv => lhs; whnf)) ?_
     refine p1 (x_slice_hN u54 sz64 rfl rfl (by omega)) ?_
     refine p1 (x_assign (by conv => lhs; whnf)) ?_
     refine r_nil (t_n (c_ret (b_r (t_r (t_r (b_r (t_r ?_)))))))
     refine end1 rfl (by conv => lhs; whnf) ?_
     first | exact ⟨n, Nat.le_refl _, rfl, (by rw [hp]; exact hO), hX⟩ | exact ⟨m, by omega, rfl, (by rw [← hmt]; exact hO), hX⟩
   ·try simp only [dA, dB, dC, dD, dE, dF, dG, Int.not_lt, Int.not_le] at hc25
    have hq : xs.getD k default ≠ xs.getD (k - 1) default := fun e => hc25 (by rw [show ((k : Int) - 1).toNat = k - 1 from by omega, Int.toNat_natCast, e])
    refine c_skip (b_n (t_n (r_plain ?_)))
    refine p1 (x_move (by conv => lhs; whnf)) ?_
    refine p1 (x_add rfl rfl (fits_i64 (by omega) (by omega))) ?_
    refine p1 (x_assign (by conv => lhs; whnf)) ?_
    refine r_nil ?_
    refine t_n (At.mk (k + 1) (by repeat (first | exact Agr.refl _ _ | exact Agr.hav _ _ _ | refine Agr.upd rfl ?_ | refine Agr.updR rfl ?_ | refine Agr.updL ?_ _ rfl | refine Agr.hav' rfl ?_)) ⟨rfl, trivial⟩ ?_)
    exact ⟨⟨hWL0, ⟨by omega, by omega, fun i h1 h2 => if h : i < k then hL i h1 h else by rw [show i = k from by omega]; exact hq⟩⟩, by first | (dsimp only; omega) | ((show _ < _); omega)⟩
  ·try simp only [dA, dB, dC, dD, dE, dF, dG, Int.not_lt, Int.not_le] at hc13
   have hp : cpt xs n = xs := by rw [cpt_take n (by omega) (fun i h1 h2 => hL i h1 (by omega)), List.take_of_length_le (by omega)]
   refine c_exit (t_e (t_e (b_hit (t_n (c_seq (r_plain ?_))))))
   refine p1 (x_move (by conv => lhs; whnf)) ?_
   refine p1 (x_assign (by conv => lhs; whnf)) ?_
   refine r_nil (t_n (c_ret ?_))
   refine end1 rfl (by conv => lhs; whnf) ?_
   first | exact ⟨n, Nat.le_refl _, rfl, (by rw [hp]; exact hO), hX⟩ | exact ⟨m, by omega, rfl, (by rw [← hmt]; exact hO), hX⟩
end Go.Proofs.Eng
end
section
set_option maxRecDepth 100000
set_option maxHeartbeats 4000000
namespace Go.Proofs.Eng
open Go.RowKit
open Extern.Stop (cell)
theorem hashes_Sort (xs : List Hash) (B : Nat) (p : Option Addr) (n c : Nat) (w : World) (hl : Sl kHash 64 B w p n c xs) (hs : n ≤ 4194304000) :
    Ret Tryz.prog 39 [.slice p n c] w (fun v w' => (∃ q m c', v = .slice q m c' ∧ m ≤ n ∧ Own kHash 64 0 w.heap.size w' q m c' (srt xs)) ∧ Ext w w') := by
 have hX := Ext.refl w
 refine enter 10 _ Tryz.func39 rfl rfl (Nat.le_of_ble_eq_true rfl) rfl ?_
 refine c_seq (r_plain ?_)
 refine p1 (x_assign (by conv => lhs; whnf)) ?_
 refine r_nil (t_n (c_seq (r_plain ?_)))
 refine p1 (x_move (by conv => lhs; whnf)) ?_
 refine o_call Tryz.func88 fn88 fb88 (slices_Clone_hash xs B p n c _ (hl.ext hX) hs) rfl ?_
 rintro v1 w1 ⟨⟨q, c1, rfl, hO⟩, hE1⟩
 have hX := hX.ext hE1
 refine p1 (x_assign (by conv => lhs; whnf)) ?_
 refine r_nil (t_n (c_seq (r_plain ?_)))
 refine p1 (x_move (by conv => lhs; whnf)) ?_
 refine o_call Tryz.func89 fn89 fb89 (slices_SortFunc_hash xs _ _ _ _ _ hO hs) rfl ?_
 rintro v2 w2 ⟨ys, hO, hpm, hso, hM2⟩
 have hX := hX.mod hM2 (Nat.le_refl _)
 refine r_nil (t_n (c_seq (r_plain ?_)))
 refine p1 (x_move (by conv => lhs; whnf)) ?_
 refine o_call Tryz.func91 fn91 fb91 (slices_Compact_hash ys _ _ _ _ _ hO) rfl ?_
 rintro v3 w3 ⟨m, hm, rfl, hO2, hM3⟩
 have hX := hX.mod hM3 (Nat.le_refl _)
 refine p1 (x_assign (by conv => lhs; whnf)) ?_
 refine r_nil (t_n (c_ret ?_))
 refine end1 rfl (by conv => lhs; whnf) ?_
 exact ⟨⟨_, _, _, rfl, hm, by rw [← srt_cpt hpm hso hO.len]; exact hO2⟩, hX⟩
end Go.Proofs.Eng
end
section
set_option maxRecDepth 100000
set_option maxHeartbeats 4000000
namespace Go.Proofs.Eng
open Go.RowKit
open Extern.Stop (cell)
theorem fb125 : Tryz.f125.body.isNone = false := by kernel_rfl
theorem fn125 : (Tryz.f125.name == "runtime.NumGoroutine") = false := by kernel_rfl
theorem sz54 : (Tryz.prog.info? 54).map (·.size) = some 1 := by kernel_rfl
theorem un54 : (Tryz.prog.underlying 54).map TypeDesc.isRow = some false := by kernel_rfl
end Go.Proofs.Eng
end
section
set_option maxRecDepth 100000
set_option maxHeartbeats 4000000
namespace Go.Proofs.Eng
open Go.RowKit
open Extern.Stop (cell)
theorem keysC_run (r gb N0 : Nat) (μ : Hash → Option R3) (hks : ∀ vs : List Hash, vs.Nodup → (∀ z ∈ vs, μ z ≠ none) → vs.length ≤ N0) (B9 : Nat) (E : List TypeId) (hE : tMap ∉ E ∧ tIter ∉ E) (l : Nat) (J Jx : List Hash → World → Prop) (w : World) (hM : Mp kkHash vCh 0 0 w r μ) (hb : Blk w gb #[.map (some r)] 88) (hB9 : B9 ≤ w.heap.size)
    (hJ : Hd J (Mod B9 tIter) [] w) (hY : ∀ pre x W1, J pre W1 → pre.length < N0 → YieldAt (fnc none) 0 Tryz.prog l (encH x).toArray W1 fun e W' => (e = .returned (.bool true) ∧ J (pre ++ [x]) W' ∧ Rnd E W1 W') ∨ (e = .returned (.bool false) ∧ Jx (pre ++ [x]) W')) :
    Ret Tryz.prog 125 [.func (.yield l) #[] #[], .pointer (some ⟨gb, 0, none⟩)] w (fun v w' => (∃ xs, (fun xs : List Hash => xs.Nodup ∧ ∀ z, z ∈ xs ↔ μ z ≠ none) xs ∧ J xs w') ∨ (∃ pre, True ∧ Jx pre w')) := by
 have hX := Tv.mk
 refine enter 14 _ Tryz.func125 rfl rfl (Nat.le_of_ble_eq_true rfl) rfl ?_
 refine c_seq (r_plain ?_)
 refine p1 (x_load1 un88 rfl (hb.cell (rfl))) ?_
 refine o_range u88 rfl hM ?_
 intro w1 it5 hE1 hit5 hK5
 have hX := hX.ext hE1
 have hb := hb.ext hE1
 have hM := hM.ext hE1
 have hJ := hJ.ext hE1
 have hR := hK5 B9 hB9
 refine r_nil (t_n (c_block ?_))
 refine c_loop (ι := List Hash) [3, 6, 7, 8, 9, 10, 11, 12, 13] (fun vs => []) (fun vs w' => Tv ∧ (Hd J (Mod B9 tIter) vs w' ∧ Rg kkHash vCh 0 B9 w' r it5 μ vs)) (fun vs => N0 - vs.length) ([]) trivial ⟨hX, ⟨hJ, hR⟩⟩ ?_
 rintro vs GL0 w2 ⟨hE2, hJ, hR⟩
 have hX := hE2
 have hvl := hks vs hR.nd hR.sub
 refine c_seq (r_plain ?_)
 refine o_next rfl hR (Nat.zero_le _) (by decide) (fun hdone6 => ?_) (fun w3 a6 b6 v6 hna6 hmu6 hR hM3 => ?_)
 ·skip
  refine p1 (x_extract rfl rfl) ?_
  refine r_nil (t_n (c_seq ?_))
  refine c_f rfl ?_
  have hall : ∀ z, z ∈ vs ↔ μ z ≠ none := fun z => ⟨hR.sub z, hdone6 z⟩
  refine c_exit (t_e (t_e (b_hit ?_)))
  refine end0n rfl ?_
  first
    | exact .inr ⟨_, trivial, hJx⟩
    | exact .inl ⟨vs, ⟨hR.nd, hall⟩, hJ.h⟩
 ·skip
  have hX := Tv.mk
  have hJ := hJ.rel hM3
  have hvl2 := hks _ hR.nd hR.sub
  simp only [List.length_append, List.length_cons, List.length_nil] at hvl2
  refine p1 (x_extract rfl rfl) ?_
  refine r_nil (t_n (c_seq ?_))
  refine c_t rfl ?_
  refine c_skip (t_n (c_block (c_seq ?_)))
  obtain ⟨b6, v6, hb6, hv6, hen6⟩ := hR.entry
  have hJ0 := hJ
  have hR0 := hR
  refine r_plain ?_
  refine p1 (hen6 rfl) ?_
  refine p1 (x_extract rfl rfl) ?_
  refine o_alloc zr64 ?_
  intro w4 g3 hN3
  have hE4 := hN3.ext
  have hX := hX.ext hE4
  have hJ := hJ.ext hE4
  have hR := hR.ext hE4
  have hB3 := hN3.blk
  refine o_storeAll rfl rfl (kHash_one _) (hv_sz sz64 _) hB3 (hv_size _) ?_
  intro w5 hP5
  have hX := hX.put hP5 (True.intro)
  have hJ := hJ0.ext (hN3.ext.put hP5 (by rw [hN3.g_eq]; exact Nat.le_refl _))
  have hR := hR0.ext (hN3.ext.put hP5 (by rw [hN3.g_eq]; exact Nat.le_refl _))
  have hB3 := hP5.blk
  refine r_nil (t_n (c_seq ?_))
  refine Wf.toWp (f_plainY 2 rfl ?_)
  refine p1 (x_move (by conv => lhs; whnf)) ?_
  refine p1 (x_loadB ua64 rfl hB3 (hv_sz sz64 _)) ?_
  refine r_nil (t_n ?_)
  refine o_yield rfl rfl (hY vs a6 _ hJ.h (by omega)) (fun e w0 hr => by rcases hr with ⟨h, _⟩ | ⟨h, _⟩ <;> exact ⟨_, h⟩) ?_
  rintro v6 w6 (⟨hv6, hJ6, hRn6⟩ | ⟨hv6, hJx6⟩) <;> cases hv6
  ·skip
   have hR := hR.rnd hRn6 hE rfl
   have hJ : Hd J (Mod B9 tIter) (vs ++ [a6]) _ := hJ.to hJ6
   refine f_rest rfl ?_
   refine p1 (x_not rfl) ?_
   refine r_nil (t_n (t_n ?_))
   refine c_f rfl ?_
   refine c_skip (b_n ?_)
   refine t_n (At.mk (vs ++ [a6]) (by repeat (first | exact Agr.refl _ _ | exact Agr.hav _ _ _ | refine Agr.upd rfl ?_ | refine Agr.updR rfl ?_ | refine Agr.updL ?_ _ rfl | refine Agr.hav' rfl ?_)) trivial ?_)
   exact ⟨⟨hX, ⟨hJ, hR⟩⟩, by show N0 - (vs ++ [a6]).length < N0 - vs.length; simp only [List.length_append, List.length_cons, List.length_nil]; omega⟩
  ·skip
   have hJx := hJx6
   refine f_rest rfl ?_
   refine p1 (x_not rfl) ?_
   refine r_nil (t_n (t_n ?_))
   refine c_t rfl ?_
   refine c_ret (b_r (t_r (b_r ?_)))
   refine end0 rfl ?_
   first
     | exact .inr ⟨_, trivial, hJx⟩
     | exact .inl ⟨vs, ⟨hR.nd, hall⟩, hJ.h⟩
theorem keysC_seq (r gb N0 : Nat) (μ : Hash → Option R3) (hks : ∀ vs : List Hash, vs.Nodup → (∀ z ∈ vs, μ z ≠ none) → vs.length ≤ N0) (w : World) (hM : Mp kkHash vCh 0 0 w r μ) (hb : Blk w gb #[.map (some r)] 88) (E : List TypeId) (hE : tMap ∉ E ∧ tIter ∉ E) :
    SeqOk Tryz.prog 125 [.pointer (some ⟨gb, 0, none⟩)] encH (Rnd E) (fun xs : List Hash => xs.Nodup ∧ ∀ z, z ∈ xs ↔ μ z ≠ none) (fun _ => True) (fun pre _ _ => pre.length < N0) (Mod w.heap.size tIter) w :=
  ⟨fun l J Jx W hx hJ hJx hY h0 => Calls.mono (keysC_run r gb N0 μ hks w.heap.size E hE l J Jx W (hM.ext hx) (hb.ext hx) hx.size ⟨h0, hJ, fun _ _ h => .ofExt h⟩ (fun pre x W1 h1 h2 => hY pre x W1 h1 h2)).out
    fun e w' ⟨v, he, hr⟩ => ⟨⟨v, he⟩, hr⟩⟩
theorem maps_KeysC (r gb N0 : Nat) (μ : Hash → Option R3) (hks : ∀ vs : List Hash, vs.Nodup → (∀ z ∈ vs, μ z ≠ none) → vs.length ≤ N0) (w : World) (hM : Mp kkHash vCh 0 0 w r μ) :
    Ret Tryz.prog 80 [.map (some r)] w (fun v w' => (∃ lb : List Value, v = .func (.func 125) #[] lb.toArray ∧ SeqOk Tryz.prog 125 lb encH (Rnd [54, 64]) (fun xs : List Hash => xs.Nodup ∧ ∀ z, z ∈ xs ↔ μ z ≠ none) (fun _ => True) (fun pre _ _ => pre.length < N0) (Mod w'.heap.size tIter) w') ∧ Ext w w') := by
 have hX := Ext.refl w
 refine enter 4 _ Tryz.func80 rfl rfl (Nat.le_of_ble_eq_true rfl) rfl ?_
 refine c_seq (r_plain ?_)
 refine o_box1 (by conv => lhs; whnf) rfl ?_
 intro w1 g1 hN1
 have hE1 := hN1.ext
 have hX := hX.ext hE1
 have hM := hM.ext hE1
 have hB1 := hN1.blk
 refine p1 (x_assign (by conv => lhs; whnf)) ?_
 refine r_nil (t_n (c_seq (r_plain ?_)))
 refine p1 (x_makeFunc (fs := []) (cs := [.pointer (some ⟨g1, 0, none⟩)]) rfl rfl) ?_
 refine p1 (x_assign (by conv => lhs; whnf)) ?_
 refine r_nil (t_n (c_ret ?_))
 refine end1 rfl (by conv => lhs; whnf) ?_
 exact ⟨⟨_, rfl, keysC_seq r g1 N0 μ hks _ hM hB1 [54, 64] (by decide)⟩, hX⟩
theorem appendSeqC (lb : List Value) (N0 : Nat) (Sq : List Hash → Prop) (hN : N0 ≤ 4194304) (w : World) (hSeq : SeqOk Tryz.prog 125 lb encH (Rnd [54, 64]) Sq (fun _ => True) (fun pre _ _ => pre.length < N0) (Mod w.heap.size tIter) w) :
    Ret Tryz.prog 124 [.slice none 0 0, .func (.func 125) #[] lb.toArray] w (fun v w' => (∃ (xs : List Hash) (q : Option Addr) (m c : Nat), Sq xs ∧ v = .slice q m c ∧ Own kHash 64 0 w.heap.size w' q m c xs) ∧ Ext w w') := by
 have hX := Ext.refl w
 refine enterM 13 _ Tryz.func124 rfl rfl (Nat.le_of_ble_eq_true rfl) rfl ?_
 refine c_seq (r_plain ?_)
 have hz2 := hX.size
 refine o_box1 (by conv => lhs; whnf) rfl ?_
 intro w1 g2 hN2
 have hE1 := hN2.ext
 have hX := hX.ext hE1
 have hB2 := hN2.blk
 have hq2 := hN2.g_eq
 refine p1 (x_assign (by conv => lhs; whnf)) ?_
 refine r_nil (t_n (c_seq (c_seq (r_plain ?_))))
 refine p1 (x_move (by conv => lhs; whnf)) ?_
 refine r_nil (t_n (c_block ?_))
 have hXr := hX.size
 obtain ⟨B0, hB0⟩ : ∃ b, b = w.heap.size := ⟨_, rfl⟩
 have hg2 := hN2.g_eq
 refine c_rfA (ps := [7]) ([]) (fun pre W => Ext w W ∧ ∃ q m c, Blk W g2 #[.slice q m c] 54 ∧ Own kHash 64 0 w.heap.size W q m c pre) (fun c pre W => False) (fun _ _ h => .ofExt h) rfl rfl Tryz.func125 fn125 fb125 (fun _ _ h => h.size) (fun _ _ h => .ofLp h) (fun _ _ _ h k => h.trans k) (hSeq.ext hX) (fun _ _ _ _ h _ => h) (fun _ _ h => .ofExt h) (iter_rl _) (fun _ => rfl) (by rintro s A B ⟨h1, q, m, c, h2, h3⟩ x; exact ⟨h1.mod x (by omega), q, m, c, h2.mod x (by decide), h3.mod x (Nat.zero_le _) (by decide)⟩) (by rintro s A B ⟨h1, q, m, c, h2, h3⟩ x; exact ⟨h1.lp x hXr, q, m, c, h2.lp x, h3.lp x (Nat.zero_le _)⟩) (fun _ _ _ _ h _ => h) (fun _ _ _ _ h _ => h) (⟨hX, none, 0, 0, hB2, Own.nil _ _ _ _ _⟩) ?_ ?_ ?_
 ·intro l pre x W hsz hI hXx
  obtain ⟨hX, q, m, c, hB2, hO⟩ := hI
  have hol := hO.len
  have hXa := Ext.refl W
  refine f_plain rfl ?_
  have hOlt0 := hO.below
  have hz5 := hX.size
  have hl5_2 := hB2.lt
  refine o_alloc zr64 ?_
  intro w3 g5 hN5
  have hE3 := hN5.ext
  have hX := hX.ext hE3
  have hB2 := hB2.ext hE3
  have hO := hO.ext hE3
  have hXa := hXa.ext hE3
  have hB5 := hN5.blk
  have hq5 := hN5.g_eq
  have hOlt : q = none ∨ ab q < g5 := by rw [hN5.g_eq]; exact hOlt0
  refine o_storeAll rfl rfl (kHash_one _) (hv_sz sz64 _) hB5 (hv_size _) ?_
  intro w4 hP4
  have hX := hX.put hP4 (by omega)
  have hB2 := hP4.keep hB2 (by omega)
  have hO := hO.modB (hP4.mod g5 (Nat.le_refl _)) (Nat.zero_le _) (by decide) hOlt
  have hXa := hXa.put hP4 (by omega)
  have hB5 := hP4.blk
  refine r_nil (t_n ?_)
  refine t_n ⟨_, rfl, hXa, fun w5 hLp => ?_⟩
  have hX := hX.lp hLp hXr
  have hB2 := hB2.lp hLp
  have hO := hO.lp hLp (Nat.zero_le _)
  have hB5 := hB5.lp hLp
  have hR := Rnd.refl [54, 64] w5
  have hZ := Nn.refl w5
  have hXs := hX.size
  refine f_block ?_
  refine f_plain rfl ?_
  refine p1 (x_load1 un54 rfl (hB2.cell (rfl))) ?_
  refine p1 (x_loadB ua64 rfl hB5 (hv_sz sz64 _)) ?_
  refine o_buildSlice u54 inf64 rfl (by decide) (fun base hb => fill_kn [.agg (hv x)] (by intro v hv'; simp only [List.mem_singleton] at hv'; subst hv'; simp [Value.cells, hv, hcs_len]) base hb) ?_
  intro w6 g10 hN10
  have hE6 := hN10.ext
  have hX := hX.ext hE6
  have hB2 := hB2.ext hE6
  have hO := hO.ext hE6
  have hB5 := hB5.ext hE6
  have hR := hR.ext hE6
  have hZ := hZ.ext hE6
  have hJ : Own kHash 64 0 0 w6 (some ⟨g10, 0, none⟩) 1 1 [x] := own_lit [x] hN10 (Nat.zero_le _) (by simp)
  have hB1 := hX.size
  have hXl : pre.length < N0 := hXx
  refine o_append (d := kHash) ([x]) u54 inf64 rfl kHash_pos rfl rfl hO (src_pure u54 hJ.sl (by decide)) rfl (hash_all _ _ _) (rfl) (by omega) (by omega) (by omega) (by omega) (by decide) ?_
  intro p11 c11 w7 hO hM7
  have hX := hX.mod hM7 (Nat.le_refl _)
  have hB2 := hB2.mod hM7 (by decide)
  have hR := hR.mod hM7 (by decide)
  have hZ := hZ.mod hM7 
  refine o_store1 rfl (by conv => lhs; whnf) rfl rfl sz54 hB2 (by first | exact Nat.zero_lt_one | simp) ?_
  intro w8 hP8
  have hX := hX.put hP8 (by omega)
  have hB2 := hP8.blk
  try simp only [List.setIfInBounds_toArray, List.set_cons_zero, List.set_cons_succ] at hB2
  have hR := hR.put hP8 (by decide)
  have hZ := hZ.put hP8
  have hO := hO.mod (hP8.mod 0 (Nat.zero_le _)) (Nat.zero_le _) (by decide)
  refine r_nil (t_n (b_n ?_))
  exact ⟨hR, fun k hn hk => hZ.old k hk hn, hX, _, _, _, hB2, hO⟩
 ·rintro D zs_ w2 hsz hS ⟨hX, q, m, c, hB2, hO⟩ hDf
  have hDs : Dfs w.heap.size w2 [D] := (Dfs.nil _ _).cons hDf (Nat.le_trans hXr hsz) (by simp)
  refine b_n (t_n (c_seq (r_plain ?_)))
  refine p1 (x_load1 un54 rfl (hB2.cell (rfl))) ?_
  refine p1 (x_assign (by conv => lhs; whnf)) ?_
  refine r_nil (t_n (c_ret ?_))
  exact end1M [D] rfl rfl rfl hDs fun wz hLz => ⟨⟨_, _, _, _, hS, rfl, hO.lp hLz (Nat.zero_le _)⟩, hX.lp hLz (Nat.le_refl _)⟩
 ·intro D c pre W hsz hSp hx hDf
  exact hx.elim
end Go.Proofs.Eng
end
section
set_option maxRecDepth 100000
set_option maxHeartbeats 4000000
namespace Go.Proofs.Eng
open Go.RowKit
open Extern.Stop (cell)
theorem fb124 : Tryz.f124.body.isNone = false := by kernel_rfl
theorem fb149 : Tryz.f149.body.isNone = false := by kernel_rfl
theorem fb79 : Tryz.f79.body.isNone = false := by kernel_rfl
theorem fb80 : Tryz.f80.body.isNone = false := by kernel_rfl
theorem fn124 : (Tryz.f124.name == "runtime.NumGoroutine") = false := by kernel_rfl
theorem fn149 : (Tryz.f149.name == "runtime.NumGoroutine") = false := by kernel_rfl
theorem fn79 : (Tryz.f79.name == "runtime.NumGoroutine") = false := by kernel_rfl
theorem fn80 : (Tryz.f80.name == "runtime.NumGoroutine") = false := by kernel_rfl
theorem u30 : Tryz.prog.underlying 30 = some (.pointer 91) := by kernel_rfl
end Go.Proofs.Eng
end
section
set_option maxRecDepth 100000
set_option maxHeartbeats 4000000
namespace Go.Proofs.Eng
open Go.RowKit
open Extern.Stop (cell)
theorem collectC (lb : List Value) (N0 : Nat) (Sq : List Hash → Prop) (hN : N0 ≤ 4194304) (w : World) (hSeq : SeqOk Tryz.prog 125 lb encH (Rnd [54, 64]) Sq (fun _ => True) (fun pre _ _ => pre.length < N0) (Mod w.heap.size tIter) w) :
    Ret Tryz.prog 79 [.func (.func 125) #[] lb.toArray] w (fun v w' => (∃ (xs : List Hash) (q : Option Addr) (m c : Nat), Sq xs ∧ v = .slice q m c ∧ Own kHash 64 0 w.heap.size w' q m c xs) ∧ Ext w w') := by
 have hX := Ext.refl w
 refine enter 5 _ Tryz.func79 rfl rfl (Nat.le_of_ble_eq_true rfl) rfl ?_
 refine c_seq (r_plain ?_)
 refine p1 (x_assign (by conv => lhs; whnf)) ?_
 refine r_nil (t_n (c_seq (r_plain ?_)))
 refine p1 (x_move (by conv => lhs; whnf)) ?_
 refine o_call Tryz.func124 fn124 fb124 (appendSeqC lb N0 Sq hN _ hSeq) rfl ?_
 rintro v1 w1 ⟨⟨xs, q, m, c, hS, rfl, hO⟩, hE1⟩
 have hX := hX.ext hE1
 refine p1 (x_assign (by conv => lhs; whnf)) ?_
 refine r_nil (t_n (c_ret ?_))
 refine end1 rfl (by conv => lhs; whnf) ?_
 exact ⟨⟨xs, q, m, c, hS, rfl, hO⟩, hX⟩
theorem there_mem {D : DS} {k : ByteArray} : thereD D k ↔ k ∈ D.l.map (·.1) := asc_someA
theorem keys_len {S : Nat → Prop} {w : World} {μ : Hash → Option R3} {L : List By} (h : Chs S w μ L) : ∀ vs : List Hash, vs.Nodup → (∀ z ∈ vs, μ z ≠ none) → vs.length ≤ L.length := fun vs h1 h2 => by
  have := nodup_le h1 (ks := L.map shaF) fun z hz => by
    have h3 := h2 z hz
    rw [Ne, h.iff z] at h3
    obtain ⟨c, hc⟩ := Option.ne_none_iff_exists'.1 h3
    obtain ⟨e, hm⟩ := findF_of hc
    exact List.mem_map.2 ⟨c, hm, e⟩
  rwa [List.length_map] at this
theorem keys_srt {S : Nat → Prop} {w : World} {μ : Hash → Option R3} {L : List By} (h : Chs S w μ L) {xs : List Hash} (hx : ∀ z, z ∈ xs ↔ μ z ≠ none) : srt xs = srt (L.map shaF) :=
  srt_eq (rise_srt xs) fun z => by
    rw [mem_srt, hx, Ne, h.iff z, ← Ne, List.mem_map]
    constructor
    · intro hne
      obtain ⟨c, hc⟩ := Option.ne_none_iff_exists'.1 hne
      obtain ⟨e, hm⟩ := findF_of hc
      exact ⟨c, hm, e⟩
    · rintro ⟨c, hm, e⟩ hn
      exact findF_no.1 hn c hm e
theorem store_there (g gd r : Nat) (S Sd : Nat → Prop) (μ : Hash → Option R3) (pi nx : Option Addr) (ni ci : Nat) (C : CS) (w : World) (hCX : CstX S Sd w g gd r μ pi ni ci nx C) (hok : DOk C.D) (nm : ByteArray) :
    Ret Tryz.prog 105 [.pointer (some ⟨g, 0, none⟩), .string nm] w (fun v w' => (∃ b : Bool, v = .bool b ∧ (b = true ↔ thereD C.D nm)) ∧ Ext w w') := by
 have hb := hCX.b
 have hX := Ext.refl w
 refine enter 12 _ Tryz.func105 rfl rfl (Nat.le_of_ble_eq_true rfl) rfl ?_
 refine c_seq (r_plain ?_)
 refine p1 (x_assign (by conv => lhs; whnf)) ?_
 refine r_nil (t_n (c_seq (r_plain ?_)))
 refine p1 (x_move (by conv => lhs; whnf)) ?_
 refine p1 (x_nilCheck rfl) ?_
 refine p1 (x_fieldAddr fo91_0 sz34 rfl) ?_
 refine p1 (x_load1 un34 rfl (hb.cell (rfl))) ?_
 refine o_call Tryz.func35 fn35 fb35 (disk_List gd Sd C.D _ hCX.d hok) rfl ?_
 rintro v1 w1 ⟨⟨qn, cn, rfl, hN⟩, hE1⟩
 have hX := hX.ext hE1
 have hCX := hCX.ext hE1
 have hb := hb.ext hE1
 have hN := hN.sl
 refine p1 (x_move (by conv => lhs; whnf)) ?_
 refine o_call Tryz.func149 fn149 fb149 (contains_ret (C.D.l.map (·.1)) nm _ hN) rfl ?_
 rintro v2 w2 ⟨⟨bz, rfl, hbz⟩, hE2⟩
 have hX := hX.ext hE2
 have hCX := hCX.ext hE2
 have hb := hb.ext hE2
 have hN := hN.ext hE2
 refine p1 (x_assign (by conv => lhs; whnf)) ?_
 refine r_nil (t_n (c_ret ?_))
 refine end1 rfl (by conv => lhs; whnf) ?_
 exact ⟨⟨bz, rfl, hbz.trans there_mem.symm⟩, hX⟩
theorem store_Size (g gd r : Nat) (S Sd : Nat → Prop) (μ : Hash → Option R3) (pi nx : Option Addr) (ni ci : Nat) (C : CS) (k : Nat) (w : World) (hCX : CstX S Sd w g gd r μ pi ni ci nx C) (hn : CN C k) :
    Ret Tryz.prog 15 [.pointer (some ⟨g, 0, none⟩)] w (fun v w' => v = .int .i64 (C.size : Int) ∧ Ext w w') := by
 have hb := hCX.b
 have hM := hCX.m
 have hC := hCX.c
 have hI := hCX.i
 have hX := Ext.refl w
 refine enter 9 _ Tryz.func15 rfl rfl (Nat.le_of_ble_eq_true rfl) rfl ?_
 refine c_seq (r_plain ?_)
 refine p1 (x_assign (by conv => lhs; whnf)) ?_
 refine r_nil (t_n (c_seq (c_seq (r_plain ?_))))
 refine p1 (x_move (by conv => lhs; whnf)) ?_
 refine p1 ((x_eql_ptrnil u30 rfl rfl).cast (congrArg _ (decide_eq_false (by simp)))) ?_
 refine r_nil (t_n ?_)
 refine c_f rfl ?_
 refine c_skip (t_n (c_seq (r_plain ?_)))
 refine p1 (x_move (by conv => lhs; whnf)) ?_
 refine p1 (x_nilCheck rfl) ?_
 refine p1 (x_fieldAddr fo91_2 sz3 rfl) ?_
 refine p1 (x_load1 un3 rfl (hb.cell (rfl))) ?_
 refine p1 (x_assign (by conv => lhs; whnf)) ?_
 refine r_nil (t_n (c_ret ?_))
 refine end1 rfl (by conv => lhs; whnf) ?_
 exact ⟨rfl, hX⟩
theorem store_Index (g gd r : Nat) (S Sd : Nat → Prop) (μ : Hash → Option R3) (pi nx : Option Addr) (ni ci : Nat) (C : CS) (k : Nat) (w : World) (hCX : CstX S Sd w g gd r μ pi ni ci nx C) (hn : CN C k) :
    Ret Tryz.prog 31 [.pointer (some ⟨g, 0, none⟩)] w (fun v w' => (∃ q n c, v = .slice q n c ∧ Own kByte 5 0 w.heap.size w' q n c C.index) ∧ Ext w w') := by
 have hb := hCX.b
 have hM := hCX.m
 have hC := hCX.c
 have hI := hCX.i
 have hX := Ext.refl w
 refine enter 10 _ Tryz.func31 rfl rfl (Nat.le_of_ble_eq_true rfl) rfl ?_
 refine c_seq (r_plain ?_)
 refine p1 (x_assign (by conv => lhs; whnf)) ?_
 refine r_nil (t_n (c_seq (c_seq (r_plain ?_))))
 refine p1 (x_move (by conv => lhs; whnf)) ?_
 refine p1 ((x_eql_ptrnil u30 rfl rfl).cast (congrArg _ (decide_eq_false (by simp)))) ?_
 refine r_nil (t_n ?_)
 refine c_f rfl ?_
 refine c_skip (t_n (c_seq (r_plain ?_)))
 refine p1 (x_move (by conv => lhs; whnf)) ?_
 refine p1 (x_nilCheck rfl) ?_
 refine p1 (x_fieldAddr fo91_3 sz23 rfl) ?_
 refine p1 (x_load1 un23 rfl (hb.cell (rfl))) ?_
 refine o_call Tryz.func58 fn58 fb58 (slices_Clone_byte _ _ _ _ _ _ _ hI.sl (by have := hI.len; have := hn.ix; omega)) rfl ?_
 rintro v1 w1 ⟨⟨q4, c4, rfl, hO⟩, hE1⟩
 have hX := hX.ext hE1
 have hb := hb.ext hE1
 have hI := hI.ext hE1
 refine p1 (x_assign (by conv => lhs; whnf)) ?_
 refine r_nil (t_n (c_ret ?_))
 refine end1 rfl (by conv => lhs; whnf) ?_
 exact ⟨⟨_, _, _, rfl, hO⟩, hX⟩
theorem store_List (g gd r : Nat) (S Sd : Nat → Prop) (μ : Hash → Option R3) (pi nx : Option Addr) (ni ci : Nat) (C : CS) (k : Nat) (w : World) (hCX : CstX S Sd w g gd r μ pi ni ci nx C) (hn : CN C k) :
    Ret Tryz.prog 30 [.pointer (some ⟨g, 0, none⟩)] w (fun v w' => (∃ q m c, v = .slice q m c ∧ Own kHash 64 0 w.heap.size w' q m c (srt (C.L.map shaF))) ∧ Ext w w') := by
 have hb := hCX.b
 have hM := hCX.m
 have hC := hCX.c
 have hI := hCX.i
 have hX := Ext.refl w
 refine enter 12 _ Tryz.func30 rfl rfl (Nat.le_of_ble_eq_true rfl) rfl ?_
 refine c_seq (r_plain ?_)
 refine p1 (x_assign (by conv => lhs; whnf)) ?_
 refine r_nil (t_n (c_seq (c_seq (r_plain ?_))))
 refine p1 (x_move (by conv => lhs; whnf)) ?_
 refine p1 ((x_eql_ptrnil u30 rfl rfl).cast (congrArg _ (decide_eq_false (by simp)))) ?_
 refine r_nil (t_n ?_)
 refine c_f rfl ?_
 refine c_skip (t_n (c_seq (r_plain ?_)))
 refine p1 (x_move (by conv => lhs; whnf)) ?_
 refine p1 (x_nilCheck rfl) ?_
 refine p1 (x_fieldAddr fo91_4 sz88 rfl) ?_
 refine p1 (x_load1 un88 rfl (hb.cell (rfl))) ?_
 refine o_call Tryz.func80 fn80 fb80 (maps_KeysC r 0 C.L.length μ (keys_len hC) _ hM) rfl ?_
 rintro v1 w1 ⟨⟨lb, rfl, hSq⟩, hE1⟩
 have hX := hX.ext hE1
 have hb := hb.ext hE1
 have hM := hM.ext hE1
 have hC := hC.ext hE1
 refine o_call Tryz.func79 fn79 fb79 (collectC lb C.L.length _ hn.ln _ hSq) rfl ?_
 rintro v2 w2 ⟨⟨xs, q5, m5, c5, ⟨hnd, hxs⟩, rfl, hO⟩, hE2⟩
 have hX := hX.ext hE2
 have hb := hb.ext hE2
 have hM := hM.ext hE2
 have hC := hC.ext hE2
 have hml := hO.len
 have hxl := keys_len hCX.c xs hnd (fun z hz => (hxs z).1 hz)
 have hln := hn.ln
 have hXq := hX.size
 refine o_call Tryz.func39 fn39 fb39 (hashes_Sort xs _ _ _ _ _ hO.sl (by omega)) rfl ?_
 rintro v3 w3 ⟨⟨q6, m6, c6, rfl, hm6, hR⟩, hE3⟩
 have hX := hX.ext hE3
 have hb := hb.ext hE3
 have hM := hM.ext hE3
 have hC := hC.ext hE3
 have hO := hO.ext hE3
 rw [keys_srt hCX.c hxs] at hR
 have hR := hR.lower hXq
 refine p1 (x_assign (by conv => lhs; whnf)) ?_
 refine r_nil (t_n (c_ret ?_))
 refine end1 rfl (by conv => lhs; whnf) ?_
 exact ⟨⟨_, _, _, rfl, hR⟩, hX⟩
theorem store_Size_nil (w : World) :
    Ret Tryz.prog 15 [.pointer none] w (fun v w' => v = .int .i64 0 ∧ Ext w w') := by
 have hX := Ext.refl w
 refine enter 9 _ Tryz.func15 rfl rfl (Nat.le_of_ble_eq_true rfl) rfl ?_
 refine c_seq (r_plain ?_)
 refine p1 (x_assign (by conv => lhs; whnf)) ?_
 refine r_nil (t_n (c_seq (c_seq (r_plain ?_))))
 refine p1 (x_move (by conv => lhs; whnf)) ?_
 refine p1 ((x_eql_ptrnil u30 rfl rfl)) ?_
 refine r_nil (t_n ?_)
 first | refine c_dec rfl (fun hc4 => ?_) (fun hc4 => ?_) | refine c_if rfl (fun hc4 => ?_) (fun hc4 => ?_)
 ·try simp only [dA, dB, dC, dD, dE, dF, dG, Int.not_lt, Int.not_le] at hc4
  refine c_seq (r_plain ?_)
  refine p1 (x_assign (by conv => lhs; whnf)) ?_
  refine r_nil (t_n (c_ret (t_r ?_)))
  refine end1 rfl (by conv => lhs; whnf) ?_
  exact ⟨rfl, hX⟩
 ·try simp only [dA, dB, dC, dD, dE, dF, dG, Int.not_lt, Int.not_le] at hc4
  exact (hc4 trivial).elim
theorem store_Index_nil (w : World) :
    Ret Tryz.prog 31 [.pointer none] w (fun v w' => v = .slice none 0 0 ∧ Ext w w') := by
 have hX := Ext.refl w
 refine enter 10 _ Tryz.func31 rfl rfl (Nat.le_of_ble_eq_true rfl) rfl ?_
 refine c_seq (r_plain ?_)
 refine p1 (x_assign (by conv => lhs; whnf)) ?_
 refine r_nil (t_n (c_seq (c_seq (r_plain ?_))))
 refine p1 (x_move (by conv => lhs; whnf)) ?_
 refine p1 ((x_eql_ptrnil u30 rfl rfl)) ?_
 refine r_nil (t_n ?_)
 first | refine c_dec rfl (fun hc4 => ?_) (fun hc4 => ?_) | refine c_if rfl (fun hc4 => ?_) (fun hc4 => ?_)
 ·try simp only [dA, dB, dC, dD, dE, dF, dG, Int.not_lt, Int.not_le] at hc4
  refine c_seq (r_plain ?_)
  refine p1 (x_assign (by conv => lhs; whnf)) ?_
  refine r_nil (t_n (c_ret (t_r ?_)))
  refine end1 rfl (by conv => lhs; whnf) ?_
  exact ⟨rfl, hX⟩
 ·try simp only [dA, dB, dC, dD, dE, dF, dG, Int.not_lt, Int.not_le] at hc4
  exact (hc4 trivial).elim
theorem store_List_nil (w : World) :
    Ret Tryz.prog 30 [.pointer none] w (fun v w' => v = .slice none 0 0 ∧ Ext w w') := by
 have hX := Ext.refl w
 refine enter 12 _ Tryz.func30 rfl rfl (Nat.le_of_ble_eq_true rfl) rfl ?_
 refine c_seq (r_plain ?_)
 refine p1 (x_assign (by conv => lhs; whnf)) ?_
 refine r_nil (t_n (c_seq (c_seq (r_plain ?_))))
 refine p1 (x_move (by conv => lhs; whnf)) ?_
 refine p1 ((x_eql_ptrnil u30 rfl rfl)) ?_
 refine r_nil (t_n ?_)
 first | refine c_dec rfl (fun hc4 => ?_) (fun hc4 => ?_) | refine c_if rfl (fun hc4 => ?_) (fun hc4 => ?_)
 ·try simp only [dA, dB, dC, dD, dE, dF, dG, Int.not_lt, Int.not_le] at hc4
  refine c_seq (r_plain ?_)
  refine p1 (x_assign (by conv => lhs; whnf)) ?_
  refine r_nil (t_n (c_ret (t_r ?_)))
  refine end1 rfl (by conv => lhs; whnf) ?_
  exact ⟨rfl, hX⟩
 ·try simp only [dA, dB, dC, dD, dE, dF, dG, Int.not_lt, Int.not_le] at hc4
  exact (hc4 trivial).elim
theorem store_Get_nil (h : Hash) (w : World) :
    Ret Tryz.prog 28 [.pointer none, .agg (hv h)] w (fun v w' => v = .tuple #[.slice none 0 0, .int .i64 1] ∧ Ext w w') := by
 have hX := Ext.refl w
 refine enter 24 _ Tryz.func28 rfl rfl (Nat.le_of_ble_eq_true rfl) rfl ?_
 refine c_seq (r_plain ?_)
 refine o_boxA (by conv => lhs; whnf) ?_
 intro w1 g3 hN3
 have hE1 := hN3.ext
 have hX := hX.ext hE1
 have hB3 := hN3.blk
 refine p1 (x_assign (by conv => lhs; whnf)) ?_
 refine p1 (x_assign (by conv => lhs; whnf)) ?_
 refine r_nil (t_n (c_seq (c_block (c_seq (r_plain ?_)))))
 refine p1 (x_move (by conv => lhs; whnf)) ?_
 refine p1 ((x_eql_ptrnil u30 rfl rfl)) ?_
 refine p1 (x_assign (by conv => lhs; whnf)) ?_
 refine r_nil (t_n ?_)
 first | refine c_dec rfl (fun hc6 => ?_) (fun hc6 => ?_) | refine c_if rfl (fun hc6 => ?_) (fun hc6 => ?_)
 ·try simp only [dA, dB, dC, dD, dE, dF, dG, Int.not_lt, Int.not_le] at hc6
  refine c_seq (r_plain ?_)
  refine p1 (x_assign (by conv => lhs; whnf)) ?_
  refine p1 (x_assign (by conv => lhs; whnf)) ?_
  refine r_nil (t_n (c_ret (b_r (t_r ?_))))
  refine end2 rfl (by conv => lhs; whnf) (by conv => lhs; whnf) ?_
  exact ⟨rfl, hX⟩
 ·try simp only [dA, dB, dC, dD, dE, dF, dG, Int.not_lt, Int.not_le] at hc6
  exact (hc6 trivial).elim
theorem store_Busy_nil (w : World) :
    Ret Tryz.prog 32 [.pointer none] w (fun v w' => v = .bool false ∧ Ext w w') := by
 have hX := Ext.refl w
 refine enter 12 _ Tryz.func32 rfl rfl (Nat.le_of_ble_eq_true rfl) rfl ?_
 refine c_seq (r_plain ?_)
 refine p1 (x_assign (by conv => lhs; whnf)) ?_
 refine r_nil (t_n (c_seq (r_plain ?_)))
 refine p1 (x_move (by conv => lhs; whnf)) ?_
 refine p1 ((x_neq_ptrnil u30 rfl rfl).cast (congrArg Value.bool (decide_eq_false (by simp)))) ?_
 refine p1 (x_move (by conv => lhs; whnf)) ?_
 refine g0 5 rfl (by first | exact .inl rfl | exact .inr rfl) ?_
 refine g0 5 rfl (by first | exact .inl rfl | exact .inr rfl) ?_
 refine g0 5 rfl (by first | exact .inl rfl | exact .inr rfl) ?_
 refine g0 5 rfl (by first | exact .inl rfl | exact .inr rfl) ?_
 refine g0 5 rfl (by first | exact .inl rfl | exact .inr rfl) ?_
 refine p1 (x_pick_f rfl (by conv => lhs; whnf)) ?_
 refine p1 (x_assign (by conv => lhs; whnf)) ?_
 refine r_nil (t_n (c_ret ?_))
 refine end1 rfl (by conv => lhs; whnf) ?_
 exact ⟨rfl, hX⟩
theorem store_Step_nil (p : Option Addr) (n c : Nat) (w : World) :
    Ret Tryz.prog 29 [.pointer none, .slice p n c] w (fun v w' => v = .tuple #[.bool false, .int .i64 1] ∧ Ext w w') := by
 have hX := Ext.refl w
 refine enter 57 _ Tryz.func29 rfl rfl (Nat.le_of_ble_eq_true rfl) rfl ?_
 refine c_seq (r_plain ?_)
 refine p1 (x_assign (by conv => lhs; whnf)) ?_
 refine p1 (x_assign (by conv => lhs; whnf)) ?_
 refine r_nil (t_n (c_seq (c_block (c_seq (r_plain ?_)))))
 refine p1 (x_move (by conv => lhs; whnf)) ?_
 refine p1 ((x_eql_ptrnil u30 rfl rfl)) ?_
 refine p1 (x_assign (by conv => lhs; whnf)) ?_
 refine r_nil (t_n ?_)
 first | refine c_dec rfl (fun hc10 => ?_) (fun hc10 => ?_) | refine c_if rfl (fun hc10 => ?_) (fun hc10 => ?_)
 ·try simp only [dA, dB, dC, dD, dE, dF, dG, Int.not_lt, Int.not_le] at hc10
  refine c_seq (r_plain ?_)
  refine p1 (x_assign (by conv => lhs; whnf)) ?_
  refine p1 (x_assign (by conv => lhs; whnf)) ?_
  refine r_nil (t_n (c_ret (b_r (t_r ?_))))
  refine end2 rfl (by conv => lhs; whnf) (by conv => lhs; whnf) ?_
  exact ⟨rfl, hX⟩
 ·try simp only [dA, dB, dC, dD, dE, dF, dG, Int.not_lt, Int.not_le] at hc10
  exact (hc10 trivial).elim
theorem store_Put_nil (p q : Option Addr) (n c m c2 : Nat) (w : World) :
    Ret Tryz.prog 14 [.pointer none, .slice p n c, .slice q m c2] w (fun v w' => v = .int .i64 1 ∧ Ext w w') := by
 have hX := Ext.refl w
 refine enter 127 _ Tryz.func14 rfl rfl (Nat.le_of_ble_eq_true rfl) rfl ?_
 refine c_seq (r_plain ?_)
 refine o_box1 (by conv => lhs; whnf) rfl ?_
 intro w1 g3 hN3
 have hE1 := hN3.ext
 have hX := hX.ext hE1
 have hB3 := hN3.blk
 refine p1 (x_assign (by conv => lhs; whnf)) ?_
 refine r_nil (t_n (c_seq (c_block (c_seq (r_plain ?_)))))
 refine p1 (x_load1 un30 rfl (hB3.cell (rfl))) ?_
 refine p1 ((x_eql_ptrnil u30 rfl rfl)) ?_
 refine p1 (x_assign (by conv => lhs; whnf)) ?_
 refine r_nil (t_n ?_)
 first | refine c_dec rfl (fun hc16 => ?_) (fun hc16 => ?_) | refine c_if rfl (fun hc16 => ?_) (fun hc16 => ?_)
 ·try simp only [dA, dB, dC, dD, dE, dF, dG, Int.not_lt, Int.not_le] at hc16
  refine c_seq (r_plain ?_)
  refine p1 (x_assign (by conv => lhs; whnf)) ?_
  refine r_nil (t_n (c_ret (b_r (t_r ?_))))
  refine end1 rfl (by conv => lhs; whnf) ?_
  exact ⟨rfl, hX⟩
 ·try simp only [dA, dB, dC, dD, dE, dF, dG, Int.not_lt, Int.not_le] at hc16
  exact (hc16 trivial).elim
theorem maps_Copy (r r2 N0 : Nat) (μ μ2 : Hash → Option R3) (w : World) (hM : Mp kkHash vCh 0 0 w r μ) (hM2 : Mp kkHash vCh 0 0 w r2 μ2) (hne : r2 ≠ r) (hks : ∀ vs : List Hash, vs.Nodup → (∀ z ∈ vs, μ2 z ≠ none) → vs.length ≤ N0) :
    Ret Tryz.prog 59 [.map (some r), .map (some r2)] w (fun v w' => Mp kkHash vCh 0 0 w' r (fun k => (μ2 k).or (μ k)) ∧ ModS (fun j => j = r) [tMap] w w') := by
 have hX := ModS.refl (fun j => j = r) [tMap] w
 refine enter 16 _ Tryz.func59 rfl rfl (Nat.le_of_ble_eq_true rfl) rfl ?_
 refine c_seq (r_plain ?_)
 refine p1 (x_move (by conv => lhs; whnf)) ?_
 have hXs := hX.size
 refine o_range u88 rfl hM2 ?_
 intro w1 it7 hE1 hit7 hK7
 have hX := hX.ext hE1
 have hM := hM.ext hE1
 have hM2 := hM2.ext hE1
 have hR := hK7 w.heap.size hXs
 refine r_nil (t_n (c_block ?_))
 refine c_loop (ι := List Hash) [4, 5, 8, 9, 10, 11, 12, 13, 14, 15] (fun vs => []) (fun vs w' => ModS (fun j => j = r) [tMap] w w' ∧ (Rg kkHash vCh 0 w.heap.size w' r2 it7 μ2 vs ∧ Mp kkHash vCh 0 0 w' r (fun k => if k ∈ vs then (μ2 k).or (μ k) else μ k))) (fun vs => N0 - vs.length) ([]) trivial ⟨hX, ⟨hR, hM.congr (fun k => by simp)⟩⟩ ?_
 rintro vs GL0 w2 ⟨hE2, hR, hM⟩
 have hX := hE2
 have hvl := hks vs hR.nd hR.sub
 refine c_seq (r_plain ?_)
 refine o_next rfl hR (Nat.zero_le _) (by decide) (fun hdone8 => ?_) (fun w3 a8 b8 v8 hna8 hmu8 hR hM3 => ?_)
 ·skip
  refine p1 (x_extract rfl rfl) ?_
  refine r_nil (t_n (c_seq ?_))
  refine c_f rfl ?_
  have hM := hM.congr (μ' := fun k => (μ2 k).or (μ k)) (fun k => by
    by_cases e : k ∈ vs
    · simp [e]
    · have : μ2 k = none := Classical.byContradiction fun h => e (hdone8 k h)
      simp [e, this])
  refine c_exit (t_e (t_e (b_hit ?_)))
  refine end0n rfl ?_
  exact ⟨hM, hX⟩
 ·skip
  have hX := hX.mod hM3 (Nat.le_refl _)
  have hM := hM.mod hM3 (Nat.zero_le _) (by decide)
  have hvl2 := hks _ hR.nd hR.sub
  simp only [List.length_append, List.length_cons, List.length_nil] at hvl2
  refine p1 (x_extract rfl rfl) ?_
  refine r_nil (t_n (c_seq ?_))
  refine c_t rfl ?_
  refine c_skip (t_n (c_block (c_seq ?_)))
  obtain ⟨b8, v8, hb8, hv8, hen8⟩ := hR.entry
  have hv8 : v8 = r3V b8 := hv8
  subst hv8
  refine r_plain ?_
  refine p1 (hen8 rfl) ?_
  refine p1 (x_extract rfl rfl) ?_
  refine p1 (x_extract rfl rfl) ?_
  have hz4 := hX.size
  refine o_alloc zr64 ?_
  intro w4 g4 hN4
  have hE4 := hN4.ext
  have hX := hX.ext hE4
  have hM := hM.ext hE4
  have hR := hR.ext hE4
  have hB4 := hN4.blk
  have hq4 := hN4.g_eq
  refine o_storeAll rfl rfl (kHash_one _) (hv_sz sz64 _) hB4 (hv_size _) ?_
  intro w5 hP5
  have hX := hX.new hP5 (by omega)
  have hM := hM.mod (hP5.mod 0 (Nat.zero_le _)) (Nat.zero_le _) (by decide)
  have hR := hR.mod (hP5.mod 0 (Nat.zero_le _)) (Nat.zero_le _) (by decide)
  have hB4 := hP5.blk
  refine p1 (x_assign (by conv => lhs; whnf)) ?_
  refine r_nil (t_n (r_plain ?_))
  refine p1 (x_move (by conv => lhs; whnf)) ?_
  refine p1 (x_loadB ua64 rfl hB4 (hv_sz sz64 _)) ?_
  refine p1 (x_move (by conv => lhs; whnf)) ?_
  have hMt6 := hM.tyOf
  refine o_update1 (a := a8) (b := b8) u88 (keyOk_hash u64 u5 sz5) rfl rfl rfl hM rfl (Nat.zero_le _) (by decide) ?_
  intro w6 hM hMm6 hne6
  have hO16 := One.ofMod hMm6 hMt6 hne6
  have hX := hX.one hO16 ⟨.inl rfl, by simp⟩
  have hR := hR.other hO16 hne rfl
  have hM := hM.congr (μ' := fun k => if k ∈ vs ++ [a8] then (μ2 k).or (μ k) else μ k) (fun k => by
    unfold mset
    by_cases e : k = a8
    · subst e; simp [hb8]
    · simp [e])
  refine r_nil (b_n ?_)
  refine t_n (At.mk (vs ++ [a8]) (by repeat (first | exact Agr.refl _ _ | exact Agr.hav _ _ _ | refine Agr.upd rfl ?_ | refine Agr.updR rfl ?_ | refine Agr.updL ?_ _ rfl | refine Agr.hav' rfl ?_)) trivial ?_)
  exact ⟨⟨hX, ⟨hR, hM⟩⟩, by show N0 - (vs ++ [a8]).length < N0 - vs.length; simp only [List.length_append, List.length_cons, List.length_nil]; omega⟩
end Go.Proofs.Eng
end
section
set_option maxRecDepth 100000
set_option maxHeartbeats 4000000
namespace Go.Proofs.Eng
open Go.RowKit
open Extern.Stop (cell)
theorem fb105 : Tryz.f105.body.isNone = false := by kernel_rfl
theorem fn105 : (Tryz.f105.name == "runtime.NumGoroutine") = false := by kernel_rfl
theorem fo91_5 : fieldOf Tryz.prog 91 5 = some (89, 5) := by kernel_rfl
theorem fo91_6 : fieldOf Tryz.prog 91 6 = some (4, 6) := by kernel_rfl
theorem sz89 : (Tryz.prog.info? 89).map (·.size) = some 1 := by kernel_rfl
end Go.Proofs.Eng
end
section
set_option maxRecDepth 100000
set_option maxHeartbeats 4000000
namespace Go.Proofs.Eng
open Go.RowKit
open Extern.Stop (cell)
theorem store_undo20 (g gd r : Nat) (S Sd : Nat → Prop) (μ : Hash → Option R3) (pi nx : Option Addr) (ni ci : Nat) (C : CS) (k : Nat) (w : World) (hCX : CstX S Sd w g gd r μ pi ni ci nx C) (hn : CN C k) (hS : ∀ j, S j → 6 ≤ j) (hg : Gt w) (hk : k < 4611686018427300000) (st : Bool) :
    Ret Tryz.prog 57 [.pointer (some ⟨g, 0, none⟩), .int .i64 20, .bool st] w (fun v w' => v = .int .i64 (undoC C 20 st).2 ∧ Cst (grow S w w') w' g gd (undoC C 20 st).1 ∧ ModS S EC w w') := by
 have hgs := hg.size
 have hsg := hCX.sg
 have hGd := hn.good
 have hhi := hn.hi
 have hsz := hn.sz
 have hCX := hCX.start
 have hb := hCX.b
 have hX := ModS.refl S EC w
 refine enter 98 _ Tryz.func57 rfl rfl (Nat.le_of_ble_eq_true rfl) rfl ?_
 refine c_seq (r_plain ?_)
 refine p1 (x_assign (by conv => lhs; whnf)) ?_
 refine r_nil (t_n (c_seq (c_seq (r_plain ?_))))
 refine p1 (x_move (by conv => lhs; whnf)) ?_
 refine p1 ((x_neq rfl rfl).cast (congrArg Value.bool (decide_eq_false (by simp)))) ?_
 refine r_nil (t_n ?_)
 refine c_f (rfl) ?_
 refine c_skip (t_n (c_seq (c_block (c_seq (r_plain ?_)))))
 refine p1 (x_move (by conv => lhs; whnf)) ?_
 refine p1 ((x_eql rfl rfl).cast (congrArg Value.bool (decide_eq_true rfl))) ?_
 refine p1 (x_assign (by conv => lhs; whnf)) ?_
 refine r_nil (t_n ?_)
 refine c_t rfl ?_
 refine r_plain ?_
 refine p1 (x_move (by conv => lhs; whnf)) ?_
 refine p1 (x_nilCheck rfl) ?_
 refine p1 (x_fieldAddr fo91_6 sz4 rfl) ?_
 refine o_store1 rfl (by conv => lhs; whnf) rfl rfl sz4 hb (by show _ < 7; omega) ?_
 intro w1 hP1
 have hX := hX.put hP1 (⟨.inl hsg, by decide⟩)
 have hb := hP1.blk
 try simp only [List.setIfInBounds_toArray, List.set_cons_zero, List.set_cons_succ] at hb
 have hCY := CstX.laid (C' := { ({ C with D := _ } : CS) with dead := true }) hCX hP1 rfl rfl (hCX.i.one hP1.one (by decide)) (.inl ⟨rfl, rfl⟩)
 refine r_nil (b_n (t_n (c_seq (r_plain ?_))))
 refine p1 (x_move (by conv => lhs; whnf)) ?_
 refine p1 (x_assign (by conv => lhs; whnf)) ?_
 refine r_nil (t_n (c_ret ?_))
 refine end1 rfl (by conv => lhs; whnf) ?_
 rw [undoC_down]; exact ⟨rfl, hCY.done, hX⟩
theorem store_undo_true (g gd r : Nat) (S Sd : Nat → Prop) (μ : Hash → Option R3) (pi nx : Option Addr) (ni ci : Nat) (C : CS) (k : Nat) (w : World) (hCX : CstX S Sd w g gd r μ pi ni ci nx C) (hn : CN C k) (hS : ∀ j, S j → 6 ≤ j) (hg : Gt w) (hk : k < 4611686018427300000) (e : Int) (hne : e ≠ 20) :
    Ret Tryz.prog 57 [.pointer (some ⟨g, 0, none⟩), .int .i64 e, .bool true] w (fun v w' => v = .int .i64 (undoC C e true).2 ∧ Cst (grow S w w') w' g gd (undoC C e true).1 ∧ ModS S EC w w') := by
 have hgs := hg.size
 have hsg := hCX.sg
 have hGd := hn.good
 have hhi := hn.hi
 have hsz := hn.sz
 have hCX := hCX.start
 have hb := hCX.b
 have hX := ModS.refl S EC w
 refine enter 98 _ Tryz.func57 rfl rfl (Nat.le_of_ble_eq_true rfl) rfl ?_
 refine c_seq (r_plain ?_)
 refine p1 (x_assign (by conv => lhs; whnf)) ?_
 refine r_nil (t_n (c_seq (c_seq (r_plain ?_))))
 refine p1 (x_move (by conv => lhs; whnf)) ?_
 refine p1 (x_neq rfl rfl) ?_
 refine r_nil (t_n ?_)
 first | refine c_dec rfl (fun hc11 => ?_) (fun hc11 => ?_) | refine c_if rfl (fun hc11 => ?_) (fun hc11 => ?_)
 ·try simp only [dA, dB, dC, dD, dE, dF, dG, Int.not_lt, Int.not_le] at hc11
  refine c_seq (c_seq ?_)
  refine r_held (fun w1 w2 => Ext w1 w2) mixed ?_
  intro w1 hE1
  have hX := hX.ext hE1
  have hCX := hCX.ext hE1
  have hb := hb.ext hE1
  have hg := hg.ext hE1
  have hSr2 : (fun w1 w2 => Ext w1 w2) w1 w1 := Ext.refl w1
  refine h_take 0 rfl (by kernel_rfl) (by kernel_rfl) (by kernel_rfl) hSr2 (fun wS hSS => by (have hX := hX.ext hSS; have hCX := hCX.ext hSS; have hb := hb.ext hSS; have hg := hg.ext hSS; exact (x_move (by conv => lhs; whnf)))) ?_
  refine h_take 1 rfl (by kernel_rfl) (by kernel_rfl) (by kernel_rfl) hSr2 (fun wS hSS => by (have hX := hX.ext hSS; have hCX := hCX.ext hSS; have hb := hb.ext hSS; have hg := hg.ext hSS; exact (x_nilCheck rfl))) ?_
  refine h_take 2 rfl (by kernel_rfl) (by kernel_rfl) (by kernel_rfl) hSr2 (fun wS hSS => by (have hX := hX.ext hSS; have hCX := hCX.ext hSS; have hb := hb.ext hSS; have hg := hg.ext hSS; exact (x_fieldAddr fo91_0 sz34 rfl))) ?_
  refine h_take 3 rfl (by kernel_rfl) (by kernel_rfl) (by kernel_rfl) hSr2 (fun wS hSS => by (have hX := hX.ext hSS; have hCX := hCX.ext hSS; have hb := hb.ext hSS; have hg := hg.ext hSS; exact (x_load1 un34 rfl (hb.cell (rfl))))) ?_
  refine h_take 4 rfl (by kernel_rfl) (by kernel_rfl) (by kernel_rfl) hSr2 (fun wS hSS => by (have hX := hX.ext hSS; have hCX := hCX.ext hSS; have hb := hb.ext hSS; have hg := hg.ext hSS; exact (x_move (by conv => lhs; whnf)))) ?_
  refine h_take 5 rfl (by kernel_rfl) (by kernel_rfl) (by kernel_rfl) hSr2 (fun wS hSS => by (have hX := hX.ext hSS; have hCX := hCX.ext hSS; have hb := hb.ext hSS; have hg := hg.ext hSS; exact (x_nilCheck rfl))) ?_
  refine h_take 6 rfl (by kernel_rfl) (by kernel_rfl) (by kernel_rfl) hSr2 (fun wS hSS => by (have hX := hX.ext hSS; have hCX := hCX.ext hSS; have hb := hb.ext hSS; have hg := hg.ext hSS; exact (x_fieldAddr fo91_1 sz3 rfl))) ?_
  refine h_take 7 rfl (by kernel_rfl) (by kernel_rfl) (by kernel_rfl) hSr2 (fun wS hSS => by (have hX := hX.ext hSS; have hCX := hCX.ext hSS; have hb := hb.ext hSS; have hg := hg.ext hSS; exact (x_load1 un3 rfl (hb.cell (rfl))))) ?_
  refine h_one 8 _ rfl (by kernel_rfl) (hop_of_list (fun Q8 hQ8 => ?_))
  refine o_call Tryz.func49 fn49 fb49 (segment_Name (C.seg : Int) _ hg.l) rfl ?_
  rintro v2 w2 ⟨rfl, hE2⟩
  have hX := hX.ext hE2
  have hCX := hCX.ext hE2
  have hb := hb.ext hE2
  have hg := hg.ext hE2
  have hSr2 := hSr2.ext hE2
  refine hop_end hQ8 ⟨hSr2, ?_⟩
  refine h_one 9 _ rfl (by kernel_rfl) (hop_of_list (fun Q9 hQ9 => ?_))
  refine o_call Tryz.func37 fn37 fb37 (disk_Read gd _ C.D _ hCX.d hn.good.ok (nSeg C.seg) (nSeg_size _)) rfl ?_
  rintro v3 w3 ⟨⟨qb, nb, cb, rfl, hO⟩, hE3⟩
  have hX := hX.ext hE3
  have hCX := hCX.ext hE3
  have hb := hb.ext hE3
  have hg := hg.ext hE3
  have hSr2 := hSr2.ext hE3
  have hOl := hO.len
  have hOc := hO.sl.cap
  have hOf := hO.sl.fit
  refine hop_end hQ9 ⟨hSr2, ?_⟩
  refine h_take 10 rfl (by kernel_rfl) (by kernel_rfl) (by kernel_rfl) hSr2 (fun wS hSS => by ( exact (x_move (by conv => lhs; whnf)))) ?_
  refine h_take 11 rfl (by kernel_rfl) (by kernel_rfl) (by kernel_rfl) hSr2 (fun wS hSS => by ( exact (x_extract rfl rfl))) ?_
  refine h_take 12 rfl (by kernel_rfl) (by kernel_rfl) (by kernel_rfl) hSr2 (fun wS hSS => by ( exact (x_extract rfl rfl))) ?_
  refine h_take 13 rfl (by kernel_rfl) (by kernel_rfl) (by kernel_rfl) hSr2 (fun wS hSS => by ( exact (x_assign (by conv => lhs; whnf)))) ?_
  refine h_take 14 rfl (by kernel_rfl) (by kernel_rfl) (by kernel_rfl) hSr2 (fun wS hSS => by ( exact (x_assign (by conv => lhs; whnf)))) ?_
  refine h_done (by kernel_rfl) ?_
  refine t_n (c_seq (r_plain ?_))
  refine p1 (x_move (by conv => lhs; whnf)) ?_
  refine p1 (x_len_slice u23 rfl) ?_
  refine p1 (x_move (by conv => lhs; whnf)) ?_
  refine p1 (x_nilCheck rfl) ?_
  refine p1 (x_fieldAddr fo91_2 sz3 rfl) ?_
  refine p1 (x_load1 un3 rfl (hb.cell (rfl))) ?_
  refine p1 (x_gtr rfl rfl) ?_
  refine r_nil (t_n ?_)
  first | refine c_dec rfl (fun hc31 => ?_) (fun hc31 => ?_) | refine c_if rfl (fun hc31 => ?_) (fun hc31 => ?_)
  ·try simp only [dA, dB, dC, dD, dE, dF, dG, Int.not_lt, Int.not_le] at hc31
   have hlt := (by omega : C.size < (readD C.D (nSeg C.seg)).1.length)
   refine c_seq ?_
   refine r_held (fun w1 w2 => ModS (fun _ => True) ED w1 w2) mixed ?_
   intro w4 hE4
   have hX := hX.ext hE4
   have hCX := hCX.ext hE4
   have hb := hb.ext hE4
   have hg := hg.ext hE4
   have hSr4 : (fun w1 w2 => ModS (fun _ => True) ED w1 w2) w4 w4 := ModS.refl (fun _ => True) ED _
   refine h_take 0 rfl (by kernel_rfl) (by kernel_rfl) (by kernel_rfl) hSr4 (fun wS hSS => by ( exact (x_move (by conv => lhs; whnf)))) ?_
   refine h_take 1 rfl (by kernel_rfl) (by kernel_rfl) (by kernel_rfl) hSr4 (fun wS hSS => by ( exact (x_nilCheck rfl))) ?_
   refine h_take 2 rfl (by kernel_rfl) (by kernel_rfl) (by kernel_rfl) hSr4 (fun wS hSS => by ( exact (x_fieldAddr fo91_0 sz34 rfl))) ?_
   refine h_take 3 rfl (by kernel_rfl) (by kernel_rfl) (by kernel_rfl) hSr4 (fun wS hSS => by (have hb := hb.modS hSS (.inr (by decide)); exact (x_load1 un34 rfl (hb.cell (rfl))))) ?_
   refine h_take 4 rfl (by kernel_rfl) (by kernel_rfl) (by kernel_rfl) hSr4 (fun wS hSS => by ( exact (x_move (by conv => lhs; whnf)))) ?_
   refine h_take 5 rfl (by kernel_rfl) (by kernel_rfl) (by kernel_rfl) hSr4 (fun wS hSS => by ( exact (x_nilCheck rfl))) ?_
   refine h_take 6 rfl (by kernel_rfl) (by kernel_rfl) (by kernel_rfl) hSr4 (fun wS hSS => by ( exact (x_fieldAddr fo91_1 sz3 rfl))) ?_
   refine h_take 7 rfl (by kernel_rfl) (by kernel_rfl) (by kernel_rfl) hSr4 (fun wS hSS => by (have hb := hb.modS hSS (.inr (by decide)); exact (x_load1 un3 rfl (hb.cell (rfl))))) ?_
   refine h_take 9 rfl (by kernel_rfl) (by kernel_rfl) (by kernel_rfl) hSr4 (fun wS hSS => by ( exact (x_move (by conv => lhs; whnf)))) ?_
   refine h_take 10 rfl (by kernel_rfl) (by kernel_rfl) (by kernel_rfl) hSr4 (fun wS hSS => by ( exact (x_nilCheck rfl))) ?_
   refine h_take 11 rfl (by kernel_rfl) (by kernel_rfl) (by kernel_rfl) hSr4 (fun wS hSS => by ( exact (x_fieldAddr fo91_2 sz3 rfl))) ?_
   refine h_take 12 rfl (by kernel_rfl) (by kernel_rfl) (by kernel_rfl) hSr4 (fun wS hSS => by (have hb := hb.modS hSS (.inr (by decide)); exact (x_load1 un3 rfl (hb.cell (rfl))))) ?_
   refine h_one 8 _ rfl (by kernel_rfl) (hop_of_list (fun Q8 hQ8 => ?_))
   refine o_call Tryz.func49 fn49 fb49 (segment_Name (C.seg : Int) _ hg.l) rfl ?_
   rintro v5 w5 ⟨rfl, hE5⟩
   have hX := hX.ext hE5
   have hCX := hCX.ext hE5
   have hb := hb.ext hE5
   have hg := hg.ext hE5
   have hSr4 := hSr4.ext hE5
   refine hop_end hQ8 ⟨hSr4, ?_⟩
   refine h_one 13 _ rfl (by kernel_rfl) (hop_of_list (fun Q13 hQ13 => ?_))
   have hXs := hX.size
   refine o_call Tryz.func94 fn94 fb94 (disk_Cut gd _ _ _ hCX.d hGd.ok (Nat.lt_of_le_of_lt hGd.steps (by omega)) hGd.left (nSeg C.seg) (nSeg_size _) (C.size : Int) (by omega) (by omega)) rfl ?_
   rintro v6 w6 ⟨rfl, hD2, hM2⟩
   have hX := hX.stepE hM2 (sub_old hCX)
   have hg := hg.modS hM2 (fun k hk => (hCX.sub k hk).elim (hS k) fun q => Nat.le_trans hgs q)
   have hCX := hCX.stepD hXs hM2 hD2
   have hb : Blk w6 g (stoV gd C pi ni ci r nx) tSto := hCX.b
   have hGd := good_cut hGd (nSeg C.seg) (C.size : Int)
   have hSr4 := hSr4.trans (hM2.mono fun _ _ _ => trivial) (fun _ _ h => h)
   refine hop_end hQ13 ⟨hSr4, ?_⟩
   refine h_take 14 rfl (by kernel_rfl) (by kernel_rfl) (by kernel_rfl) hSr4 (fun wS hSS => by ( exact (x_neq rfl rfl))) ?_
   refine h_done (by kernel_rfl) ?_
   refine t_n ?_
   first | refine c_dec rfl (fun hc46 => ?_) (fun hc46 => ?_) | refine c_if rfl (fun hc46 => ?_) (fun hc46 => ?_)
   ·try simp only [dA, dB, dC, dD, dE, dF, dG, Int.not_lt, Int.not_le] at hc46
    have hq := undoC_badR hne (st1_err (step := true) hlt hc46) hc46
    refine r_plain ?_
    refine p1 (x_assign (by conv => lhs; whnf)) ?_
    refine r_nil (t_n (c_seq (c_seq (r_plain ?_))))
    refine p1 (x_move (by conv => lhs; whnf)) ?_
    refine p1 ((x_neq rfl rfl).cast (congrArg Value.bool (decide_eq_false (by simp)))) ?_
    refine p1 (x_move (by conv => lhs; whnf)) ?_
    refine Eng.g0 49 rfl (by first | exact .inl rfl | exact .inr rfl) ?_
    refine Eng.g0 49 rfl (by first | exact .inl rfl | exact .inr rfl) ?_
    refine p1 (x_pick_f rfl (by conv => lhs; whnf)) ?_
    refine p1 (x_move (by conv => lhs; whnf)) ?_
    refine Eng.g0 53 rfl (by first | exact .inl rfl | exact .inr rfl) ?_
    refine Eng.g0 53 rfl (by first | exact .inl rfl | exact .inr rfl) ?_
    refine Eng.g0 53 rfl (by first | exact .inl rfl | exact .inr rfl) ?_
    refine Eng.g0 53 rfl (by first | exact .inl rfl | exact .inr rfl) ?_
    refine Eng.g0 53 rfl (by first | exact .inl rfl | exact .inr rfl) ?_
    refine Eng.g0 53 rfl (by first | exact .inl rfl | exact .inr rfl) ?_
    refine p1 (x_pick_f rfl (by conv => lhs; whnf)) ?_
    refine r_nil (t_n ?_)
    refine c_f rfl ?_
    try have hU3 := st2_ok hU (hbz.1 hb6_6) (by omega)
    refine c_skip (t_n (c_seq (r_plain ?_)))
    refine p1 (x_move (by conv => lhs; whnf)) ?_
    refine p1 (x_nilCheck rfl) ?_
    refine p1 (x_fieldAddr fo91_1 sz3 rfl) ?_
    refine p1 (x_load1 un3 rfl (hb.cell (rfl))) ?_
    refine p1 ((x_add rfl rfl (fits_i64 (by omega) (by omega))).cast (congrArg (Value.int .i64) (by omega : _ = ((C.seg + 1 : Nat) : Int)))) ?_
    refine o_call Tryz.func49 fn49 fb49 (segment_Name ((C.seg + 1 : Nat) : Int) _ hg.l) rfl ?_
    rintro v7 w7 ⟨rfl, hE7⟩
    have hX := hX.ext hE7
    have hCX := hCX.ext hE7
    have hb := hb.ext hE7
    have hg := hg.ext hE7
    refine p1 (x_assign (by conv => lhs; whnf)) ?_
    refine r_nil (t_n (c_seq (r_plain ?_)))
    refine p1 (x_move (by conv => lhs; whnf)) ?_
    refine p1 ((x_neq rfl rfl).cast (congrArg Value.bool (decide_eq_false (by simp)))) ?_
    refine p1 (x_move (by conv => lhs; whnf)) ?_
    refine Eng.g0 69 rfl (by first | exact .inl rfl | exact .inr rfl) ?_
    refine p1 (x_pick_f rfl (by conv => lhs; whnf)) ?_
    refine p1 (x_move (by conv => lhs; whnf)) ?_
    refine Eng.g0 72 rfl (by first | exact .inl rfl | exact .inr rfl) ?_
    refine Eng.g0 72 rfl (by first | exact .inl rfl | exact .inr rfl) ?_
    refine Eng.g0 72 rfl (by first | exact .inl rfl | exact .inr rfl) ?_
    refine p1 (x_pick_f rfl (by conv => lhs; whnf)) ?_
    refine p1 (x_move (by conv => lhs; whnf)) ?_
    refine Eng.g0 77 rfl (by first | exact .inl rfl | exact .inr rfl) ?_
    refine Eng.g0 77 rfl (by first | exact .inl rfl | exact .inr rfl) ?_
    refine Eng.g0 77 rfl (by first | exact .inl rfl | exact .inr rfl) ?_
    refine Eng.g0 77 rfl (by first | exact .inl rfl | exact .inr rfl) ?_
    refine Eng.g0 77 rfl (by first | exact .inl rfl | exact .inr rfl) ?_
    refine Eng.g0 77 rfl (by first | exact .inl rfl | exact .inr rfl) ?_
    refine Eng.g0 77 rfl (by first | exact .inl rfl | exact .inr rfl) ?_
    refine p1 (x_pick_f rfl (by conv => lhs; whnf)) ?_
    refine r_nil (t_n ?_)
    refine c_f rfl ?_
    try have hq := undoC_goodR hne (st3_yes hU3 (hbz2.1 hb9_10)) (by omega)
    refine c_skip (t_n (c_seq (c_block (c_seq (r_plain ?_)))))
    refine p1 (x_move (by conv => lhs; whnf)) ?_
    refine p1 ((x_eql rfl rfl).cast (congrArg Value.bool (decide_eq_true rfl))) ?_
    refine p1 (x_assign (by conv => lhs; whnf)) ?_
    refine r_nil (t_n ?_)
    refine c_t rfl ?_
    refine r_plain ?_
    refine p1 (x_move (by conv => lhs; whnf)) ?_
    refine p1 (x_nilCheck rfl) ?_
    refine p1 (x_fieldAddr fo91_6 sz4 rfl) ?_
    refine o_store1 rfl (by conv => lhs; whnf) rfl rfl sz4 hb (by show _ < 7; omega) ?_
    intro w8 hP8
    have hX := hX.put hP8 (⟨.inl hsg, by decide⟩)
    have hb := hP8.blk
    try simp only [List.setIfInBounds_toArray, List.set_cons_zero, List.set_cons_succ] at hb
    have hCY := CstX.laid (C' := { ({ C with D := _ } : CS) with dead := true }) hCX hP8 rfl rfl (hCX.i.one hP8.one (by decide)) (.inl ⟨rfl, rfl⟩)
    refine r_nil (b_n (t_n (c_seq (r_plain ?_))))
    refine p1 (x_move (by conv => lhs; whnf)) ?_
    refine p1 (x_assign (by conv => lhs; whnf)) ?_
    refine r_nil (t_n (c_ret ?_))
    refine end1 rfl (by conv => lhs; whnf) ?_
    first
      | (rw [hq]; exact ⟨rfl, hCY.done, hX⟩)
      | (rw [hq]; exact ⟨rfl, hCX.done, hX⟩)
   ·try simp only [dA, dB, dC, dD, dE, dF, dG, Int.not_lt, Int.not_le] at hc46
    have hU := st1_ok (step := true) hlt (by omega)
    refine c_skip (t_n (c_seq (c_seq (r_plain ?_))))
    refine p1 (x_move (by conv => lhs; whnf)) ?_
    refine p1 ((x_neq rfl rfl).cast (congrArg Value.bool (decide_eq_true hne))) ?_
    refine p1 (x_move (by conv => lhs; whnf)) ?_
    refine Eng.g1 49 rfl rfl (x_move (by conv => lhs; whnf)) ?_
    refine g_drop 49 rfl rfl ?_
    refine o_call Tryz.func105 fn105 fb105 (store_there g gd r _ _ μ pi nx ni ci _ _ hCX hGd.ok nNew) rfl ?_
    rintro v9 w9 ⟨⟨bz, rfl, hbz⟩, hE9⟩
    have hX := hX.ext hE9
    have hCX := hCX.ext hE9
    have hb := hb.ext hE9
    have hg := hg.ext hE9
    refine p1 (x_pick_t rfl (by conv => lhs; whnf)) ?_
    refine p1b (x_move (by conv => lhs; whnf)) (fun hb6_6 => ?_) (fun hb6_6 => ?_)
    ·try simp only [dA, dB, dC, dD, dE, dF, dG, Int.not_lt, Int.not_le] at hb6_6
     refine Eng.g1 53 rfl rfl (x_move (by conv => lhs; whnf)) ?_
     refine Eng.g1 53 rfl rfl (x_nilCheck rfl) ?_
     refine Eng.g1 53 rfl rfl (x_fieldAddr fo91_0 sz34 rfl) ?_
     refine Eng.g1 53 rfl rfl (x_load1 un34 rfl (hb.cell (rfl))) ?_
     refine g_drop 53 rfl rfl ?_
     have hXs := hX.size
     refine o_call Tryz.func95 fn95 fb95 (disk_Remove gd _ _ _ hCX.d hGd.ok (Nat.lt_of_le_of_lt hGd.steps (by omega)) hGd.left nNew (by decide)) rfl ?_
     rintro v10 w10 ⟨rfl, hD2, hM2⟩
     have hX := hX.stepE hM2 (sub_old hCX)
     have hg := hg.modS hM2 (fun k hk => (hCX.sub k hk).elim (hS k) fun q => Nat.le_trans hgs q)
     have hCX := hCX.stepD hXs hM2 hD2
     have hb : Blk w10 g (stoV gd C pi ni ci r nx) tSto := hCX.b
     have hGd := good_remove hGd nNew
     refine Eng.g1 53 rfl rfl (x_neq rfl rfl) ?_
     refine p1 (x_pick_t rfl (by conv => lhs; whnf)) ?_
     refine r_nil (t_n ?_)
     first | refine c_dec rfl (fun hc60 => ?_) (fun hc60 => ?_) | refine c_if rfl (fun hc60 => ?_) (fun hc60 => ?_)
     ·try simp only [dA, dB, dC, dD, dE, dF, dG, Int.not_lt, Int.not_le] at hc60
      have hq := undoC_badR hne (st2_err hU (hbz.1 hb6_6) hc60) hc60
      refine r_plain ?_
      refine p1 (x_assign (by conv => lhs; whnf)) ?_
      refine r_nil (t_n (c_seq (r_plain ?_)))
      refine p1 (x_move (by conv => lhs; whnf)) ?_
      refine p1 (x_nilCheck rfl) ?_
      refine p1 (x_fieldAddr fo91_1 sz3 rfl) ?_
      refine p1 (x_load1 un3 rfl (hb.cell (rfl))) ?_
      refine p1 ((x_add rfl rfl (fits_i64 (by omega) (by omega))).cast (congrArg (Value.int .i64) (by omega : _ = ((C.seg + 1 : Nat) : Int)))) ?_
      refine o_call Tryz.func49 fn49 fb49 (segment_Name ((C.seg + 1 : Nat) : Int) _ hg.l) rfl ?_
      rintro v11 w11 ⟨rfl, hE11⟩
      have hX := hX.ext hE11
      have hCX := hCX.ext hE11
      have hb := hb.ext hE11
      have hg := hg.ext hE11
      refine p1 (x_assign (by conv => lhs; whnf)) ?_
      refine r_nil (t_n (c_seq (r_plain ?_)))
      refine p1 (x_move (by conv => lhs; whnf)) ?_
      refine p1 ((x_neq rfl rfl).cast (congrArg Value.bool (decide_eq_false (by simp)))) ?_
      refine p1 (x_move (by conv => lhs; whnf)) ?_
      refine Eng.g0 69 rfl (by first | exact .inl rfl | exact .inr rfl) ?_
      refine p1 (x_pick_f rfl (by conv => lhs; whnf)) ?_
      refine p1 (x_move (by conv => lhs; whnf)) ?_
      refine Eng.g0 72 rfl (by first | exact .inl rfl | exact .inr rfl) ?_
      refine Eng.g0 72 rfl (by first | exact .inl rfl | exact .inr rfl) ?_
      refine Eng.g0 72 rfl (by first | exact .inl rfl | exact .inr rfl) ?_
      refine p1 (x_pick_f rfl (by conv => lhs; whnf)) ?_
      refine p1 (x_move (by conv => lhs; whnf)) ?_
      refine Eng.g0 77 rfl (by first | exact .inl rfl | exact .inr rfl) ?_
      refine Eng.g0 77 rfl (by first | exact .inl rfl | exact .inr rfl) ?_
      refine Eng.g0 77 rfl (by first | exact .inl rfl | exact .inr rfl) ?_
      refine Eng.g0 77 rfl (by first | exact .inl rfl | exact .inr rfl) ?_
      refine Eng.g0 77 rfl (by first | exact .inl rfl | exact .inr rfl) ?_
      refine Eng.g0 77 rfl (by first | exact .inl rfl | exact .inr rfl) ?_
      refine Eng.g0 77 rfl (by first | exact .inl rfl | exact .inr rfl) ?_
      refine p1 (x_pick_f rfl (by conv => lhs; whnf)) ?_
      refine r_nil (t_n ?_)
      refine c_f rfl ?_
      try have hq := undoC_goodR hne (st3_yes hU3 (hbz2.1 hb9_10)) (by omega)
      refine c_skip (t_n (c_seq (c_block (c_seq (r_plain ?_)))))
      refine p1 (x_move (by conv => lhs; whnf)) ?_
      refine p1 ((x_eql rfl rfl).cast (congrArg Value.bool (decide_eq_true rfl))) ?_
      refine p1 (x_assign (by conv => lhs; whnf)) ?_
      refine r_nil (t_n ?_)
      refine c_t rfl ?_
      refine r_plain ?_
      refine p1 (x_move (by conv => lhs; whnf)) ?_
      refine p1 (x_nilCheck rfl) ?_
      refine p1 (x_fieldAddr fo91_6 sz4 rfl) ?_
      refine o_store1 rfl (by conv => lhs; whnf) rfl rfl sz4 hb (by show _ < 7; omega) ?_
      intro w12 hP12
      have hX := hX.put hP12 (⟨.inl hsg, by decide⟩)
      have hb := hP12.blk
      try simp only [List.setIfInBounds_toArray, List.set_cons_zero, List.set_cons_succ] at hb
      have hCY := CstX.laid (C' := { ({ C with D := _ } : CS) with dead := true }) hCX hP12 rfl rfl (hCX.i.one hP12.one (by decide)) (.inl ⟨rfl, rfl⟩)
      refine r_nil (b_n (t_n (c_seq (r_plain ?_))))
      refine p1 (x_move (by conv => lhs; whnf)) ?_
      refine p1 (x_assign (by conv => lhs; whnf)) ?_
      refine r_nil (t_n (c_ret ?_))
      refine end1 rfl (by conv => lhs; whnf) ?_
      first
        | (rw [hq]; exact ⟨rfl, hCY.done, hX⟩)
        | (rw [hq]; exact ⟨rfl, hCX.done, hX⟩)
     ·try simp only [dA, dB, dC, dD, dE, dF, dG, Int.not_lt, Int.not_le] at hc60
      try have hU3 := st2_ok hU (hbz.1 hb6_6) (by omega)
      refine c_skip (t_n (c_seq (r_plain ?_)))
      refine p1 (x_move (by conv => lhs; whnf)) ?_
      refine p1 (x_nilCheck rfl) ?_
      refine p1 (x_fieldAddr fo91_1 sz3 rfl) ?_
      refine p1 (x_load1 un3 rfl (hb.cell (rfl))) ?_
      refine p1 ((x_add rfl rfl (fits_i64 (by omega) (by omega))).cast (congrArg (Value.int .i64) (by omega : _ = ((C.seg + 1 : Nat) : Int)))) ?_
      refine o_call Tryz.func49 fn49 fb49 (segment_Name ((C.seg + 1 : Nat) : Int) _ hg.l) rfl ?_
      rintro v13 w13 ⟨rfl, hE13⟩
      have hX := hX.ext hE13
      have hCX := hCX.ext hE13
      have hb := hb.ext hE13
      have hg := hg.ext hE13
      refine p1 (x_assign (by conv => lhs; whnf)) ?_
      refine r_nil (t_n (c_seq (r_plain ?_)))
      refine p1 (x_move (by conv => lhs; whnf)) ?_
      refine p1 ((x_neq rfl rfl).cast (congrArg Value.bool (decide_eq_true hne))) ?_
      refine p1 (x_move (by conv => lhs; whnf)) ?_
      refine Eng.g1 69 rfl rfl (x_move (by conv => lhs; whnf)) ?_
      refine p1 (x_pick_t rfl (by conv => lhs; whnf)) ?_
      refine p1 (x_move (by conv => lhs; whnf)) ?_
      refine Eng.g1 72 rfl rfl (x_move (by conv => lhs; whnf)) ?_
      refine Eng.g1 72 rfl rfl (x_move (by conv => lhs; whnf)) ?_
      refine g_drop 72 rfl rfl ?_
      refine o_call Tryz.func105 fn105 fb105 (store_there g gd r _ _ μ pi nx ni ci _ _ hCX hGd.ok (nSeg (C.seg + 1))) rfl ?_
      rintro v14 w14 ⟨⟨bz2, rfl, hbz2⟩, hE14⟩
      have hX := hX.ext hE14
      have hCX := hCX.ext hE14
      have hb := hb.ext hE14
      have hg := hg.ext hE14
      refine p1 (x_pick_t rfl (by conv => lhs; whnf)) ?_
      refine p1b (x_move (by conv => lhs; whnf)) (fun hb9_10 => ?_) (fun hb9_10 => ?_)
      ·try simp only [dA, dB, dC, dD, dE, dF, dG, Int.not_lt, Int.not_le] at hb9_10
       refine Eng.g1 77 rfl rfl (x_move (by conv => lhs; whnf)) ?_
       refine Eng.g1 77 rfl rfl (x_nilCheck rfl) ?_
       refine Eng.g1 77 rfl rfl (x_fieldAddr fo91_0 sz34 rfl) ?_
       refine Eng.g1 77 rfl rfl (x_load1 un34 rfl (hb.cell (rfl))) ?_
       refine Eng.g1 77 rfl rfl (x_move (by conv => lhs; whnf)) ?_
       refine g_drop 77 rfl rfl ?_
       have hXs := hX.size
       refine o_call Tryz.func95 fn95 fb95 (disk_Remove gd _ _ _ hCX.d hGd.ok (Nat.lt_of_le_of_lt hGd.steps (by omega)) hGd.left (nSeg (C.seg + 1)) (nSeg_size _)) rfl ?_
       rintro v15 w15 ⟨rfl, hD2, hM2⟩
       have hX := hX.stepE hM2 (sub_old hCX)
       have hg := hg.modS hM2 (fun k hk => (hCX.sub k hk).elim (hS k) fun q => Nat.le_trans hgs q)
       have hCX := hCX.stepD hXs hM2 hD2
       have hb : Blk w15 g (stoV gd C pi ni ci r nx) tSto := hCX.b
       have hGd := good_remove hGd (nSeg (C.seg + 1))
       refine Eng.g1 77 rfl rfl (x_neq rfl rfl) ?_
       refine p1 (x_pick_t rfl (by conv => lhs; whnf)) ?_
       refine r_nil (t_n ?_)
       first | refine c_dec rfl (fun hc85 => ?_) (fun hc85 => ?_) | refine c_if rfl (fun hc85 => ?_) (fun hc85 => ?_)
       ·try simp only [dA, dB, dC, dD, dE, dF, dG, Int.not_lt, Int.not_le] at hc85
        have hq := undoC_badR hne (st3_yes hU3 (hbz2.1 hb9_10)) hc85
        refine r_plain ?_
        refine p1 (x_assign (by conv => lhs; whnf)) ?_
        refine r_nil (t_n (c_seq (c_block (c_seq (r_plain ?_)))))
        refine p1 (x_move (by conv => lhs; whnf)) ?_
        refine p1 ((x_eql rfl rfl).cast (congrArg Value.bool (decide_eq_true rfl))) ?_
        refine p1 (x_assign (by conv => lhs; whnf)) ?_
        refine r_nil (t_n ?_)
        refine c_t rfl ?_
        refine r_plain ?_
        refine p1 (x_move (by conv => lhs; whnf)) ?_
        refine p1 (x_nilCheck rfl) ?_
        refine p1 (x_fieldAddr fo91_6 sz4 rfl) ?_
        refine o_store1 rfl (by conv => lhs; whnf) rfl rfl sz4 hb (by show _ < 7; omega) ?_
        intro w16 hP16
        have hX := hX.put hP16 (⟨.inl hsg, by decide⟩)
        have hb := hP16.blk
        try simp only [List.setIfInBounds_toArray, List.set_cons_zero, List.set_cons_succ] at hb
        have hCY := CstX.laid (C' := { ({ C with D := _ } : CS) with dead := true }) hCX hP16 rfl rfl (hCX.i.one hP16.one (by decide)) (.inl ⟨rfl, rfl⟩)
        refine r_nil (b_n (t_n (c_seq (r_plain ?_))))
        refine p1 (x_move (by conv => lhs; whnf)) ?_
        refine p1 (x_assign (by conv => lhs; whnf)) ?_
        refine r_nil (t_n (c_ret ?_))
        refine end1 rfl (by conv => lhs; whnf) ?_
        first
          | (rw [hq]; exact ⟨rfl, hCY.done, hX⟩)
          | (rw [hq]; exact ⟨rfl, hCX.done, hX⟩)
       ·try simp only [dA, dB, dC, dD, dE, dF, dG, Int.not_lt, Int.not_le] at hc85
        try have hq := undoC_goodR hne (st3_yes hU3 (hbz2.1 hb9_10)) (by omega)
        refine c_skip (t_n (c_seq (c_block (c_seq (r_plain ?_)))))
        refine p1 (x_move (by conv => lhs; whnf)) ?_
        refine p1 ((x_eql rfl rfl).cast (congrArg Value.bool (decide_eq_false hne))) ?_
        refine p1 (x_assign (by conv => lhs; whnf)) ?_
        refine r_nil (t_n ?_)
        refine c_f rfl ?_
        refine c_seq (r_plain ?_)
        refine p1 (x_move (by conv => lhs; whnf)) ?_
        refine p1 (x_assign (by conv => lhs; whnf)) ?_
        refine r_nil (t_n ?_)
        refine c_t (rfl) ?_
        refine r_plain ?_
        refine p1 (x_move (by conv => lhs; whnf)) ?_
        refine p1 (x_nilCheck rfl) ?_
        refine p1 (x_fieldAddr fo91_5 sz89 rfl) ?_
        refine o_store1 rfl (by conv => lhs; whnf) rfl rfl sz89 hb (by show _ < 7; omega) ?_
        intro w17 hP17
        have hX := hX.put hP17 (⟨.inl hsg, by decide⟩)
        have hb := hP17.blk
        try simp only [List.setIfInBounds_toArray, List.set_cons_zero, List.set_cons_succ] at hb
        have hCY := CstX.laid (C' := { ({ C with D := _ } : CS) with next := none }) hCX hP17 rfl rfl (hCX.i.one hP17.one (by decide)) (.inr ⟨rfl, rfl⟩)
        refine r_nil (b_n (t_n (c_seq (r_plain ?_))))
        refine p1 (x_move (by conv => lhs; whnf)) ?_
        refine p1 (x_assign (by conv => lhs; whnf)) ?_
        refine r_nil (t_n (c_ret ?_))
        refine end1 rfl (by conv => lhs; whnf) ?_
        first
          | (rw [hq]; exact ⟨rfl, hCY.done, hX⟩)
          | (rw [hq]; exact ⟨rfl, hCX.done, hX⟩)
      ·try simp only [dA, dB, dC, dD, dE, dF, dG, Int.not_lt, Int.not_le] at hb9_10
       have hq := undoC_goodR hne (st3_no hU3 (fun h => by have := hbz2.2 h; simp_all)) rfl
       refine Eng.g0 77 rfl (by first | exact .inl rfl | exact .inr rfl) ?_
       refine Eng.g0 77 rfl (by first | exact .inl rfl | exact .inr rfl) ?_
       refine Eng.g0 77 rfl (by first | exact .inl rfl | exact .inr rfl) ?_
       refine Eng.g0 77 rfl (by first | exact .inl rfl | exact .inr rfl) ?_
       refine Eng.g0 77 rfl (by first | exact .inl rfl | exact .inr rfl) ?_
       refine Eng.g0 77 rfl (by first | exact .inl rfl | exact .inr rfl) ?_
       refine Eng.g0 77 rfl (by first | exact .inl rfl | exact .inr rfl) ?_
       refine p1 (x_pick_f rfl (by conv => lhs; whnf)) ?_
       refine r_nil (t_n ?_)
       refine c_f rfl ?_
       try have hq := undoC_goodR hne (st3_yes hU3 (hbz2.1 hb9_10)) (by omega)
       refine c_skip (t_n (c_seq (c_block (c_seq (r_plain ?_)))))
       refine p1 (x_move (by conv => lhs; whnf)) ?_
       refine p1 ((x_eql rfl rfl).cast (congrArg Value.bool (decide_eq_false hne))) ?_
       refine p1 (x_assign (by conv => lhs; whnf)) ?_
       refine r_nil (t_n ?_)
       refine c_f rfl ?_
       refine c_seq (r_plain ?_)
       refine p1 (x_move (by conv => lhs; whnf)) ?_
       refine p1 (x_assign (by conv => lhs; whnf)) ?_
       refine r_nil (t_n ?_)
       refine c_t (rfl) ?_
       refine r_plain ?_
       refine p1 (x_move (by conv => lhs; whnf)) ?_
       refine p1 (x_nilCheck rfl) ?_
       refine p1 (x_fieldAddr fo91_5 sz89 rfl) ?_
       refine o_store1 rfl (by conv => lhs; whnf) rfl rfl sz89 hb (by show _ < 7; omega) ?_
       intro w18 hP18
       have hX := hX.put hP18 (⟨.inl hsg, by decide⟩)
       have hb := hP18.blk
       try simp only [List.setIfInBounds_toArray, List.set_cons_zero, List.set_cons_succ] at hb
       have hCY := CstX.laid (C' := { ({ C with D := _ } : CS) with next := none }) hCX hP18 rfl rfl (hCX.i.one hP18.one (by decide)) (.inr ⟨rfl, rfl⟩)
       refine r_nil (b_n (t_n (c_seq (r_plain ?_))))
       refine p1 (x_move (by conv => lhs; whnf)) ?_
       refine p1 (x_assign (by conv => lhs; whnf)) ?_
       refine r_nil (t_n (c_ret ?_))
       refine end1 rfl (by conv => lhs; whnf) ?_
       first
         | (rw [hq]; exact ⟨rfl, hCY.done, hX⟩)
         | (rw [hq]; exact ⟨rfl, hCX.done, hX⟩)
    ·try simp only [dA, dB, dC, dD, dE, dF, dG, Int.not_lt, Int.not_le] at hb6_6
     have hU3 := st2_no hU (fun h => by have := hbz.2 h; simp_all)
     refine Eng.g0 53 rfl (by first | exact .inl rfl | exact .inr rfl) ?_
     refine Eng.g0 53 rfl (by first | exact .inl rfl | exact .inr rfl) ?_
     refine Eng.g0 53 rfl (by first | exact .inl rfl | exact .inr rfl) ?_
     refine Eng.g0 53 rfl (by first | exact .inl rfl | exact .inr rfl) ?_
     refine Eng.g0 53 rfl (by first | exact .inl rfl | exact .inr rfl) ?_
     refine Eng.g0 53 rfl (by first | exact .inl rfl | exact .inr rfl) ?_
     refine p1 (x_pick_f rfl (by conv => lhs; whnf)) ?_
     refine r_nil (t_n ?_)
     refine c_f rfl ?_
     try have hU3 := st2_ok hU (hbz.1 hb6_6) (by omega)
     refine c_skip (t_n (c_seq (r_plain ?_)))
     refine p1 (x_move (by conv => lhs; whnf)) ?_
     refine p1 (x_nilCheck rfl) ?_
     refine p1 (x_fieldAddr fo91_1 sz3 rfl) ?_
     refine p1 (x_load1 un3 rfl (hb.cell (rfl))) ?_
     refine p1 ((x_add rfl rfl (fits_i64 (by omega) (by omega))).cast (congrArg (Value.int .i64) (by omega : _ = ((C.seg + 1 : Nat) : Int)))) ?_
     refine o_call Tryz.func49 fn49 fb49 (segment_Name ((C.seg + 1 : Nat) : Int) _ hg.l) rfl ?_
     rintro v19 w19 ⟨rfl, hE19⟩
     have hX := hX.ext hE19
     have hCX := hCX.ext hE19
     have hb := hb.ext hE19
     have hg := hg.ext hE19
     refine p1 (x_assign (by conv => lhs; whnf)) ?_
     refine r_nil (t_n (c_seq (r_plain ?_)))
     refine p1 (x_move (by conv => lhs; whnf)) ?_
     refine p1 ((x_neq rfl rfl).cast (congrArg Value.bool (decide_eq_true hne))) ?_
     refine p1 (x_move (by conv => lhs; whnf)) ?_
     refine Eng.g1 69 rfl rfl (x_move (by conv => lhs; whnf)) ?_
     refine p1 (x_pick_t rfl (by conv => lhs; whnf)) ?_
     refine p1 (x_move (by conv => lhs; whnf)) ?_
     refine Eng.g1 72 rfl rfl (x_move (by conv => lhs; whnf)) ?_
     refine Eng.g1 72 rfl rfl (x_move (by conv => lhs; whnf)) ?_
     refine g_drop 72 rfl rfl ?_
     refine o_call Tryz.func105 fn105 fb105 (store_there g gd r _ _ μ pi nx ni ci _ _ hCX hGd.ok (nSeg (C.seg + 1))) rfl ?_
     rintro v20 w20 ⟨⟨bz2, rfl, hbz2⟩, hE20⟩
     have hX := hX.ext hE20
     have hCX := hCX.ext hE20
     have hb := hb.ext hE20
     have hg := hg.ext hE20
     refine p1 (x_pick_t rfl (by conv => lhs; whnf)) ?_
     refine p1b (x_move (by conv => lhs; whnf)) (fun hb9_10 => ?_) (fun hb9_10 => ?_)
     ·try simp only [dA, dB, dC, dD, dE, dF, dG, Int.not_lt, Int.not_le] at hb9_10
      refine Eng.g1 77 rfl rfl (x_move (by conv => lhs; whnf)) ?_
      refine Eng.g1 77 rfl rfl (x_nilCheck rfl) ?_
      refine Eng.g1 77 rfl rfl (x_fieldAddr fo91_0 sz34 rfl) ?_
      refine Eng.g1 77 rfl rfl (x_load1 un34 rfl (hb.cell (rfl))) ?_
      refine Eng.g1 77 rfl rfl (x_move (by conv => lhs; whnf)) ?_
      refine g_drop 77 rfl rfl ?_
      have hXs := hX.size
      refine o_call Tryz.func95 fn95 fb95 (disk_Remove gd _ _ _ hCX.d hGd.ok (Nat.lt_of_le_of_lt hGd.steps (by omega)) hGd.left (nSeg (C.seg + 1)) (nSeg_size _)) rfl ?_
      rintro v21 w21 ⟨rfl, hD2, hM2⟩
      have hX := hX.stepE hM2 (sub_old hCX)
      have hg := hg.modS hM2 (fun k hk => (hCX.sub k hk).elim (hS k) fun q => Nat.le_trans hgs q)
      have hCX := hCX.stepD hXs hM2 hD2
      have hb : Blk w21 g (stoV gd C pi ni ci r nx) tSto := hCX.b
      have hGd := good_remove hGd (nSeg (C.seg + 1))
      refine Eng.g1 77 rfl rfl (x_neq rfl rfl) ?_
      refine p1 (x_pick_t rfl (by conv => lhs; whnf)) ?_
      refine r_nil (t_n ?_)
      first | refine c_dec rfl (fun hc85 => ?_) (fun hc85 => ?_) | refine c_if rfl (fun hc85 => ?_) (fun hc85 => ?_)
      ·try simp only [dA, dB, dC, dD, dE, dF, dG, Int.not_lt, Int.not_le] at hc85
       have hq := undoC_badR hne (st3_yes hU3 (hbz2.1 hb9_10)) hc85
       refine r_plain ?_
       refine p1 (x_assign (by conv => lhs; whnf)) ?_
       refine r_nil (t_n (c_seq (c_block (c_seq (r_plain ?_)))))
       refine p1 (x_move (by conv => lhs; whnf)) ?_
       refine p1 ((x_eql rfl rfl).cast (congrArg Value.bool (decide_eq_true rfl))) ?_
       refine p1 (x_assign (by conv => lhs; whnf)) ?_
       refine r_nil (t_n ?_)
       refine c_t rfl ?_
       refine r_plain ?_
       refine p1 (x_move (by conv => lhs; whnf)) ?_
       refine p1 (x_nilCheck rfl) ?_
       refine p1 (x_fieldAddr fo91_6 sz4 rfl) ?_
       refine o_store1 rfl (by conv => lhs; whnf) rfl rfl sz4 hb (by show _ < 7; omega) ?_
       intro w22 hP22
       have hX := hX.put hP22 (⟨.inl hsg, by decide⟩)
       have hb := hP22.blk
       try simp only [List.setIfInBounds_toArray, List.set_cons_zero, List.set_cons_succ] at hb
       have hCY := CstX.laid (C' := { ({ C with D := _ } : CS) with dead := true }) hCX hP22 rfl rfl (hCX.i.one hP22.one (by decide)) (.inl ⟨rfl, rfl⟩)
       refine r_nil (b_n (t_n (c_seq (r_plain ?_))))
       refine p1 (x_move (by conv => lhs; whnf)) ?_
       refine p1 (x_assign (by conv => lhs; whnf)) ?_
       refine r_nil (t_n (c_ret ?_))
       refine end1 rfl (by conv => lhs; whnf) ?_
       first
         | (rw [hq]; exact ⟨rfl, hCY.done, hX⟩)
         | (rw [hq]; exact ⟨rfl, hCX.done, hX⟩)
      ·try simp only [dA, dB, dC, dD, dE, dF, dG, Int.not_lt, Int.not_le] at hc85
       try have hq := undoC_goodR hne (st3_yes hU3 (hbz2.1 hb9_10)) (by omega)
       refine c_skip (t_n (c_seq (c_block (c_seq (r_plain ?_)))))
       refine p1 (x_move (by conv => lhs; whnf)) ?_
       refine p1 ((x_eql rfl rfl).cast (congrArg Value.bool (decide_eq_false hne))) ?_
       refine p1 (x_assign (by conv => lhs; whnf)) ?_
       refine r_nil (t_n ?_)
       refine c_f rfl ?_
       refine c_seq (r_plain ?_)
       refine p1 (x_move (by conv => lhs; whnf)) ?_
       refine p1 (x_assign (by conv => lhs; whnf)) ?_
       refine r_nil (t_n ?_)
       refine c_t (rfl) ?_
       refine r_plain ?_
       refine p1 (x_move (by conv => lhs; whnf)) ?_
       refine p1 (x_nilCheck rfl) ?_
       refine p1 (x_fieldAddr fo91_5 sz89 rfl) ?_
       refine o_store1 rfl (by conv => lhs; whnf) rfl rfl sz89 hb (by show _ < 7; omega) ?_
       intro w23 hP23
       have hX := hX.put hP23 (⟨.inl hsg, by decide⟩)
       have hb := hP23.blk
       try simp only [List.setIfInBounds_toArray, List.set_cons_zero, List.set_cons_succ] at hb
       have hCY := CstX.laid (C' := { ({ C with D := _ } : CS) with next := none }) hCX hP23 rfl rfl (hCX.i.one hP23.one (by decide)) (.inr ⟨rfl, rfl⟩)
       refine r_nil (b_n (t_n (c_seq (r_plain ?_))))
       refine p1 (x_move (by conv => lhs; whnf)) ?_
       refine p1 (x_assign (by conv => lhs; whnf)) ?_
       refine r_nil (t_n (c_ret ?_))
       refine end1 rfl (by conv => lhs; whnf) ?_
       first
         | (rw [hq]; exact ⟨rfl, hCY.done, hX⟩)
         | (rw [hq]; exact ⟨rfl, hCX.done, hX⟩)
     ·try simp only [dA, dB, dC, dD, dE, dF, dG, Int.not_lt, Int.not_le] at hb9_10
      have hq := undoC_goodR hne (st3_no hU3 (fun h => by have := hbz2.2 h; simp_all)) rfl
      refine Eng.g0 77 rfl (by first | exact .inl rfl | exact .inr rfl) ?_
      refine Eng.g0 77 rfl (by first | exact .inl rfl | exact .inr rfl) ?_
      refine Eng.g0 77 rfl (by first | exact .inl rfl | exact .inr rfl) ?_
      refine Eng.g0 77 rfl (by first | exact .inl rfl | exact .inr rfl) ?_
      refine Eng.g0 77 rfl (by first | exact .inl rfl | exact .inr rfl) ?_
      refine Eng.g0 77 rfl (by first | exact .inl rfl | exact .inr rfl) ?_
      refine Eng.g0 77 rfl (by first | exact .inl rfl | exact .inr rfl) ?_
      refine p1 (x_pick_f rfl (by conv => lhs; whnf)) ?_
      refine r_nil (t_n ?_)
      refine c_f rfl ?_
      try have hq := undoC_goodR hne (st3_yes hU3 (hbz2.1 hb9_10)) (by omega)
      refine c_skip (t_n (c_seq (c_block (c_seq (r_plain ?_)))))
      refine p1 (x_move (by conv => lhs; whnf)) ?_
      refine p1 ((x_eql rfl rfl).cast (congrArg Value.bool (decide_eq_false hne))) ?_
      refine p1 (x_assign (by conv => lhs; whnf)) ?_
      refine r_nil (t_n ?_)
      refine c_f rfl ?_
      refine c_seq (r_plain ?_)
      refine p1 (x_move (by conv => lhs; whnf)) ?_
      refine p1 (x_assign (by conv => lhs; whnf)) ?_
      refine r_nil (t_n ?_)
      refine c_t (rfl) ?_
      refine r_plain ?_
      refine p1 (x_move (by conv => lhs; whnf)) ?_
      refine p1 (x_nilCheck rfl) ?_
      refine p1 (x_fieldAddr fo91_5 sz89 rfl) ?_
      refine o_store1 rfl (by conv => lhs; whnf) rfl rfl sz89 hb (by show _ < 7; omega) ?_
      intro w24 hP24
      have hX := hX.put hP24 (⟨.inl hsg, by decide⟩)
      have hb := hP24.blk
      try simp only [List.setIfInBounds_toArray, List.set_cons_zero, List.set_cons_succ] at hb
      have hCY := CstX.laid (C' := { ({ C with D := _ } : CS) with next := none }) hCX hP24 rfl rfl (hCX.i.one hP24.one (by decide)) (.inr ⟨rfl, rfl⟩)
      refine r_nil (b_n (t_n (c_seq (r_plain ?_))))
      refine p1 (x_move (by conv => lhs; whnf)) ?_
      refine p1 (x_assign (by conv => lhs; whnf)) ?_
      refine r_nil (t_n (c_ret ?_))
      refine end1 rfl (by conv => lhs; whnf) ?_
      first
        | (rw [hq]; exact ⟨rfl, hCY.done, hX⟩)
        | (rw [hq]; exact ⟨rfl, hCX.done, hX⟩)
  ·try simp only [dA, dB, dC, dD, dE, dF, dG, Int.not_lt, Int.not_le] at hc31
   have hU := st1_no (D := C.D) (seg := C.seg) (size := C.size) (step := true) (by omega)
   refine c_skip (t_n (c_seq (c_seq (r_plain ?_))))
   refine p1 (x_move (by conv => lhs; whnf)) ?_
   refine p1 ((x_neq rfl rfl).cast (congrArg Value.bool (decide_eq_true hne))) ?_
   refine p1 (x_move (by conv => lhs; whnf)) ?_
   refine Eng.g1 49 rfl rfl (x_move (by conv => lhs; whnf)) ?_
   refine g_drop 49 rfl rfl ?_
   refine o_call Tryz.func105 fn105 fb105 (store_there g gd r _ _ μ pi nx ni ci _ _ hCX hGd.ok nNew) rfl ?_
   rintro v25 w25 ⟨⟨bz, rfl, hbz⟩, hE25⟩
   have hX := hX.ext hE25
   have hCX := hCX.ext hE25
   have hb := hb.ext hE25
   have hg := hg.ext hE25
   refine p1 (x_pick_t rfl (by conv => lhs; whnf)) ?_
   refine p1b (x_move (by conv => lhs; whnf)) (fun hb6_6 => ?_) (fun hb6_6 => ?_)
   ·try simp only [dA, dB, dC, dD, dE, dF, dG, Int.not_lt, Int.not_le] at hb6_6
    refine Eng.g1 53 rfl rfl (x_move (by conv => lhs; whnf)) ?_
    refine Eng.g1 53 rfl rfl (x_nilCheck rfl) ?_
    refine Eng.g1 53 rfl rfl (x_fieldAddr fo91_0 sz34 rfl) ?_
    refine Eng.g1 53 rfl rfl (x_load1 un34 rfl (hb.cell (rfl))) ?_
    refine g_drop 53 rfl rfl ?_
    have hXs := hX.size
    refine o_call Tryz.func95 fn95 fb95 (disk_Remove gd _ _ _ hCX.d hGd.ok (Nat.lt_of_le_of_lt hGd.steps (by omega)) hGd.left nNew (by decide)) rfl ?_
    rintro v26 w26 ⟨rfl, hD2, hM2⟩
    have hX := hX.stepE hM2 (sub_old hCX)
    have hg := hg.modS hM2 (fun k hk => (hCX.sub k hk).elim (hS k) fun q => Nat.le_trans hgs q)
    have hCX := hCX.stepD hXs hM2 hD2
    have hb : Blk w26 g (stoV gd C pi ni ci r nx) tSto := hCX.b
    have hGd := good_remove hGd nNew
    refine Eng.g1 53 rfl rfl (x_neq rfl rfl) ?_
    refine p1 (x_pick_t rfl (by conv => lhs; whnf)) ?_
    refine r_nil (t_n ?_)
    first | refine c_dec rfl (fun hc60 => ?_) (fun hc60 => ?_) | refine c_if rfl (fun hc60 => ?_) (fun hc60 => ?_)
    ·try simp only [dA, dB, dC, dD, dE, dF, dG, Int.not_lt, Int.not_le] at hc60
     have hq := undoC_badR hne (st2_err hU (hbz.1 hb6_6) hc60) hc60
     refine r_plain ?_
     refine p1 (x_assign (by conv => lhs; whnf)) ?_
     refine r_nil (t_n (c_seq (r_plain ?_)))
     refine p1 (x_move (by conv => lhs; whnf)) ?_
     refine p1 (x_nilCheck rfl) ?_
     refine p1 (x_fieldAddr fo91_1 sz3 rfl) ?_
     refine p1 (x_load1 un3 rfl (hb.cell (rfl))) ?_
     refine p1 ((x_add rfl rfl (fits_i64 (by omega) (by omega))).cast (congrArg (Value.int .i64) (by omega : _ = ((C.seg + 1 : Nat) : Int)))) ?_
     refine o_call Tryz.func49 fn49 fb49 (segment_Name ((C.seg + 1 : Nat) : Int) _ hg.l) rfl ?_
     rintro v27 w27 ⟨rfl, hE27⟩
     have hX := hX.ext hE27
     have hCX := hCX.ext hE27
     have hb := hb.ext hE27
     have hg := hg.ext hE27
     refine p1 (x_assign (by conv => lhs; whnf)) ?_
     refine r_nil (t_n (c_seq (r_plain ?_)))
     refine p1 (x_move (by conv => lhs; whnf)) ?_
     refine p1 ((x_neq rfl rfl).cast (congrArg Value.bool (decide_eq_false (by simp)))) ?_
     refine p1 (x_move (by conv => lhs; whnf)) ?_
     refine Eng.g0 69 rfl (by first | exact .inl rfl | exact .inr rfl) ?_
     refine p1 (x_pick_f rfl (by conv => lhs; whnf)) ?_
     refine p1 (x_move (by conv => lhs; whnf)) ?_
     refine Eng.g0 72 rfl (by first | exact .inl rfl | exact .inr rfl) ?_
     refine Eng.g0 72 rfl (by first | exact .inl rfl | exact .inr rfl) ?_
     refine Eng.g0 72 rfl (by first | exact .inl rfl | exact .inr rfl) ?_
     refine p1 (x_pick_f rfl (by conv => lhs; whnf)) ?_
     refine p1 (x_move (by conv => lhs; whnf)) ?_
     refine Eng.g0 77 rfl (by first | exact .inl rfl | exact .inr rfl) ?_
     refine Eng.g0 77 rfl (by first | exact .inl rfl | exact .inr rfl) ?_
     refine Eng.g0 77 rfl (by first | exact .inl rfl | exact .inr rfl) ?_
     refine Eng.g0 77 rfl (by first | exact .inl rfl | exact .inr rfl) ?_
     refine Eng.g0 77 rfl (by first | exact .inl rfl | exact .inr rfl) ?_
     refine Eng.g0 77 rfl (by first | exact .inl rfl | exact .inr rfl) ?_
     refine Eng.g0 77 rfl (by first | exact .inl rfl | exact .inr rfl) ?_
     refine p1 (x_pick_f rfl (by conv => lhs; whnf)) ?_
     refine r_nil (t_n ?_)
     refine c_f rfl ?_
     try have hq := undoC_goodR hne (st3_yes hU3 (hbz2.1 hb9_10)) (by omega)
     refine c_skip (t_n (c_seq (c_block (c_seq (r_plain ?_)))))
     refine p1 (x_move (by conv => lhs; whnf)) ?_
     refine p1 ((x_eql rfl rfl).cast (congrArg Value.bool (decide_eq_true rfl))) ?_
     refine p1 (x_assign (by conv => lhs; whnf)) ?_
     refine r_nil (t_n ?_)
     refine c_t rfl ?_
     refine r_plain ?_
     refine p1 (x_move (by conv => lhs; whnf)) ?_
     refine p1 (x_nilCheck rfl) ?_
     refine p1 (x_fieldAddr fo91_6 sz4 rfl) ?_
     refine o_store1 rfl (by conv => lhs; whnf) rfl rfl sz4 hb (by show _ < 7; omega) ?_
     intro w28 hP28
     have hX := hX.put hP28 (⟨.inl hsg, by decide⟩)
     have hb := hP28.blk
     try simp only [List.setIfInBounds_toArray, List.set_cons_zero, List.set_cons_succ] at hb
     have hCY := CstX.laid (C' := { ({ C with D := _ } : CS) with dead := true }) hCX hP28 rfl rfl (hCX.i.one hP28.one (by decide)) (.inl ⟨rfl, rfl⟩)
     refine r_nil (b_n (t_n (c_seq (r_plain ?_))))
     refine p1 (x_move (by conv => lhs; whnf)) ?_
     refine p1 (x_assign (by conv => lhs; whnf)) ?_
     refine r_nil (t_n (c_ret ?_))
     refine end1 rfl (by conv => lhs; whnf) ?_
     first
       | (rw [hq]; exact ⟨rfl, hCY.done, hX⟩)
       | (rw [hq]; exact ⟨rfl, hCX.done, hX⟩)
    ·try simp only [dA, dB, dC, dD, dE, dF, dG, Int.not_lt, Int.not_le] at hc60
     try have hU3 := st2_ok hU (hbz.1 hb6_6) (by omega)
     refine c_skip (t_n (c_seq (r_plain ?_)))
     refine p1 (x_move (by conv => lhs; whnf)) ?_
     refine p1 (x_nilCheck rfl) ?_
     refine p1 (x_fieldAddr fo91_1 sz3 rfl) ?_
     refine p1 (x_load1 un3 rfl (hb.cell (rfl))) ?_
     refine p1 ((x_add rfl rfl (fits_i64 (by omega) (by omega))).cast (congrArg (Value.int .i64) (by omega : _ = ((C.seg + 1 : Nat) : Int)))) ?_
     refine o_call Tryz.func49 fn49 fb49 (segment_Name ((C.seg + 1 : Nat) : Int) _ hg.l) rfl ?_
     rintro v29 w29 ⟨rfl, hE29⟩
     have hX := hX.ext hE29
     have hCX := hCX.ext hE29
     have hb := hb.ext hE29
     have hg := hg.ext hE29
     refine p1 (x_assign (by conv => lhs; whnf)) ?_
     refine r_nil (t_n (c_seq (r_plain ?_)))
     refine p1 (x_move (by conv => lhs; whnf)) ?_
     refine p1 ((x_neq rfl rfl).cast (congrArg Value.bool (decide_eq_true hne))) ?_
     refine p1 (x_move (by conv => lhs; whnf)) ?_
     refine Eng.g1 69 rfl rfl (x_move (by conv => lhs; whnf)) ?_
     refine p1 (x_pick_t rfl (by conv => lhs; whnf)) ?_
     refine p1 (x_move (by conv => lhs; whnf)) ?_
     refine Eng.g1 72 rfl rfl (x_move (by conv => lhs; whnf)) ?_
     refine Eng.g1 72 rfl rfl (x_move (by conv => lhs; whnf)) ?_
     refine g_drop 72 rfl rfl ?_
     refine o_call Tryz.func105 fn105 fb105 (store_there g gd r _ _ μ pi nx ni ci _ _ hCX hGd.ok (nSeg (C.seg + 1))) rfl ?_
     rintro v30 w30 ⟨⟨bz2, rfl, hbz2⟩, hE30⟩
     have hX := hX.ext hE30
     have hCX := hCX.ext hE30
     have hb := hb.ext hE30
     have hg := hg.ext hE30
     refine p1 (x_pick_t rfl (by conv => lhs; whnf)) ?_
     refine p1b (x_move (by conv => lhs; whnf)) (fun hb9_10 => ?_) (fun hb9_10 => ?_)
     ·try simp only [dA, dB, dC, dD, dE, dF, dG, Int.not_lt, Int.not_le] at hb9_10
      refine Eng.g1 77 rfl rfl (x_move (by conv => lhs; whnf)) ?_
      refine Eng.g1 77 rfl rfl (x_nilCheck rfl) ?_
      refine Eng.g1 77 rfl rfl (x_fieldAddr fo91_0 sz34 rfl) ?_
      refine Eng.g1 77 rfl rfl (x_load1 un34 rfl (hb.cell (rfl))) ?_
      refine Eng.g1 77 rfl rfl (x_move (by conv => lhs; whnf)) ?_
      refine g_drop 77 rfl rfl ?_
      have hXs := hX.size
      refine o_call Tryz.func95 fn95 fb95 (disk_Remove gd _ _ _ hCX.d hGd.ok (Nat.lt_of_le_of_lt hGd.steps (by omega)) hGd.left (nSeg (C.seg + 1)) (nSeg_size _)) rfl ?_
      rintro v31 w31 ⟨rfl, hD2, hM2⟩
      have hX := hX.stepE hM2 (sub_old hCX)
      have hg := hg.modS hM2 (fun k hk => (hCX.sub k hk).elim (hS k) fun q => Nat.le_trans hgs q)
      have hCX := hCX.stepD hXs hM2 hD2
      have hb : Blk w31 g (stoV gd C pi ni ci r nx) tSto := hCX.b
      have hGd := good_remove hGd (nSeg (C.seg + 1))
      refine Eng.g1 77 rfl rfl (x_neq rfl rfl) ?_
      refine p1 (x_pick_t rfl (by conv => lhs; whnf)) ?_
      refine r_nil (t_n ?_)
      first | refine c_dec rfl (fun hc85 => ?_) (fun hc85 => ?_) | refine c_if rfl (fun hc85 => ?_) (fun hc85 => ?_)
      ·try simp only [dA, dB, dC, dD, dE, dF, dG, Int.not_lt, Int.not_le] at hc85
       have hq := undoC_badR hne (st3_yes hU3 (hbz2.1 hb9_10)) hc85
       refine r_plain ?_
       refine p1 (x_assign (by conv => lhs; whnf)) ?_
       refine r_nil (t_n (c_seq (c_block (c_seq (r_plain ?_)))))
       refine p1 (x_move (by conv => lhs; whnf)) ?_
       refine p1 ((x_eql rfl rfl).cast (congrArg Value.bool (decide_eq_true rfl))) ?_
       refine p1 (x_assign (by conv => lhs; whnf)) ?_
       refine r_nil (t_n ?_)
       refine c_t rfl ?_
       refine r_plain ?_
       refine p1 (x_move (by conv => lhs; whnf)) ?_
       refine p1 (x_nilCheck rfl) ?_
       refine p1 (x_fieldAddr fo91_6 sz4 rfl) ?_
       refine o_store1 rfl (by conv => lhs; whnf) rfl rfl sz4 hb (by show _ < 7; omega) ?_
       intro w32 hP32
       have hX := hX.put hP32 (⟨.inl hsg, by decide⟩)
       have hb := hP32.blk
       try simp only [List.setIfInBounds_toArray, List.set_cons_zero, List.set_cons_succ] at hb
       have hCY := CstX.laid (C' := { ({ C with D := _ } : CS) with dead := true }) hCX hP32 rfl rfl (hCX.i.one hP32.one (by decide)) (.inl ⟨rfl, rfl⟩)
       refine r_nil (b_n (t_n (c_seq (r_plain ?_))))
       refine p1 (x_move (by conv => lhs; whnf)) ?_
       refine p1 (x_assign (by conv => lhs; whnf)) ?_
       refine r_nil (t_n (c_ret ?_))
       refine end1 rfl (by conv => lhs; whnf) ?_
       first
         | (rw [hq]; exact ⟨rfl, hCY.done, hX⟩)
         | (rw [hq]; exact ⟨rfl, hCX.done, hX⟩)
      ·try simp only [dA, dB, dC, dD, dE, dF, dG, Int.not_lt, Int.not_le] at hc85
       try have hq := undoC_goodR hne (st3_yes hU3 (hbz2.1 hb9_10)) (by omega)
       refine c_skip (t_n (c_seq (c_block (c_seq (r_plain ?_)))))
       refine p1 (x_move (by conv => lhs; whnf)) ?_
       refine p1 ((x_eql rfl rfl).cast (congrArg Value.bool (decide_eq_false hne))) ?_
       refine p1 (x_assign (by conv => lhs; whnf)) ?_
       refine r_nil (t_n ?_)
       refine c_f rfl ?_
       refine c_seq (r_plain ?_)
       refine p1 (x_move (by conv => lhs; whnf)) ?_
       refine p1 (x_assign (by conv => lhs; whnf)) ?_
       refine r_nil (t_n ?_)
       refine c_t (rfl) ?_
       refine r_plain ?_
       refine p1 (x_move (by conv => lhs; whnf)) ?_
       refine p1 (x_nilCheck rfl) ?_
       refine p1 (x_fieldAddr fo91_5 sz89 rfl) ?_
       refine o_store1 rfl (by conv => lhs; whnf) rfl rfl sz89 hb (by show _ < 7; omega) ?_
       intro w33 hP33
       have hX := hX.put hP33 (⟨.inl hsg, by decide⟩)
       have hb := hP33.blk
       try simp only [List.setIfInBounds_toArray, List.set_cons_zero, List.set_cons_succ] at hb
       have hCY := CstX.laid (C' := { ({ C with D := _ } : CS) with next := none }) hCX hP33 rfl rfl (hCX.i.one hP33.one (by decide)) (.inr ⟨rfl, rfl⟩)
       refine r_nil (b_n (t_n (c_seq (r_plain ?_))))
       refine p1 (x_move (by conv => lhs; whnf)) ?_
       refine p1 (x_assign (by conv => lhs; whnf)) ?_
       refine r_nil (t_n (c_ret ?_))
       refine end1 rfl (by conv => lhs; whnf) ?_
       first
         | (rw [hq]; exact ⟨rfl, hCY.done, hX⟩)
         | (rw [hq]; exact ⟨rfl, hCX.done, hX⟩)
     ·try simp only [dA, dB, dC, dD, dE, dF, dG, Int.not_lt, Int.not_le] at hb9_10
      have hq := undoC_goodR hne (st3_no hU3 (fun h => by have := hbz2.2 h; simp_all)) rfl
      refine Eng.g0 77 rfl (by first | exact .inl rfl | exact .inr rfl) ?_
      refine Eng.g0 77 rfl (by first | exact .inl rfl | exact .inr rfl) ?_
      refine Eng.g0 77 rfl (by first | exact .inl rfl | exact .inr rfl) ?_
      refine Eng.g0 77 rfl (by first | exact .inl rfl | exact .inr rfl) ?_
      refine Eng.g0 77 rfl (by first | exact .inl rfl | exact .inr rfl) ?_
      refine Eng.g0 77 rfl (by first | exact .inl rfl | exact .inr rfl) ?_
      refine Eng.g0 77 rfl (by first | exact .inl rfl | exact .inr rfl) ?_
      refine p1 (x_pick_f rfl (by conv => lhs; whnf)) ?_
      refine r_nil (t_n ?_)
      refine c_f rfl ?_
      try have hq := undoC_goodR hne (st3_yes hU3 (hbz2.1 hb9_10)) (by omega)
      refine c_skip (t_n (c_seq (c_block (c_seq (r_plain ?_)))))
      refine p1 (x_move (by conv => lhs; whnf)) ?_
      refine p1 ((x_eql rfl rfl).cast (congrArg Value.bool (decide_eq_false hne))) ?_
      refine p1 (x_assign (by conv => lhs; whnf)) ?_
      refine r_nil (t_n ?_)
      refine c_f rfl ?_
      refine c_seq (r_plain ?_)
      refine p1 (x_move (by conv => lhs; whnf)) ?_
      refine p1 (x_assign (by conv => lhs; whnf)) ?_
      refine r_nil (t_n ?_)
      refine c_t (rfl) ?_
      refine r_plain ?_
      refine p1 (x_move (by conv => lhs; whnf)) ?_
      refine p1 (x_nilCheck rfl) ?_
      refine p1 (x_fieldAddr fo91_5 sz89 rfl) ?_
      refine o_store1 rfl (by conv => lhs; whnf) rfl rfl sz89 hb (by show _ < 7; omega) ?_
      intro w34 hP34
      have hX := hX.put hP34 (⟨.inl hsg, by decide⟩)
      have hb := hP34.blk
      try simp only [List.setIfInBounds_toArray, List.set_cons_zero, List.set_cons_succ] at hb
      have hCY := CstX.laid (C' := { ({ C with D := _ } : CS) with next := none }) hCX hP34 rfl rfl (hCX.i.one hP34.one (by decide)) (.inr ⟨rfl, rfl⟩)
      refine r_nil (b_n (t_n (c_seq (r_plain ?_))))
      refine p1 (x_move (by conv => lhs; whnf)) ?_
      refine p1 (x_assign (by conv => lhs; whnf)) ?_
      refine r_nil (t_n (c_ret ?_))
      refine end1 rfl (by conv => lhs; whnf) ?_
      first
        | (rw [hq]; exact ⟨rfl, hCY.done, hX⟩)
        | (rw [hq]; exact ⟨rfl, hCX.done, hX⟩)
   ·try simp only [dA, dB, dC, dD, dE, dF, dG, Int.not_lt, Int.not_le] at hb6_6
    have hU3 := st2_no hU (fun h => by have := hbz.2 h; simp_all)
    refine Eng.g0 53 rfl (by first | exact .inl rfl | exact .inr rfl) ?_
    refine Eng.g0 53 rfl (by first | exact .inl rfl | exact .inr rfl) ?_
    refine Eng.g0 53 rfl (by first | exact .inl rfl | exact .inr rfl) ?_
    refine Eng.g0 53 rfl (by first | exact .inl rfl | exact .inr rfl) ?_
    refine Eng.g0 53 rfl (by first | exact .inl rfl | exact .inr rfl) ?_
    refine Eng.g0 53 rfl (by first | exact .inl rfl | exact .inr rfl) ?_
    refine p1 (x_pick_f rfl (by conv => lhs; whnf)) ?_
    refine r_nil (t_n ?_)
    refine c_f rfl ?_
    try have hU3 := st2_ok hU (hbz.1 hb6_6) (by omega)
    refine c_skip (t_n (c_seq (r_plain ?_)))
    refine p1 (x_move (by conv => lhs; whnf)) ?_
    refine p1 (x_nilCheck rfl) ?_
    refine p1 (x_fieldAddr fo91_1 sz3 rfl) ?_
    refine p1 (x_load1 un3 rfl (hb.cell (rfl))) ?_
    refine p1 ((x_add rfl rfl (fits_i64 (by omega) (by omega))).cast (congrArg (Value.int .i64) (by omega : _ = ((C.seg + 1 : Nat) : Int)))) ?_
    refine o_call Tryz.func49 fn49 fb49 (segment_Name ((C.seg + 1 : Nat) : Int) _ hg.l) rfl ?_
    rintro v35 w35 ⟨rfl, hE35⟩
    have hX := hX.ext hE35
    have hCX := hCX.ext hE35
    have hb := hb.ext hE35
    have hg := hg.ext hE35
    refine p1 (x_assign (by conv => lhs; whnf)) ?_
    refine r_nil (t_n (c_seq (r_plain ?_)))
    refine p1 (x_move (by conv => lhs; whnf)) ?_
    refine p1 ((x_neq rfl rfl).cast (congrArg Value.bool (decide_eq_true hne))) ?_
    refine p1 (x_move (by conv => lhs; whnf)) ?_
    refine Eng.g1 69 rfl rfl (x_move (by conv => lhs; whnf)) ?_
    refine p1 (x_pick_t rfl (by conv => lhs; whnf)) ?_
    refine p1 (x_move (by conv => lhs; whnf)) ?_
    refine Eng.g1 72 rfl rfl (x_move (by conv => lhs; whnf)) ?_
    refine Eng.g1 72 rfl rfl (x_move (by conv => lhs; whnf)) ?_
    refine g_drop 72 rfl rfl ?_
    refine o_call Tryz.func105 fn105 fb105 (store_there g gd r _ _ μ pi nx ni ci _ _ hCX hGd.ok (nSeg (C.seg + 1))) rfl ?_
    rintro v36 w36 ⟨⟨bz2, rfl, hbz2⟩, hE36⟩
    have hX := hX.ext hE36
    have hCX := hCX.ext hE36
    have hb := hb.ext hE36
    have hg := hg.ext hE36
    refine p1 (x_pick_t rfl (by conv => lhs; whnf)) ?_
    refine p1b (x_move (by conv => lhs; whnf)) (fun hb9_10 => ?_) (fun hb9_10 => ?_)
    ·try simp only [dA, dB, dC, dD, dE, dF, dG, Int.not_lt, Int.not_le] at hb9_10
     refine Eng.g1 77 rfl rfl (x_move (by conv => lhs; whnf)) ?_
     refine Eng.g1 77 rfl rfl (x_nilCheck rfl) ?_
     refine Eng.g1 77 rfl rfl (x_fieldAddr fo91_0 sz34 rfl) ?_
     refine Eng.g1 77 rfl rfl (x_load1 un34 rfl (hb.cell (rfl))) ?_
     refine Eng.g1 77 rfl rfl (x_move (by conv => lhs; whnf)) ?_
     refine g_drop 77 rfl rfl ?_
     have hXs := hX.size
     refine o_call Tryz.func95 fn95 fb95 (disk_Remove gd _ _ _ hCX.d hGd.ok (Nat.lt_of_le_of_lt hGd.steps (by omega)) hGd.left (nSeg (C.seg + 1)) (nSeg_size _)) rfl ?_
     rintro v37 w37 ⟨rfl, hD2, hM2⟩
     have hX := hX.stepE hM2 (sub_old hCX)
     have hg := hg.modS hM2 (fun k hk => (hCX.sub k hk).elim (hS k) fun q => Nat.le_trans hgs q)
     have hCX := hCX.stepD hXs hM2 hD2
     have hb : Blk w37 g (stoV gd C pi ni ci r nx) tSto := hCX.b
     have hGd := good_remove hGd (nSeg (C.seg + 1))
     refine Eng.g1 77 rfl rfl (x_neq rfl rfl) ?_
     refine p1 (x_pick_t rfl (by conv => lhs; whnf)) ?_
     refine r_nil (t_n ?_)
     first | refine c_dec rfl (fun hc85 => ?_) (fun hc85 => ?_) | refine c_if rfl (fun hc85 => ?_) (fun hc85 => ?_)
     ·try simp only [dA, dB, dC, dD, dE, dF, dG, Int.not_lt, Int.not_le] at hc85
      have hq := undoC_badR hne (st3_yes hU3 (hbz2.1 hb9_10)) hc85
      refine r_plain ?_
      refine p1 (x_assign (by conv => lhs; whnf)) ?_
      refine r_nil (t_n (c_seq (c_block (c_seq (r_plain ?_)))))
      refine p1 (x_move (by conv => lhs; whnf)) ?_
      refine p1 ((x_eql rfl rfl).cast (congrArg Value.bool (decide_eq_true rfl))) ?_
      refine p1 (x_assign (by conv => lhs; whnf)) ?_
      refine r_nil (t_n ?_)
      refine c_t rfl ?_
      refine r_plain ?_
      refine p1 (x_move (by conv => lhs; whnf)) ?_
      refine p1 (x_nilCheck rfl) ?_
      refine p1 (x_fieldAddr fo91_6 sz4 rfl) ?_
      refine o_store1 rfl (by conv => lhs; whnf) rfl rfl sz4 hb (by show _ < 7; omega) ?_
      intro w38 hP38
      have hX := hX.put hP38 (⟨.inl hsg, by decide⟩)
      have hb := hP38.blk
      try simp only [List.setIfInBounds_toArray, List.set_cons_zero, List.set_cons_succ] at hb
      have hCY := CstX.laid (C' := { ({ C with D := _ } : CS) with dead := true }) hCX hP38 rfl rfl (hCX.i.one hP38.one (by decide)) (.inl ⟨rfl, rfl⟩)
      refine r_nil (b_n (t_n (c_seq (r_plain ?_))))
      refine p1 (x_move (by conv => lhs; whnf)) ?_
      refine p1 (x_assign (by conv => lhs; whnf)) ?_
      refine r_nil (t_n (c_ret ?_))
      refine end1 rfl (by conv => lhs; whnf) ?_
      first
        | (rw [hq]; exact ⟨rfl, hCY.done, hX⟩)
        | (rw [hq]; exact ⟨rfl, hCX.done, hX⟩)
     ·try simp only [dA, dB, dC, dD, dE, dF, dG, Int.not_lt, Int.not_le] at hc85
      try have hq := undoC_goodR hne (st3_yes hU3 (hbz2.1 hb9_10)) (by omega)
      refine c_skip (t_n (c_seq (c_block (c_seq (r_plain ?_)))))
      refine p1 (x_move (by conv => lhs; whnf)) ?_
      refine p1 ((x_eql rfl rfl).cast (congrArg Value.bool (decide_eq_false hne))) ?_
      refine p1 (x_assign (by conv => lhs; whnf)) ?_
      refine r_nil (t_n ?_)
      refine c_f rfl ?_
      refine c_seq (r_plain ?_)
      refine p1 (x_move (by conv => lhs; whnf)) ?_
      refine p1 (x_assign (by conv => lhs; whnf)) ?_
      refine r_nil (t_n ?_)
      refine c_t (rfl) ?_
      refine r_plain ?_
      refine p1 (x_move (by conv => lhs; whnf)) ?_
      refine p1 (x_nilCheck rfl) ?_
      refine p1 (x_fieldAddr fo91_5 sz89 rfl) ?_
      refine o_store1 rfl (by conv => lhs; whnf) rfl rfl sz89 hb (by show _ < 7; omega) ?_
      intro w39 hP39
      have hX := hX.put hP39 (⟨.inl hsg, by decide⟩)
      have hb := hP39.blk
      try simp only [List.setIfInBounds_toArray, List.set_cons_zero, List.set_cons_succ] at hb
      have hCY := CstX.laid (C' := { ({ C with D := _ } : CS) with next := none }) hCX hP39 rfl rfl (hCX.i.one hP39.one (by decide)) (.inr ⟨rfl, rfl⟩)
      refine r_nil (b_n (t_n (c_seq (r_plain ?_))))
      refine p1 (x_move (by conv => lhs; whnf)) ?_
      refine p1 (x_assign (by conv => lhs; whnf)) ?_
      refine r_nil (t_n (c_ret ?_))
      refine end1 rfl (by conv => lhs; whnf) ?_
      first
        | (rw [hq]; exact ⟨rfl, hCY.done, hX⟩)
        | (rw [hq]; exact ⟨rfl, hCX.done, hX⟩)
    ·try simp only [dA, dB, dC, dD, dE, dF, dG, Int.not_lt, Int.not_le] at hb9_10
     have hq := undoC_goodR hne (st3_no hU3 (fun h => by have := hbz2.2 h; simp_all)) rfl
     refine Eng.g0 77 rfl (by first | exact .inl rfl | exact .inr rfl) ?_
     refine Eng.g0 77 rfl (by first | exact .inl rfl | exact .inr rfl) ?_
     refine Eng.g0 77 rfl (by first | exact .inl rfl | exact .inr rfl) ?_
     refine Eng.g0 77 rfl (by first | exact .inl rfl | exact .inr rfl) ?_
     refine Eng.g0 77 rfl (by first | exact .inl rfl | exact .inr rfl) ?_
     refine Eng.g0 77 rfl (by first | exact .inl rfl | exact .inr rfl) ?_
     refine Eng.g0 77 rfl (by first | exact .inl rfl | exact .inr rfl) ?_
     refine p1 (x_pick_f rfl (by conv => lhs; whnf)) ?_
     refine r_nil (t_n ?_)
     refine c_f rfl ?_
     try have hq := undoC_goodR hne (st3_yes hU3 (hbz2.1 hb9_10)) (by omega)
     refine c_skip (t_n (c_seq (c_block (c_seq (r_plain ?_)))))
     refine p1 (x_move (by conv => lhs; whnf)) ?_
     refine p1 ((x_eql rfl rfl).cast (congrArg Value.bool (decide_eq_false hne))) ?_
     refine p1 (x_assign (by conv => lhs; whnf)) ?_
     refine r_nil (t_n ?_)
     refine c_f rfl ?_
     refine c_seq (r_plain ?_)
     refine p1 (x_move (by conv => lhs; whnf)) ?_
     refine p1 (x_assign (by conv => lhs; whnf)) ?_
     refine r_nil (t_n ?_)
     refine c_t (rfl) ?_
     refine r_plain ?_
     refine p1 (x_move (by conv => lhs; whnf)) ?_
     refine p1 (x_nilCheck rfl) ?_
     refine p1 (x_fieldAddr fo91_5 sz89 rfl) ?_
     refine o_store1 rfl (by conv => lhs; whnf) rfl rfl sz89 hb (by show _ < 7; omega) ?_
     intro w40 hP40
     have hX := hX.put hP40 (⟨.inl hsg, by decide⟩)
     have hb := hP40.blk
     try simp only [List.setIfInBounds_toArray, List.set_cons_zero, List.set_cons_succ] at hb
     have hCY := CstX.laid (C' := { ({ C with D := _ } : CS) with next := none }) hCX hP40 rfl rfl (hCX.i.one hP40.one (by decide)) (.inr ⟨rfl, rfl⟩)
     refine r_nil (b_n (t_n (c_seq (r_plain ?_))))
     refine p1 (x_move (by conv => lhs; whnf)) ?_
     refine p1 (x_assign (by conv => lhs; whnf)) ?_
     refine r_nil (t_n (c_ret ?_))
     refine end1 rfl (by conv => lhs; whnf) ?_
     first
       | (rw [hq]; exact ⟨rfl, hCY.done, hX⟩)
       | (rw [hq]; exact ⟨rfl, hCX.done, hX⟩)
 ·try simp only [dA, dB, dC, dD, dE, dF, dG, Int.not_lt, Int.not_le] at hc11
  exact absurd hc11 (by simpa using hne)
theorem store_undo_false (g gd r : Nat) (S Sd : Nat → Prop) (μ : Hash → Option R3) (pi nx : Option Addr) (ni ci : Nat) (C : CS) (k : Nat) (w : World) (hCX : CstX S Sd w g gd r μ pi ni ci nx C) (hn : CN C k) (hS : ∀ j, S j → 6 ≤ j) (hg : Gt w) (hk : k < 4611686018427300000) (e : Int) (hne : e ≠ 20) :
    Ret Tryz.prog 57 [.pointer (some ⟨g, 0, none⟩), .int .i64 e, .bool false] w (fun v w' => v = .int .i64 (undoC C e false).2 ∧ Cst (grow S w w') w' g gd (undoC C e false).1 ∧ ModS S EC w w') := by
 have hgs := hg.size
 have hsg := hCX.sg
 have hGd := hn.good
 have hhi := hn.hi
 have hsz := hn.sz
 have hCX := hCX.start
 have hb := hCX.b
 have hX := ModS.refl S EC w
 refine enter 98 _ Tryz.func57 rfl rfl (Nat.le_of_ble_eq_true rfl) rfl ?_
 refine c_seq (r_plain ?_)
 refine p1 (x_assign (by conv => lhs; whnf)) ?_
 refine r_nil (t_n (c_seq (c_seq (r_plain ?_))))
 refine p1 (x_move (by conv => lhs; whnf)) ?_
 refine p1 (x_neq rfl rfl) ?_
 refine r_nil (t_n ?_)
 first | refine c_dec rfl (fun hc11 => ?_) (fun hc11 => ?_) | refine c_if rfl (fun hc11 => ?_) (fun hc11 => ?_)
 ·try simp only [dA, dB, dC, dD, dE, dF, dG, Int.not_lt, Int.not_le] at hc11
  refine c_seq (c_seq ?_)
  refine r_held (fun w1 w2 => Ext w1 w2) mixed ?_
  intro w1 hE1
  have hX := hX.ext hE1
  have hCX := hCX.ext hE1
  have hb := hb.ext hE1
  have hg := hg.ext hE1
  have hSr2 : (fun w1 w2 => Ext w1 w2) w1 w1 := Ext.refl w1
  refine h_take 0 rfl (by kernel_rfl) (by kernel_rfl) (by kernel_rfl) hSr2 (fun wS hSS => by (have hX := hX.ext hSS; have hCX := hCX.ext hSS; have hb := hb.ext hSS; have hg := hg.ext hSS; exact (x_move (by conv => lhs; whnf)))) ?_
  refine h_take 1 rfl (by kernel_rfl) (by kernel_rfl) (by kernel_rfl) hSr2 (fun wS hSS => by (have hX := hX.ext hSS; have hCX := hCX.ext hSS; have hb := hb.ext hSS; have hg := hg.ext hSS; exact (x_nilCheck rfl))) ?_
  refine h_take 2 rfl (by kernel_rfl) (by kernel_rfl) (by kernel_rfl) hSr2 (fun wS hSS => by (have hX := hX.ext hSS; have hCX := hCX.ext hSS; have hb := hb.ext hSS; have hg := hg.ext hSS; exact (x_fieldAddr fo91_0 sz34 rfl))) ?_
  refine h_take 3 rfl (by kernel_rfl) (by kernel_rfl) (by kernel_rfl) hSr2 (fun wS hSS => by (have hX := hX.ext hSS; have hCX := hCX.ext hSS; have hb := hb.ext hSS; have hg := hg.ext hSS; exact (x_load1 un34 rfl (hb.cell (rfl))))) ?_
  refine h_take 4 rfl (by kernel_rfl) (by kernel_rfl) (by kernel_rfl) hSr2 (fun wS hSS => by (have hX := hX.ext hSS; have hCX := hCX.ext hSS; have hb := hb.ext hSS; have hg := hg.ext hSS; exact (x_move (by conv => lhs; whnf)))) ?_
  refine h_take 5 rfl (by kernel_rfl) (by kernel_rfl) (by kernel_rfl) hSr2 (fun wS hSS => by (have hX := hX.ext hSS; have hCX := hCX.ext hSS; have hb := hb.ext hSS; have hg := hg.ext hSS; exact (x_nilCheck rfl))) ?_
  refine h_take 6 rfl (by kernel_rfl) (by kernel_rfl) (by kernel_rfl) hSr2 (fun wS hSS => by (have hX := hX.ext hSS; have hCX := hCX.ext hSS; have hb := hb.ext hSS; have hg := hg.ext hSS; exact (x_fieldAddr fo91_1 sz3 rfl))) ?_
  refine h_take 7 rfl (by kernel_rfl) (by kernel_rfl) (by kernel_rfl) hSr2 (fun wS hSS => by (have hX := hX.ext hSS; have hCX := hCX.ext hSS; have hb := hb.ext hSS; have hg := hg.ext hSS; exact (x_load1 un3 rfl (hb.cell (rfl))))) ?_
  refine h_one 8 _ rfl (by kernel_rfl) (hop_of_list (fun Q8 hQ8 => ?_))
  refine o_call Tryz.func49 fn49 fb49 (segment_Name (C.seg : Int) _ hg.l) rfl ?_
  rintro v2 w2 ⟨rfl, hE2⟩
  have hX := hX.ext hE2
  have hCX := hCX.ext hE2
  have hb := hb.ext hE2
  have hg := hg.ext hE2
  have hSr2 := hSr2.ext hE2
  refine hop_end hQ8 ⟨hSr2, ?_⟩
  refine h_one 9 _ rfl (by kernel_rfl) (hop_of_list (fun Q9 hQ9 => ?_))
  refine o_call Tryz.func37 fn37 fb37 (disk_Read gd _ C.D _ hCX.d hn.good.ok (nSeg C.seg) (nSeg_size _)) rfl ?_
  rintro v3 w3 ⟨⟨qb, nb, cb, rfl, hO⟩, hE3⟩
  have hX := hX.ext hE3
  have hCX := hCX.ext hE3
  have hb := hb.ext hE3
  have hg := hg.ext hE3
  have hSr2 := hSr2.ext hE3
  have hOl := hO.len
  have hOc := hO.sl.cap
  have hOf := hO.sl.fit
  refine hop_end hQ9 ⟨hSr2, ?_⟩
  refine h_take 10 rfl (by kernel_rfl) (by kernel_rfl) (by kernel_rfl) hSr2 (fun wS hSS => by ( exact (x_move (by conv => lhs; whnf)))) ?_
  refine h_take 11 rfl (by kernel_rfl) (by kernel_rfl) (by kernel_rfl) hSr2 (fun wS hSS => by ( exact (x_extract rfl rfl))) ?_
  refine h_take 12 rfl (by kernel_rfl) (by kernel_rfl) (by kernel_rfl) hSr2 (fun wS hSS => by ( exact (x_extract rfl rfl))) ?_
  refine h_take 13 rfl (by kernel_rfl) (by kernel_rfl) (by kernel_rfl) hSr2 (fun wS hSS => by ( exact (x_assign (by conv => lhs; whnf)))) ?_
  refine h_take 14 rfl (by kernel_rfl) (by kernel_rfl) (by kernel_rfl) hSr2 (fun wS hSS => by ( exact (x_assign (by conv => lhs; whnf)))) ?_
  refine h_done (by kernel_rfl) ?_
  refine t_n (c_seq (r_plain ?_))
  refine p1 (x_move (by conv => lhs; whnf)) ?_
  refine p1 (x_len_slice u23 rfl) ?_
  refine p1 (x_move (by conv => lhs; whnf)) ?_
  refine p1 (x_nilCheck rfl) ?_
  refine p1 (x_fieldAddr fo91_2 sz3 rfl) ?_
  refine p1 (x_load1 un3 rfl (hb.cell (rfl))) ?_
  refine p1 (x_gtr rfl rfl) ?_
  refine r_nil (t_n ?_)
  first | refine c_dec rfl (fun hc31 => ?_) (fun hc31 => ?_) | refine c_if rfl (fun hc31 => ?_) (fun hc31 => ?_)
  ·try simp only [dA, dB, dC, dD, dE, dF, dG, Int.not_lt, Int.not_le] at hc31
   have hlt := (by omega : C.size < (readD C.D (nSeg C.seg)).1.length)
   refine c_seq ?_
   refine r_held (fun w1 w2 => ModS (fun _ => True) ED w1 w2) mixed ?_
   intro w4 hE4
   have hX := hX.ext hE4
   have hCX := hCX.ext hE4
   have hb := hb.ext hE4
   have hg := hg.ext hE4
   have hSr4 : (fun w1 w2 => ModS (fun _ => True) ED w1 w2) w4 w4 := ModS.refl (fun _ => True) ED _
   refine h_take 0 rfl (by kernel_rfl) (by kernel_rfl) (by kernel_rfl) hSr4 (fun wS hSS => by ( exact (x_move (by conv => lhs; whnf)))) ?_
   refine h_take 1 rfl (by kernel_rfl) (by kernel_rfl) (by kernel_rfl) hSr4 (fun wS hSS => by ( exact (x_nilCheck rfl))) ?_
   refine h_take 2 rfl (by kernel_rfl) (by kernel_rfl) (by kernel_rfl) hSr4 (fun wS hSS => by ( exact (x_fieldAddr fo91_0 sz34 rfl))) ?_
   refine h_take 3 rfl (by kernel_rfl) (by kernel_rfl) (by kernel_rfl) hSr4 (fun wS hSS => by (have hb := hb.modS hSS (.inr (by decide)); exact (x_load1 un34 rfl (hb.cell (rfl))))) ?_
   refine h_take 4 rfl (by kernel_rfl) (by kernel_rfl) (by kernel_rfl) hSr4 (fun wS hSS => by ( exact (x_move (by conv => lhs; whnf)))) ?_
   refine h_take 5 rfl (by kernel_rfl) (by kernel_rfl) (by kernel_rfl) hSr4 (fun wS hSS => by ( exact (x_nilCheck rfl))) ?_
   refine h_take 6 rfl (by kernel_rfl) (by kernel_rfl) (by kernel_rfl) hSr4 (fun wS hSS => by ( exact (x_fieldAddr fo91_1 sz3 rfl))) ?_
   refine h_take 7 rfl (by kernel_rfl) (by kernel_rfl) (by kernel_rfl) hSr4 (fun wS hSS => by (have hb := hb.modS hSS (.inr (by decide)); exact (x_load1 un3 rfl (hb.cell (rfl))))) ?_
   refine h_take 9 rfl (by kernel_rfl) (by kernel_rfl) (by kernel_rfl) hSr4 (fun wS hSS => by ( exact (x_move (by conv => lhs; whnf)))) ?_
   refine h_take 10 rfl (by kernel_rfl) (by kernel_rfl) (by kernel_rfl) hSr4 (fun wS hSS => by ( exact (x_nilCheck rfl))) ?_
   refine h_take 11 rfl (by kernel_rfl) (by kernel_rfl) (by kernel_rfl) hSr4 (fun wS hSS => by ( exact (x_fieldAddr fo91_2 sz3 rfl))) ?_
   refine h_take 12 rfl (by kernel_rfl) (by kernel_rfl) (by kernel_rfl) hSr4 (fun wS hSS => by (have hb := hb.modS hSS (.inr (by decide)); exact (x_load1 un3 rfl (hb.cell (rfl))))) ?_
   refine h_one 8 _ rfl (by kernel_rfl) (hop_of_list (fun Q8 hQ8 => ?_))
   refine o_call Tryz.func49 fn49 fb49 (segment_Name (C.seg : Int) _ hg.l) rfl ?_
   rintro v5 w5 ⟨rfl, hE5⟩
   have hX := hX.ext hE5
   have hCX := hCX.ext hE5
   have hb := hb.ext hE5
   have hg := hg.ext hE5
   have hSr4 := hSr4.ext hE5
   refine hop_end hQ8 ⟨hSr4, ?_⟩
   refine h_one 13 _ rfl (by kernel_rfl) (hop_of_list (fun Q13 hQ13 => ?_))
   have hXs := hX.size
   refine o_call Tryz.func94 fn94 fb94 (disk_Cut gd _ _ _ hCX.d hGd.ok (Nat.lt_of_le_of_lt hGd.steps (by omega)) hGd.left (nSeg C.seg) (nSeg_size _) (C.size : Int) (by omega) (by omega)) rfl ?_
   rintro v6 w6 ⟨rfl, hD2, hM2⟩
   have hX := hX.stepE hM2 (sub_old hCX)
   have hg := hg.modS hM2 (fun k hk => (hCX.sub k hk).elim (hS k) fun q => Nat.le_trans hgs q)
   have hCX := hCX.stepD hXs hM2 hD2
   have hb : Blk w6 g (stoV gd C pi ni ci r nx) tSto := hCX.b
   have hGd := good_cut hGd (nSeg C.seg) (C.size : Int)
   have hSr4 := hSr4.trans (hM2.mono fun _ _ _ => trivial) (fun _ _ h => h)
   refine hop_end hQ13 ⟨hSr4, ?_⟩
   refine h_take 14 rfl (by kernel_rfl) (by kernel_rfl) (by kernel_rfl) hSr4 (fun wS hSS => by ( exact (x_neq rfl rfl))) ?_
   refine h_done (by kernel_rfl) ?_
   refine t_n ?_
   first | refine c_dec rfl (fun hc46 => ?_) (fun hc46 => ?_) | refine c_if rfl (fun hc46 => ?_) (fun hc46 => ?_)
   ·try simp only [dA, dB, dC, dD, dE, dF, dG, Int.not_lt, Int.not_le] at hc46
    have hq := undoC_badR hne (st1_err (step := false) hlt hc46) hc46
    refine r_plain ?_
    refine p1 (x_assign (by conv => lhs; whnf)) ?_
    refine r_nil (t_n (c_seq (c_seq (r_plain ?_))))
    refine p1 (x_move (by conv => lhs; whnf)) ?_
    refine p1 ((x_neq rfl rfl).cast (congrArg Value.bool (decide_eq_false (by simp)))) ?_
    refine p1 (x_move (by conv => lhs; whnf)) ?_
    refine Eng.g0 49 rfl (by first | exact .inl rfl | exact .inr rfl) ?_
    refine Eng.g0 49 rfl (by first | exact .inl rfl | exact .inr rfl) ?_
    refine p1 (x_pick_f rfl (by conv => lhs; whnf)) ?_
    refine p1 (x_move (by conv => lhs; whnf)) ?_
    refine Eng.g0 53 rfl (by first | exact .inl rfl | exact .inr rfl) ?_
    refine Eng.g0 53 rfl (by first | exact .inl rfl | exact .inr rfl) ?_
    refine Eng.g0 53 rfl (by first | exact .inl rfl | exact .inr rfl) ?_
    refine Eng.g0 53 rfl (by first | exact .inl rfl | exact .inr rfl) ?_
    refine Eng.g0 53 rfl (by first | exact .inl rfl | exact .inr rfl) ?_
    refine Eng.g0 53 rfl (by first | exact .inl rfl | exact .inr rfl) ?_
    refine p1 (x_pick_f rfl (by conv => lhs; whnf)) ?_
    refine r_nil (t_n ?_)
    refine c_f rfl ?_
    try have hU3 := st2_ok hU (hbz.1 hb6_6) (by omega)
    refine c_skip (t_n (c_seq (r_plain ?_)))
    refine p1 (x_move (by conv => lhs; whnf)) ?_
    refine p1 (x_nilCheck rfl) ?_
    refine p1 (x_fieldAddr fo91_1 sz3 rfl) ?_
    refine p1 (x_load1 un3 rfl (hb.cell (rfl))) ?_
    refine p1 ((x_add rfl rfl (fits_i64 (by omega) (by omega))).cast (congrArg (Value.int .i64) (by omega : _ = ((C.seg + 1 : Nat) : Int)))) ?_
    refine o_call Tryz.func49 fn49 fb49 (segment_Name ((C.seg + 1 : Nat) : Int) _ hg.l) rfl ?_
    rintro v7 w7 ⟨rfl, hE7⟩
    have hX := hX.ext hE7
    have hCX := hCX.ext hE7
    have hb := hb.ext hE7
    have hg := hg.ext hE7
    refine p1 (x_assign (by conv => lhs; whnf)) ?_
    refine r_nil (t_n (c_seq (r_plain ?_)))
    refine p1 (x_move (by conv => lhs; whnf)) ?_
    refine p1 ((x_neq rfl rfl).cast (congrArg Value.bool (decide_eq_false (by simp)))) ?_
    refine p1 (x_move (by conv => lhs; whnf)) ?_
    refine Eng.g0 69 rfl (by first | exact .inl rfl | exact .inr rfl) ?_
    refine p1 (x_pick_f rfl (by conv => lhs; whnf)) ?_
    refine p1 (x_move (by conv => lhs; whnf)) ?_
    refine Eng.g0 72 rfl (by first | exact .inl rfl | exact .inr rfl) ?_
    refine Eng.g0 72 rfl (by first | exact .inl rfl | exact .inr rfl) ?_
    refine Eng.g0 72 rfl (by first | exact .inl rfl | exact .inr rfl) ?_
    refine p1 (x_pick_f rfl (by conv => lhs; whnf)) ?_
    refine p1 (x_move (by conv => lhs; whnf)) ?_
    refine Eng.g0 77 rfl (by first | exact .inl rfl | exact .inr rfl) ?_
    refine Eng.g0 77 rfl (by first | exact .inl rfl | exact .inr rfl) ?_
    refine Eng.g0 77 rfl (by first | exact .inl rfl | exact .inr rfl) ?_
    refine Eng.g0 77 rfl (by first | exact .inl rfl | exact .inr rfl) ?_
    refine Eng.g0 77 rfl (by first | exact .inl rfl | exact .inr rfl) ?_
    refine Eng.g0 77 rfl (by first | exact .inl rfl | exact .inr rfl) ?_
    refine Eng.g0 77 rfl (by first | exact .inl rfl | exact .inr rfl) ?_
    refine p1 (x_pick_f rfl (by conv => lhs; whnf)) ?_
    refine r_nil (t_n ?_)
    refine c_f rfl ?_
    try have hq := undoC_goodR hne (st3_f hU3) rfl
    refine c_skip (t_n (c_seq (c_block (c_seq (r_plain ?_)))))
    refine p1 (x_move (by conv => lhs; whnf)) ?_
    refine p1 ((x_eql rfl rfl).cast (congrArg Value.bool (decide_eq_true rfl))) ?_
    refine p1 (x_assign (by conv => lhs; whnf)) ?_
    refine r_nil (t_n ?_)
    refine c_t rfl ?_
    refine r_plain ?_
    refine p1 (x_move (by conv => lhs; whnf)) ?_
    refine p1 (x_nilCheck rfl) ?_
    refine p1 (x_fieldAddr fo91_6 sz4 rfl) ?_
    refine o_store1 rfl (by conv => lhs; whnf) rfl rfl sz4 hb (by show _ < 7; omega) ?_
    intro w8 hP8
    have hX := hX.put hP8 (⟨.inl hsg, by decide⟩)
    have hb := hP8.blk
    try simp only [List.setIfInBounds_toArray, List.set_cons_zero, List.set_cons_succ] at hb
    have hCY := CstX.laid (C' := { ({ C with D := _ } : CS) with dead := true }) hCX hP8 rfl rfl (hCX.i.one hP8.one (by decide)) (.inl ⟨rfl, rfl⟩)
    refine r_nil (b_n (t_n (c_seq (r_plain ?_))))
    refine p1 (x_move (by conv => lhs; whnf)) ?_
    refine p1 (x_assign (by conv => lhs; whnf)) ?_
    refine r_nil (t_n (c_ret ?_))
    refine end1 rfl (by conv => lhs; whnf) ?_
    first
      | (rw [hq]; exact ⟨rfl, hCY.done, hX⟩)
      | (rw [hq]; exact ⟨rfl, hCX.done, hX⟩)
   ·try simp only [dA, dB, dC, dD, dE, dF, dG, Int.not_lt, Int.not_le] at hc46
    have hU := st1_ok (step := false) hlt (by omega)
    refine c_skip (t_n (c_seq (c_seq (r_plain ?_))))
    refine p1 (x_move (by conv => lhs; whnf)) ?_
    refine p1 ((x_neq rfl rfl).cast (congrArg Value.bool (decide_eq_true hne))) ?_
    refine p1 (x_move (by conv => lhs; whnf)) ?_
    refine Eng.g1 49 rfl rfl (x_move (by conv => lhs; whnf)) ?_
    refine g_drop 49 rfl rfl ?_
    refine o_call Tryz.func105 fn105 fb105 (store_there g gd r _ _ μ pi nx ni ci _ _ hCX hGd.ok nNew) rfl ?_
    rintro v9 w9 ⟨⟨bz, rfl, hbz⟩, hE9⟩
    have hX := hX.ext hE9
    have hCX := hCX.ext hE9
    have hb := hb.ext hE9
    have hg := hg.ext hE9
    refine p1 (x_pick_t rfl (by conv => lhs; whnf)) ?_
    refine p1b (x_move (by conv => lhs; whnf)) (fun hb6_6 => ?_) (fun hb6_6 => ?_)
    ·try simp only [dA, dB, dC, dD, dE, dF, dG, Int.not_lt, Int.not_le] at hb6_6
     refine Eng.g1 53 rfl rfl (x_move (by conv => lhs; whnf)) ?_
     refine Eng.g1 53 rfl rfl (x_nilCheck rfl) ?_
     refine Eng.g1 53 rfl rfl (x_fieldAddr fo91_0 sz34 rfl) ?_
     refine Eng.g1 53 rfl rfl (x_load1 un34 rfl (hb.cell (rfl))) ?_
     refine g_drop 53 rfl rfl ?_
     have hXs := hX.size
     refine o_call Tryz.func95 fn95 fb95 (disk_Remove gd _ _ _ hCX.d hGd.ok (Nat.lt_of_le_of_lt hGd.steps (by omega)) hGd.left nNew (by decide)) rfl ?_
     rintro v10 w10 ⟨rfl, hD2, hM2⟩
     have hX := hX.stepE hM2 (sub_old hCX)
     have hg := hg.modS hM2 (fun k hk => (hCX.sub k hk).elim (hS k) fun q => Nat.le_trans hgs q)
     have hCX := hCX.stepD hXs hM2 hD2
     have hb : Blk w10 g (stoV gd C pi ni ci r nx) tSto := hCX.b
     have hGd := good_remove hGd nNew
     refine Eng.g1 53 rfl rfl (x_neq rfl rfl) ?_
     refine p1 (x_pick_t rfl (by conv => lhs; whnf)) ?_
     refine r_nil (t_n ?_)
     first | refine c_dec rfl (fun hc60 => ?_) (fun hc60 => ?_) | refine c_if rfl (fun hc60 => ?_) (fun hc60 => ?_)
     ·try simp only [dA, dB, dC, dD, dE, dF, dG, Int.not_lt, Int.not_le] at hc60
      have hq := undoC_badR hne (st2_err hU (hbz.1 hb6_6) hc60) hc60
      refine r_plain ?_
      refine p1 (x_assign (by conv => lhs; whnf)) ?_
      refine r_nil (t_n (c_seq (r_plain ?_)))
      refine p1 (x_move (by conv => lhs; whnf)) ?_
      refine p1 (x_nilCheck rfl) ?_
      refine p1 (x_fieldAddr fo91_1 sz3 rfl) ?_
      refine p1 (x_load1 un3 rfl (hb.cell (rfl))) ?_
      refine p1 ((x_add rfl rfl (fits_i64 (by omega) (by omega))).cast (congrArg (Value.int .i64) (by omega : _ = ((C.seg + 1 : Nat) : Int)))) ?_
      refine o_call Tryz.func49 fn49 fb49 (segment_Name ((C.seg + 1 : Nat) : Int) _ hg.l) rfl ?_
      rintro v11 w11 ⟨rfl, hE11⟩
      have hX := hX.ext hE11
      have hCX := hCX.ext hE11
      have hb := hb.ext hE11
      have hg := hg.ext hE11
      refine p1 (x_assign (by conv => lhs; whnf)) ?_
      refine r_nil (t_n (c_seq (r_plain ?_)))
      refine p1 (x_move (by conv => lhs; whnf)) ?_
      refine p1 ((x_neq rfl rfl).cast (congrArg Value.bool (decide_eq_false (by simp)))) ?_
      refine p1 (x_move (by conv => lhs; whnf)) ?_
      refine Eng.g0 69 rfl (by first | exact .inl rfl | exact .inr rfl) ?_
      refine p1 (x_pick_f rfl (by conv => lhs; whnf)) ?_
      refine p1 (x_move (by conv => lhs; whnf)) ?_
      refine Eng.g0 72 rfl (by first | exact .inl rfl | exact .inr rfl) ?_
      refine Eng.g0 72 rfl (by first | exact .inl rfl | exact .inr rfl) ?_
      refine Eng.g0 72 rfl (by first | exact .inl rfl | exact .inr rfl) ?_
      refine p1 (x_pick_f rfl (by conv => lhs; whnf)) ?_
      refine p1 (x_move (by conv => lhs; whnf)) ?_
      refine Eng.g0 77 rfl (by first | exact .inl rfl | exact .inr rfl) ?_
      refine Eng.g0 77 rfl (by first | exact .inl rfl | exact .inr rfl) ?_
      refine Eng.g0 77 rfl (by first | exact .inl rfl | exact .inr rfl) ?_
      refine Eng.g0 77 rfl (by first | exact .inl rfl | exact .inr rfl) ?_
      refine Eng.g0 77 rfl (by first | exact .inl rfl | exact .inr rfl) ?_
      refine Eng.g0 77 rfl (by first | exact .inl rfl | exact .inr rfl) ?_
      refine Eng.g0 77 rfl (by first | exact .inl rfl | exact .inr rfl) ?_
      refine p1 (x_pick_f rfl (by conv => lhs; whnf)) ?_
      refine r_nil (t_n ?_)
      refine c_f rfl ?_
      try have hq := undoC_goodR hne (st3_f hU3) rfl
      refine c_skip (t_n (c_seq (c_block (c_seq (r_plain ?_)))))
      refine p1 (x_move (by conv => lhs; whnf)) ?_
      refine p1 ((x_eql rfl rfl).cast (congrArg Value.bool (decide_eq_true rfl))) ?_
      refine p1 (x_assign (by conv => lhs; whnf)) ?_
      refine r_nil (t_n ?_)
      refine c_t rfl ?_
      refine r_plain ?_
      refine p1 (x_move (by conv => lhs; whnf)) ?_
      refine p1 (x_nilCheck rfl) ?_
      refine p1 (x_fieldAddr fo91_6 sz4 rfl) ?_
      refine o_store1 rfl (by conv => lhs; whnf) rfl rfl sz4 hb (by show _ < 7; omega) ?_
      intro w12 hP12
      have hX := hX.put hP12 (⟨.inl hsg, by decide⟩)
      have hb := hP12.blk
      try simp only [List.setIfInBounds_toArray, List.set_cons_zero, List.set_cons_succ] at hb
      have hCY := CstX.laid (C' := { ({ C with D := _ } : CS) with dead := true }) hCX hP12 rfl rfl (hCX.i.one hP12.one (by decide)) (.inl ⟨rfl, rfl⟩)
      refine r_nil (b_n (t_n (c_seq (r_plain ?_))))
      refine p1 (x_move (by conv => lhs; whnf)) ?_
      refine p1 (x_assign (by conv => lhs; whnf)) ?_
      refine r_nil (t_n (c_ret ?_))
      refine end1 rfl (by conv => lhs; whnf) ?_
      first
        | (rw [hq]; exact ⟨rfl, hCY.done, hX⟩)
        | (rw [hq]; exact ⟨rfl, hCX.done, hX⟩)
     ·try simp only [dA, dB, dC, dD, dE, dF, dG, Int.not_lt, Int.not_le] at hc60
      try have hU3 := st2_ok hU (hbz.1 hb6_6) (by omega)
      refine c_skip (t_n (c_seq (r_plain ?_)))
      refine p1 (x_move (by conv => lhs; whnf)) ?_
      refine p1 (x_nilCheck rfl) ?_
      refine p1 (x_fieldAddr fo91_1 sz3 rfl) ?_
      refine p1 (x_load1 un3 rfl (hb.cell (rfl))) ?_
      refine p1 ((x_add rfl rfl (fits_i64 (by omega) (by omega))).cast (congrArg (Value.int .i64) (by omega : _ = ((C.seg + 1 : Nat) : Int)))) ?_
      refine o_call Tryz.func49 fn49 fb49 (segment_Name ((C.seg + 1 : Nat) : Int) _ hg.l) rfl ?_
      rintro v13 w13 ⟨rfl, hE13⟩
      have hX := hX.ext hE13
      have hCX := hCX.ext hE13
      have hb := hb.ext hE13
      have hg := hg.ext hE13
      refine p1 (x_assign (by conv => lhs; whnf)) ?_
      refine r_nil (t_n (c_seq (r_plain ?_)))
      refine p1 (x_move (by conv => lhs; whnf)) ?_
      refine p1 ((x_neq rfl rfl).cast (congrArg Value.bool (decide_eq_true hne))) ?_
      refine p1 (x_move (by conv => lhs; whnf)) ?_
      refine Eng.g1 69 rfl rfl (x_move (by conv => lhs; whnf)) ?_
      refine p1 (x_pick_t rfl (by conv => lhs; whnf)) ?_
      refine p1 (x_move (by conv => lhs; whnf)) ?_
      refine Eng.g0 72 rfl (by first | exact .inl rfl | exact .inr rfl) ?_
      refine Eng.g0 72 rfl (by first | exact .inl rfl | exact .inr rfl) ?_
      refine Eng.g0 72 rfl (by first | exact .inl rfl | exact .inr rfl) ?_
      refine p1 (x_pick_f rfl (by conv => lhs; whnf)) ?_
      refine p1 (x_move (by conv => lhs; whnf)) ?_
      refine Eng.g0 77 rfl (by first | exact .inl rfl | exact .inr rfl) ?_
      refine Eng.g0 77 rfl (by first | exact .inl rfl | exact .inr rfl) ?_
      refine Eng.g0 77 rfl (by first | exact .inl rfl | exact .inr rfl) ?_
      refine Eng.g0 77 rfl (by first | exact .inl rfl | exact .inr rfl) ?_
      refine Eng.g0 77 rfl (by first | exact .inl rfl | exact .inr rfl) ?_
      refine Eng.g0 77 rfl (by first | exact .inl rfl | exact .inr rfl) ?_
      refine Eng.g0 77 rfl (by first | exact .inl rfl | exact .inr rfl) ?_
      refine p1 (x_pick_f rfl (by conv => lhs; whnf)) ?_
      refine r_nil (t_n ?_)
      refine c_f rfl ?_
      try have hq := undoC_goodR hne (st3_f hU3) rfl
      refine c_skip (t_n (c_seq (c_block (c_seq (r_plain ?_)))))
      refine p1 (x_move (by conv => lhs; whnf)) ?_
      refine p1 ((x_eql rfl rfl).cast (congrArg Value.bool (decide_eq_false hne))) ?_
      refine p1 (x_assign (by conv => lhs; whnf)) ?_
      refine r_nil (t_n ?_)
      refine c_f rfl ?_
      refine c_seq (r_plain ?_)
      refine p1 (x_move (by conv => lhs; whnf)) ?_
      refine p1 (x_assign (by conv => lhs; whnf)) ?_
      refine r_nil (t_n ?_)
      refine c_f (rfl) ?_
      refine c_skip (b_n (t_n (c_seq (r_plain ?_))))
      refine p1 (x_move (by conv => lhs; whnf)) ?_
      refine p1 (x_assign (by conv => lhs; whnf)) ?_
      refine r_nil (t_n (c_ret ?_))
      refine end1 rfl (by conv => lhs; whnf) ?_
      first
        | (rw [hq]; exact ⟨rfl, hCY.done, hX⟩)
        | (rw [hq]; exact ⟨rfl, hCX.done, hX⟩)
    ·try simp only [dA, dB, dC, dD, dE, dF, dG, Int.not_lt, Int.not_le] at hb6_6
     have hU3 := st2_no hU (fun h => by have := hbz.2 h; simp_all)
     refine Eng.g0 53 rfl (by first | exact .inl rfl | exact .inr rfl) ?_
     refine Eng.g0 53 rfl (by first | exact .inl rfl | exact .inr rfl) ?_
     refine Eng.g0 53 rfl (by first | exact .inl rfl | exact .inr rfl) ?_
     refine Eng.g0 53 rfl (by first | exact .inl rfl | exact .inr rfl) ?_
     refine Eng.g0 53 rfl (by first | exact .inl rfl | exact .inr rfl) ?_
     refine Eng.g0 53 rfl (by first | exact .inl rfl | exact .inr rfl) ?_
     refine p1 (x_pick_f rfl (by conv => lhs; whnf)) ?_
     refine r_nil (t_n ?_)
     refine c_f rfl ?_
     try have hU3 := st2_ok hU (hbz.1 hb6_6) (by omega)
     refine c_skip (t_n (c_seq (r_plain ?_)))
     refine p1 (x_move (by conv => lhs; whnf)) ?_
     refine p1 (x_nilCheck rfl) ?_
     refine p1 (x_fieldAddr fo91_1 sz3 rfl) ?_
     refine p1 (x_load1 un3 rfl (hb.cell (rfl))) ?_
     refine p1 ((x_add rfl rfl (fits_i64 (by omega) (by omega))).cast (congrArg (Value.int .i64) (by omega : _ = ((C.seg + 1 : Nat) : Int)))) ?_
     refine o_call Tryz.func49 fn49 fb49 (segment_Name ((C.seg + 1 : Nat) : Int) _ hg.l) rfl ?_
     rintro v14 w14 ⟨rfl, hE14⟩
     have hX := hX.ext hE14
     have hCX := hCX.ext hE14
     have hb := hb.ext hE14
     have hg := hg.ext hE14
     refine p1 (x_assign (by conv => lhs; whnf)) ?_
     refine r_nil (t_n (c_seq (r_plain ?_)))
     refine p1 (x_move (by conv => lhs; whnf)) ?_
     refine p1 ((x_neq rfl rfl).cast (congrArg Value.bool (decide_eq_true hne))) ?_
     refine p1 (x_move (by conv => lhs; whnf)) ?_
     refine Eng.g1 69 rfl rfl (x_move (by conv => lhs; whnf)) ?_
     refine p1 (x_pick_t rfl (by conv => lhs; whnf)) ?_
     refine p1 (x_move (by conv => lhs; whnf)) ?_
     refine Eng.g0 72 rfl (by first | exact .inl rfl | exact .inr rfl) ?_
     refine Eng.g0 72 rfl (by first | exact .inl rfl | exact .inr rfl) ?_
     refine Eng.g0 72 rfl (by first | exact .inl rfl | exact .inr rfl) ?_
     refine p1 (x_pick_f rfl (by conv => lhs; whnf)) ?_
     refine p1 (x_move (by conv => lhs; whnf)) ?_
     refine Eng.g0 77 rfl (by first | exact .inl rfl | exact .inr rfl) ?_
     refine Eng.g0 77 rfl (by first | exact .inl rfl | exact .inr rfl) ?_
     refine Eng.g0 77 rfl (by first | exact .inl rfl | exact .inr rfl) ?_
     refine Eng.g0 77 rfl (by first | exact .inl rfl | exact .inr rfl) ?_
     refine Eng.g0 77 rfl (by first | exact .inl rfl | exact .inr rfl) ?_
     refine Eng.g0 77 rfl (by first | exact .inl rfl | exact .inr rfl) ?_
     refine Eng.g0 77 rfl (by first | exact .inl rfl | exact .inr rfl) ?_
     refine p1 (x_pick_f rfl (by conv => lhs; whnf)) ?_
     refine r_nil (t_n ?_)
     refine c_f rfl ?_
     try have hq := undoC_goodR hne (st3_f hU3) rfl
     refine c_skip (t_n (c_seq (c_block (c_seq (r_plain ?_)))))
     refine p1 (x_move (by conv => lhs; whnf)) ?_
     refine p1 ((x_eql rfl rfl).cast (congrArg Value.bool (decide_eq_false hne))) ?_
     refine p1 (x_assign (by conv => lhs; whnf)) ?_
     refine r_nil (t_n ?_)
     refine c_f rfl ?_
     refine c_seq (r_plain ?_)
     refine p1 (x_move (by conv => lhs; whnf)) ?_
     refine p1 (x_assign (by conv => lhs; whnf)) ?_
     refine r_nil (t_n ?_)
     refine c_f (rfl) ?_
     refine c_skip (b_n (t_n (c_seq (r_plain ?_))))
     refine p1 (x_move (by conv => lhs; whnf)) ?_
     refine p1 (x_assign (by conv => lhs; whnf)) ?_
     refine r_nil (t_n (c_ret ?_))
     refine end1 rfl (by conv => lhs; whnf) ?_
     first
       | (rw [hq]; exact ⟨rfl, hCY.done, hX⟩)
       | (rw [hq]; exact ⟨rfl, hCX.done, hX⟩)
  ·try simp only [dA, dB, dC, dD, dE, dF, dG, Int.not_lt, Int.not_le] at hc31
   have hU := st1_no (D := C.D) (seg := C.seg) (size := C.size) (step := false) (by omega)
   refine c_skip (t_n (c_seq (c_seq (r_plain ?_))))
   refine p1 (x_move (by conv => lhs; whnf)) ?_
   refine p1 ((x_neq rfl rfl).cast (congrArg Value.bool (decide_eq_true hne))) ?_
   refine p1 (x_move (by conv => lhs; whnf)) ?_
   refine Eng.g1 49 rfl rfl (x_move (by conv => lhs; whnf)) ?_
   refine g_drop 49 rfl rfl ?_
   refine o_call Tryz.func105 fn105 fb105 (store_there g gd r _ _ μ pi nx ni ci _ _ hCX hGd.ok nNew) rfl ?_
   rintro v15 w15 ⟨⟨bz, rfl, hbz⟩, hE15⟩
   have hX := hX.ext hE15
   have hCX := hCX.ext hE15
   have hb := hb.ext hE15
   have hg := hg.ext hE15
   refine p1 (x_pick_t rfl (by conv => lhs; whnf)) ?_
   refine p1b (x_move (by conv => lhs; whnf)) (fun hb6_6 => ?_) (fun hb6_6 => ?_)
   ·try simp only [dA, dB, dC, dD, dE, dF, dG, Int.not_lt, Int.not_le] at hb6_6
    refine Eng.g1 53 rfl rfl (x_move (by conv => lhs; whnf)) ?_
    refine Eng.g1 53 rfl rfl (x_nilCheck rfl) ?_
    refine Eng.g1 53 rfl rfl (x_fieldAddr fo91_0 sz34 rfl) ?_
    refine Eng.g1 53 rfl rfl (x_load1 un34 rfl (hb.cell (rfl))) ?_
    refine g_drop 53 rfl rfl ?_
    have hXs := hX.size
    refine o_call Tryz.func95 fn95 fb95 (disk_Remove gd _ _ _ hCX.d hGd.ok (Nat.lt_of_le_of_lt hGd.steps (by omega)) hGd.left nNew (by decide)) rfl ?_
    rintro v16 w16 ⟨rfl, hD2, hM2⟩
    have hX := hX.stepE hM2 (sub_old hCX)
    have hg := hg.modS hM2 (fun k hk => (hCX.sub k hk).elim (hS k) fun q => Nat.le_trans hgs q)
    have hCX := hCX.stepD hXs hM2 hD2
    have hb : Blk w16 g (stoV gd C pi ni ci r nx) tSto := hCX.b
    have hGd := good_remove hGd nNew
    refine Eng.g1 53 rfl rfl (x_neq rfl rfl) ?_
    refine p1 (x_pick_t rfl (by conv => lhs; whnf)) ?_
    refine r_nil (t_n ?_)
    first | refine c_dec rfl (fun hc60 => ?_) (fun hc60 => ?_) | refine c_if rfl (fun hc60 => ?_) (fun hc60 => ?_)
    ·try simp only [dA, dB, dC, dD, dE, dF, dG, Int.not_lt, Int.not_le] at hc60
     have hq := undoC_badR hne (st2_err hU (hbz.1 hb6_6) hc60) hc60
     refine r_plain ?_
     refine p1 (x_assign (by conv => lhs; whnf)) ?_
     refine r_nil (t_n (c_seq (r_plain ?_)))
     refine p1 (x_move (by conv => lhs; whnf)) ?_
     refine p1 (x_nilCheck rfl) ?_
     refine p1 (x_fieldAddr fo91_1 sz3 rfl) ?_
     refine p1 (x_load1 un3 rfl (hb.cell (rfl))) ?_
     refine p1 ((x_add rfl rfl (fits_i64 (by omega) (by omega))).cast (congrArg (Value.int .i64) (by omega : _ = ((C.seg + 1 : Nat) : Int)))) ?_
     refine o_call Tryz.func49 fn49 fb49 (segment_Name ((C.seg + 1 : Nat) : Int) _ hg.l) rfl ?_
     rintro v17 w17 ⟨rfl, hE17⟩
     have hX := hX.ext hE17
     have hCX := hCX.ext hE17
     have hb := hb.ext hE17
     have hg := hg.ext hE17
     refine p1 (x_assign (by conv => lhs; whnf)) ?_
     refine r_nil (t_n (c_seq (r_plain ?_)))
     refine p1 (x_move (by conv => lhs; whnf)) ?_
     refine p1 ((x_neq rfl rfl).cast (congrArg Value.bool (decide_eq_false (by simp)))) ?_
     refine p1 (x_move (by conv => lhs; whnf)) ?_
     refine Eng.g0 69 rfl (by first | exact .inl rfl | exact .inr rfl) ?_
     refine p1 (x_pick_f rfl (by conv => lhs; whnf)) ?_
     refine p1 (x_move (by conv => lhs; whnf)) ?_
     refine Eng.g0 72 rfl (by first | exact .inl rfl | exact .inr rfl) ?_
     refine Eng.g0 72 rfl (by first | exact .inl rfl | exact .inr rfl) ?_
     refine Eng.g0 72 rfl (by first | exact .inl rfl | exact .inr rfl) ?_
     refine p1 (x_pick_f rfl (by conv => lhs; whnf)) ?_
     refine p1 (x_move (by conv => lhs; whnf)) ?_
     refine Eng.g0 77 rfl (by first | exact .inl rfl | exact .inr rfl) ?_
     refine Eng.g0 77 rfl (by first | exact .inl rfl | exact .inr rfl) ?_
     refine Eng.g0 77 rfl (by first | exact .inl rfl | exact .inr rfl) ?_
     refine Eng.g0 77 rfl (by first | exact .inl rfl | exact .inr rfl) ?_
     refine Eng.g0 77 rfl (by first | exact .inl rfl | exact .inr rfl) ?_
     refine Eng.g0 77 rfl (by first | exact .inl rfl | exact .inr rfl) ?_
     refine Eng.g0 77 rfl (by first | exact .inl rfl | exact .inr rfl) ?_
     refine p1 (x_pick_f rfl (by conv => lhs; whnf)) ?_
     refine r_nil (t_n ?_)
     refine c_f rfl ?_
     try have hq := undoC_goodR hne (st3_f hU3) rfl
     refine c_skip (t_n (c_seq (c_block (c_seq (r_plain ?_)))))
     refine p1 (x_move (by conv => lhs; whnf)) ?_
     refine p1 ((x_eql rfl rfl).cast (congrArg Value.bool (decide_eq_true rfl))) ?_
     refine p1 (x_assign (by conv => lhs; whnf)) ?_
     refine r_nil (t_n ?_)
     refine c_t rfl ?_
     refine r_plain ?_
     refine p1 (x_move (by conv => lhs; whnf)) ?_
     refine p1 (x_nilCheck rfl) ?_
     refine p1 (x_fieldAddr fo91_6 sz4 rfl) ?_
     refine o_store1 rfl (by conv => lhs; whnf) rfl rfl sz4 hb (by show _ < 7; omega) ?_
     intro w18 hP18
     have hX := hX.put hP18 (⟨.inl hsg, by decide⟩)
     have hb := hP18.blk
     try simp only [List.setIfInBounds_toArray, List.set_cons_zero, List.set_cons_succ] at hb
     have hCY := CstX.laid (C' := { ({ C with D := _ } : CS) with dead := true }) hCX hP18 rfl rfl (hCX.i.one hP18.one (by decide)) (.inl ⟨rfl, rfl⟩)
     refine r_nil (b_n (t_n (c_seq (r_plain ?_))))
     refine p1 (x_move (by conv => lhs; whnf)) ?_
     refine p1 (x_assign (by conv => lhs; whnf)) ?_
     refine r_nil (t_n (c_ret ?_))
     refine end1 rfl (by conv => lhs; whnf) ?_
     first
       | (rw [hq]; exact ⟨rfl, hCY.done, hX⟩)
       | (rw [hq]; exact ⟨rfl, hCX.done, hX⟩)
    ·try simp only [dA, dB, dC, dD, dE, dF, dG, Int.not_lt, Int.not_le] at hc60
     try have hU3 := st2_ok hU (hbz.1 hb6_6) (by omega)
     refine c_skip (t_n (c_seq (r_plain ?_)))
     refine p1 (x_move (by conv => lhs; whnf)) ?_
     refine p1 (x_nilCheck rfl) ?_
     refine p1 (x_fieldAddr fo91_1 sz3 rfl) ?_
     refine p1 (x_load1 un3 rfl (hb.cell (rfl))) ?_
     refine p1 ((x_add rfl rfl (fits_i64 (by omega) (by omega))).cast (congrArg (Value.int .i64) (by omega : _ = ((C.seg + 1 : Nat) : Int)))) ?_
     refine o_call Tryz.func49 fn49 fb49 (segment_Name ((C.seg + 1 : Nat) : Int) _ hg.l) rfl ?_
     rintro v19 w19 ⟨rfl, hE19⟩
     have hX := hX.ext hE19
     have hCX := hCX.ext hE19
     have hb := hb.ext hE19
     have hg := hg.ext hE19
     refine p1 (x_assign (by conv => lhs; whnf)) ?_
     refine r_nil (t_n (c_seq (r_plain ?_)))
     refine p1 (x_move (by conv => lhs; whnf)) ?_
     refine p1 ((x_neq rfl rfl).cast (congrArg Value.bool (decide_eq_true hne))) ?_
     refine p1 (x_move (by conv => lhs; whnf)) ?_
     refine Eng.g1 69 rfl rfl (x_move (by conv => lhs; whnf)) ?_
     refine p1 (x_pick_t rfl (by conv => lhs; whnf)) ?_
     refine p1 (x_move (by conv => lhs; whnf)) ?_
     refine Eng.g0 72 rfl (by first | exact .inl rfl | exact .inr rfl) ?_
     refine Eng.g0 72 rfl (by first | exact .inl rfl | exact .inr rfl) ?_
     refine Eng.g0 72 rfl (by first | exact .inl rfl | exact .inr rfl) ?_
     refine p1 (x_pick_f rfl (by conv => lhs; whnf)) ?_
     refine p1 (x_move (by conv => lhs; whnf)) ?_
     refine Eng.g0 77 rfl (by first | exact .inl rfl | exact .inr rfl) ?_
     refine Eng.g0 77 rfl (by first | exact .inl rfl | exact .inr rfl) ?_
     refine Eng.g0 77 rfl (by first | exact .inl rfl | exact .inr rfl) ?_
     refine Eng.g0 77 rfl (by first | exact .inl rfl | exact .inr rfl) ?_
     refine Eng.g0 77 rfl (by first | exact .inl rfl | exact .inr rfl) ?_
     refine Eng.g0 77 rfl (by first | exact .inl rfl | exact .inr rfl) ?_
     refine Eng.g0 77 rfl (by first | exact .inl rfl | exact .inr rfl) ?_
     refine p1 (x_pick_f rfl (by conv => lhs; whnf)) ?_
     refine r_nil (t_n ?_)
     refine c_f rfl ?_
     try have hq := undoC_goodR hne (st3_f hU3) rfl
     refine c_skip (t_n (c_seq (c_block (c_seq (r_plain ?_)))))
     refine p1 (x_move (by conv => lhs; whnf)) ?_
     refine p1 ((x_eql rfl rfl).cast (congrArg Value.bool (decide_eq_false hne))) ?_
     refine p1 (x_assign (by conv => lhs; whnf)) ?_
     refine r_nil (t_n ?_)
     refine c_f rfl ?_
     refine c_seq (r_plain ?_)
     refine p1 (x_move (by conv => lhs; whnf)) ?_
     refine p1 (x_assign (by conv => lhs; whnf)) ?_
     refine r_nil (t_n ?_)
     refine c_f (rfl) ?_
     refine c_skip (b_n (t_n (c_seq (r_plain ?_))))
     refine p1 (x_move (by conv => lhs; whnf)) ?_
     refine p1 (x_assign (by conv => lhs; whnf)) ?_
     refine r_nil (t_n (c_ret ?_))
     refine end1 rfl (by conv => lhs; whnf) ?_
     first
       | (rw [hq]; exact ⟨rfl, hCY.done, hX⟩)
       | (rw [hq]; exact ⟨rfl, hCX.done, hX⟩)
   ·try simp only [dA, dB, dC, dD, dE, dF, dG, Int.not_lt, Int.not_le] at hb6_6
    have hU3 := st2_no hU (fun h => by have := hbz.2 h; simp_all)
    refine Eng.g0 53 rfl (by first | exact .inl rfl | exact .inr rfl) ?_
    refine Eng.g0 53 rfl (by first | exact .inl rfl | exact .inr rfl) ?_
    refine Eng.g0 53 rfl (by first | exact .inl rfl | exact .inr rfl) ?_
    refine Eng.g0 53 rfl (by first | exact .inl rfl | exact .inr rfl) ?_
    refine Eng.g0 53 rfl (by first | exact .inl rfl | exact .inr rfl) ?_
    refine Eng.g0 53 rfl (by first | exact .inl rfl | exact .inr rfl) ?_
    refine p1 (x_pick_f rfl (by conv => lhs; whnf)) ?_
    refine r_nil (t_n ?_)
    refine c_f rfl ?_
    try have hU3 := st2_ok hU (hbz.1 hb6_6) (by omega)
    refine c_skip (t_n (c_seq (r_plain ?_)))
    refine p1 (x_move (by conv => lhs; whnf)) ?_
    refine p1 (x_nilCheck rfl) ?_
    refine p1 (x_fieldAddr fo91_1 sz3 rfl) ?_
    refine p1 (x_load1 un3 rfl (hb.cell (rfl))) ?_
    refine p1 ((x_add rfl rfl (fits_i64 (by omega) (by omega))).cast (congrArg (Value.int .i64) (by omega : _ = ((C.seg + 1 : Nat) : Int)))) ?_
    refine o_call Tryz.func49 fn49 fb49 (segment_Name ((C.seg + 1 : Nat) : Int) _ hg.l) rfl ?_
    rintro v20 w20 ⟨rfl, hE20⟩
    have hX := hX.ext hE20
    have hCX := hCX.ext hE20
    have hb := hb.ext hE20
    have hg := hg.ext hE20
    refine p1 (x_assign (by conv => lhs; whnf)) ?_
    refine r_nil (t_n (c_seq (r_plain ?_)))
    refine p1 (x_move (by conv => lhs; whnf)) ?_
    refine p1 ((x_neq rfl rfl).cast (congrArg Value.bool (decide_eq_true hne))) ?_
    refine p1 (x_move (by conv => lhs; whnf)) ?_
    refine Eng.g1 69 rfl rfl (x_move (by conv => lhs; whnf)) ?_
    refine p1 (x_pick_t rfl (by conv => lhs; whnf)) ?_
    refine p1 (x_move (by conv => lhs; whnf)) ?_
    refine Eng.g0 72 rfl (by first | exact .inl rfl | exact .inr rfl) ?_
    refine Eng.g0 72 rfl (by first | exact .inl rfl | exact .inr rfl) ?_
    refine Eng.g0 72 rfl (by first | exact .inl rfl | exact .inr rfl) ?_
    refine p1 (x_pick_f rfl (by conv => lhs; whnf)) ?_
    refine p1 (x_move (by conv => lhs; whnf)) ?_
    refine Eng.g0 77 rfl (by first | exact .inl rfl | exact .inr rfl) ?_
    refine Eng.g0 77 rfl (by first | exact .inl rfl | exact .inr rfl) ?_
    refine Eng.g0 77 rfl (by first | exact .inl rfl | exact .inr rfl) ?_
    refine Eng.g0 77 rfl (by first | exact .inl rfl | exact .inr rfl) ?_
    refine Eng.g0 77 rfl (by first | exact .inl rfl | exact .inr rfl) ?_
    refine Eng.g0 77 rfl (by first | exact .inl rfl | exact .inr rfl) ?_
    refine Eng.g0 77 rfl (by first | exact .inl rfl | exact .inr rfl) ?_
    refine p1 (x_pick_f rfl (by conv => lhs; whnf)) ?_
    refine r_nil (t_n ?_)
    refine c_f rfl ?_
    try have hq := undoC_goodR hne (st3_f hU3) rfl
    refine c_skip (t_n (c_seq (c_block (c_seq (r_plain ?_)))))
    refine p1 (x_move (by conv => lhs; whnf)) ?_
    refine p1 ((x_eql rfl rfl).cast (congrArg Value.bool (decide_eq_false hne))) ?_
    refine p1 (x_assign (by conv => lhs; whnf)) ?_
    refine r_nil (t_n ?_)
    refine c_f rfl ?_
    refine c_seq (r_plain ?_)
    refine p1 (x_move (by conv => lhs; whnf)) ?_
    refine p1 (x_assign (by conv => lhs; whnf)) ?_
    refine r_nil (t_n ?_)
    refine c_f (rfl) ?_
    refine c_skip (b_n (t_n (c_seq (r_plain ?_))))
    refine p1 (x_move (by conv => lhs; whnf)) ?_
    refine p1 (x_assign (by conv => lhs; whnf)) ?_
    refine r_nil (t_n (c_ret ?_))
    refine end1 rfl (by conv => lhs; whnf) ?_
    first
      | (rw [hq]; exact ⟨rfl, hCY.done, hX⟩)
      | (rw [hq]; exact ⟨rfl, hCX.done, hX⟩)
 ·try simp only [dA, dB, dC, dD, dE, dF, dG, Int.not_lt, Int.not_le] at hc11
  exact absurd hc11 (by simpa using hne)
theorem store_undo (g gd r : Nat) (S Sd : Nat → Prop) (μ : Hash → Option R3) (pi nx : Option Addr) (ni ci : Nat) (C : CS) (k : Nat) (w : World) (hCX : CstX S Sd w g gd r μ pi ni ci nx C) (hn : CN C k) (hS : ∀ j, S j → 6 ≤ j) (hg : Gt w) (hk : k < 4611686018427300000) (e : Int) (st : Bool) :
    Ret Tryz.prog 57 [.pointer (some ⟨g, 0, none⟩), .int .i64 e, .bool st] w (fun v w' => v = .int .i64 (undoC C e st).2 ∧ Cst (grow S w w') w' g gd (undoC C e st).1 ∧ ModS S EC w w') := by
  by_cases he : e = 20
  · subst he; exact store_undo20 g gd r S Sd μ pi nx ni ci C k w hCX hn hS hg hk st
  · cases st with
    | true => exact store_undo_true g gd r S Sd μ pi nx ni ci C k w hCX hn hS hg hk e he
    | false => exact store_undo_false g gd r S Sd μ pi nx ni ci C k w hCX hn hS hg hk e he
end Go.Proofs.Eng
end
section
set_option maxRecDepth 100000
set_option maxHeartbeats 4000000
namespace Go.Proofs.Eng
open Go.RowKit
open Extern.Stop (cell)
theorem fb103 : Tryz.f103.body.isNone = false := by kernel_rfl
theorem fb52 : Tryz.f52.body.isNone = false := by kernel_rfl
theorem fb53 : Tryz.f53.body.isNone = false := by kernel_rfl
theorem fb54 : Tryz.f54.body.isNone = false := by kernel_rfl
theorem fb55 : Tryz.f55.body.isNone = false := by kernel_rfl
theorem fb56 : Tryz.f56.body.isNone = false := by kernel_rfl
theorem fb57 : Tryz.f57.body.isNone = false := by kernel_rfl
theorem fb59 : Tryz.f59.body.isNone = false := by kernel_rfl
theorem fn103 : (Tryz.f103.name == "runtime.NumGoroutine") = false := by kernel_rfl
theorem fn52 : (Tryz.f52.name == "runtime.NumGoroutine") = false := by kernel_rfl
theorem fn53 : (Tryz.f53.name == "runtime.NumGoroutine") = false := by kernel_rfl
theorem fn54 : (Tryz.f54.name == "runtime.NumGoroutine") = false := by kernel_rfl
theorem fn55 : (Tryz.f55.name == "runtime.NumGoroutine") = false := by kernel_rfl
theorem fn56 : (Tryz.f56.name == "runtime.NumGoroutine") = false := by kernel_rfl
theorem fn57 : (Tryz.f57.name == "runtime.NumGoroutine") = false := by kernel_rfl
theorem fn59 : (Tryz.f59.name == "runtime.NumGoroutine") = false := by kernel_rfl
theorem zr9 : (Tryz.prog.info? 9).map (·.zero) = some (some (.string ByteArray.empty)) := by kernel_rfl
end Go.Proofs.Eng
end
section
set_option maxRecDepth 100000
set_option maxHeartbeats 4000000
namespace Go.Proofs.Eng
open Go.RowKit
open Extern.Stop (cell)
theorem put_1 (p : Option Addr) (n c : Nat) (w : World) :
    Ret Tryz.prog 53 [.slice p n c] w (fun v w' => v = .bool (decide (1048576 < n)) ∧ Ext w w') := by
 have hX := Ext.refl w
 refine enter 6 _ Tryz.func53 rfl rfl (Nat.le_of_ble_eq_true rfl) rfl ?_
 refine c_seq (r_plain ?_)
 refine p1 (x_assign (by conv => lhs; whnf)) ?_
 refine r_nil (t_n (c_seq (r_plain ?_)))
 refine p1 (x_move (by conv => lhs; whnf)) ?_
 refine p1 (x_len_slice u23 rfl) ?_
 refine p1 (x_gtr rfl rfl) ?_
 refine p1 (x_assign (by conv => lhs; whnf)) ?_
 refine r_nil (t_n (c_ret ?_))
 refine end1 rfl (by conv => lhs; whnf) ?_
 exact ⟨congrArg Value.bool (decide_eq_decide.2 (by omega)), hX⟩
theorem index_func (xss : List By) (B : Nat) (p : Option Addr) (n c : Nat) (w : World) (hl : Sl (kSl kByte 5) 23 B w p n c xss) :
    Ret Tryz.prog 103 [.slice p n c, .func (.func 53) #[] #[]] w (fun v w' => (∃ i : Int, v = .int .i64 i ∧ (0 ≤ i ↔ ∃ x ∈ xss, 1048576 < x.length)) ∧ Ext w w') := by
 have hX := Ext.refl w
 refine enter 19 _ Tryz.func103 rfl rfl (Nat.le_of_ble_eq_true rfl) rfl ?_
 refine c_seq (r_plain ?_)
 refine p1 (x_assign (by conv => lhs; whnf)) ?_
 refine r_nil (t_n (c_seq (c_seq (r_plain ?_))))
 refine p1 (x_move (by conv => lhs; whnf)) ?_
 refine p1 (x_len_slice u22 rfl) ?_
 refine p1 (x_move (by conv => lhs; whnf)) ?_
 refine r_nil (t_n (c_block ?_))
 have hWL0 := Ext.refl w
 have hlen := hl.len
 have hcap := hl.cap
 have hfit := hl.fit
 refine c_loop (ι := Nat) [4, 5, 8, 9, 10, 11, 12, 13, 14, 15, 16, 17, 18] (fun k => [(8, .int .i64 (k : Int))]) (fun k w' => Ext w w' ∧ (k ≤ n ∧ ∀ i, i < k → (xss.getD i []).length ≤ 1048576)) (fun k => n - k) (0) ⟨rfl, trivial⟩ ⟨Ext.refl _, by omega, fun i hi => by omega⟩ ?_
 rintro k GL0 w1 ⟨hE1, hk, hL⟩
 have hX := hX.ext hE1
 have hWL0 := hE1
 refine c_seq (r_plain ?_)
 refine p1 (x_lss rfl rfl) ?_
 refine r_nil (t_n (c_seq ?_))
 first | refine c_dec rfl (fun hc9 => ?_) (fun hc9 => ?_) | refine c_if rfl (fun hc9 => ?_) (fun hc9 => ?_)
 ·try simp only [dA, dB, dC, dD, dE, dF, dG, Int.not_lt, Int.not_le] at hc9
  refine c_skip (t_n (c_seq (c_block (c_seq (r_plain ?_)))))
  refine p1 (x_move (by conv => lhs; whnf)) ?_
  refine p1 (x_assign (by conv => lhs; whnf)) ?_
  refine r_nil (t_n (c_seq ?_))
  obtain ⟨qk, mk, ck, hck, hrow⟩ := (hl.ext hX).slAt k (by omega)
  have hrl := hrow.len
  refine r_plain ?_
  refine p1 (x_move (by conv => lhs; whnf)) ?_
  refine p1 (x_move (by conv => lhs; whnf)) ?_
  refine p1 (x_move (by conv => lhs; whnf)) ?_
  refine p1 (x_ixs0 (i := k) u22 sz23 rfl rfl ((hl.ext hX).adr kSl_pos (by omega)) (by omega)) ?_
  refine p1 (x_load1 un23 rfl hck) ?_
  refine o_callv (fs := []) (cs := []) rfl Tryz.func53 fn53 fb53 rfl rfl (put_1 _ _ _ _) ?_
  rintro v2 w2 ⟨rfl, hE2⟩
  have hX := hX.ext hE2
  have hWL0 := hWL0.ext hE2
  refine r_nil (t_n ?_)
  first | refine c_dec rfl (fun hc16 => ?_) (fun hc16 => ?_) | refine c_if rfl (fun hc16 => ?_) (fun hc16 => ?_)
  ·try simp only [dA, dB, dC, dD, dE, dF, dG, Int.not_lt, Int.not_le] at hc16
   have hex : ∃ x ∈ xss, 1048576 < x.length := ⟨_, mem_of_getD (z := []) (i := k) (by omega) rfl, by omega⟩
   refine c_seq (r_plain ?_)
   refine p1 (x_move (by conv => lhs; whnf)) ?_
   refine p1 (x_assign (by conv => lhs; whnf)) ?_
   refine r_nil (t_n (c_ret (b_r (t_r (t_r (b_r (t_r ?_)))))))
   refine end1 rfl (by conv => lhs; whnf) ?_
   first
     | exact ⟨⟨_, rfl, ⟨fun _ => hex, fun _ => by omega⟩⟩, hX⟩
     | exact ⟨⟨_, rfl, ⟨fun h => absurd h (by omega), fun ⟨x, hx, h⟩ => by
         obtain ⟨i, hi, e⟩ := List.mem_iff_getElem.1 hx
         have := hL i (by omega)
         rw [List.getD_eq_getElem?_getD, List.getElem?_eq_getElem hi, Option.getD_some, e] at this
         omega⟩⟩, hX⟩
  ·try simp only [dA, dB, dC, dD, dE, dF, dG, Int.not_lt, Int.not_le] at hc16
   refine c_skip (b_n (t_n (r_plain ?_)))
   refine p1 (x_add rfl rfl (fits_i64 (by omega) (by omega))) ?_
   refine p1 (x_move (by conv => lhs; whnf)) ?_
   refine r_nil ?_
   refine t_n (At.mk (k + 1) (by repeat (first | exact Agr.refl _ _ | exact Agr.hav _ _ _ | refine Agr.upd rfl ?_ | refine Agr.updR rfl ?_ | refine Agr.updL ?_ _ rfl | refine Agr.hav' rfl ?_)) ⟨rfl, trivial⟩ ?_)
   exact ⟨⟨hWL0, by omega, fun i hi => if h : i < k then hL i h else by rw [show i = k from by omega]; omega⟩, by first | (dsimp only; omega) | ((show _ < _); omega)⟩
 ·try simp only [dA, dB, dC, dD, dE, dF, dG, Int.not_lt, Int.not_le] at hc9
  refine c_exit (t_e (t_e (b_hit (t_n (c_seq (r_plain ?_))))))
  refine p1 (x_assign (by conv => lhs; whnf)) ?_
  refine r_nil (t_n (c_ret ?_))
  refine end1 rfl (by conv => lhs; whnf) ?_
  first
    | exact ⟨⟨_, rfl, ⟨fun _ => hex, fun _ => by omega⟩⟩, hX⟩
    | exact ⟨⟨_, rfl, ⟨fun h => absurd h (by omega), fun ⟨x, hx, h⟩ => by
        obtain ⟨i, hi, e⟩ := List.mem_iff_getElem.1 hx
        have := hL i (by omega)
        rw [List.getD_eq_getElem?_getD, List.getElem?_eq_getElem hi, Option.getD_some, e] at this
        omega⟩⟩, hX⟩
theorem contains_func (xss : List By) (B : Nat) (p : Option Addr) (n c : Nat) (w : World) (hl : Sl (kSl kByte 5) 23 B w p n c xss) :
    Ret Tryz.prog 52 [.slice p n c, .func (.func 53) #[] #[]] w (fun v w' => v = .bool (decide (∃ x ∈ xss, 1048576 < x.length)) ∧ Ext w w') := by
 have hX := Ext.refl w
 refine enter 9 _ Tryz.func52 rfl rfl (Nat.le_of_ble_eq_true rfl) rfl ?_
 refine c_seq (r_plain ?_)
 refine p1 (x_assign (by conv => lhs; whnf)) ?_
 refine r_nil (t_n (c_seq (r_plain ?_)))
 refine p1 (x_move (by conv => lhs; whnf)) ?_
 refine p1 (x_move (by conv => lhs; whnf)) ?_
 refine o_call Tryz.func103 fn103 fb103 (index_func xss B _ _ _ _ (hl.ext hX)) rfl ?_
 rintro v1 w1 ⟨⟨i, rfl, hi⟩, hE1⟩
 have hX := hX.ext hE1
 refine p1 (x_geq rfl rfl) ?_
 refine p1 (x_assign (by conv => lhs; whnf)) ?_
 refine r_nil (t_n (c_ret ?_))
 refine end1 rfl (by conv => lhs; whnf) ?_
 exact ⟨congrArg Value.bool (decide_eq_decide.2 hi), hX⟩
theorem put_2 (gd : Nat) (S : Nat → Prop) (D : DS) (w : World) (hD : Dsk S w gd D) (hok : DOk D) (hst : D.steps < 4611686018427387904) (hle : D.left ≤ 9223372036854775807) (hnm : ∀ x ∈ D.l, namedD x.1 = true) (b0 b1 gs : Nat) (cs : Array Value) (nm : ByteArray) (hnz : nm.size ≤ 9223372036854775807) (hb0 : Blk w b0 #[.pointer (some ⟨gs, 0, none⟩)] 30) (hs : Blk w gs cs 91) (hs0 : cs[0]? = some (.pointer (some ⟨gd, 0, none⟩))) (hb1 : Blk w b1 #[.string nm] 9) (b2 e B : Nat) (p : Option Addr) (n c : Nat) (ys : By) (hb2 : Blk w b2 #[.slice p n c] 23) (hl : Sl kByte e B w p n c ys) :
    Ret Tryz.prog 55 [.pointer (some ⟨b0, 0, none⟩), .pointer (some ⟨b1, 0, none⟩), .pointer (some ⟨b2, 0, none⟩)] w (fun v w' => v = .int .i64 (appendD D nm ys).2 ∧ Dsk (grow S w w') w' gd (appendD D nm ys).1 ∧ ModS S ED w w') := by
 have hX := Ext.refl w
 refine enter 11 _ Tryz.func55 rfl rfl (Nat.le_of_ble_eq_true rfl) rfl ?_
 refine c_seq (r_plain ?_)
 refine p1 (x_assign (by conv => lhs; whnf)) ?_
 refine r_nil (t_n (c_seq ?_))
 refine r_tail 6 mixed (by kernel_rfl) ?_
 intro w1 hE1
 have hX := hX.ext hE1
 have hD := hD.ext hE1
 have hb0 := hb0.ext hE1
 have hb1 := hb1.ext hE1
 have hs := hs.ext hE1
 have hb2 := hb2.ext hE1
 have hl := hl.ext hE1
 refine s1 (x_load1 un30 rfl (hb0.cell (rfl))) ?_
 refine s1 (x_nilCheck rfl) ?_
 refine s1 (x_fieldAddr fo91_0 sz34 rfl) ?_
 refine s1 (x_load1 un34 rfl (hs.cell (hs0))) ?_
 refine s1 (x_load1 un9 rfl (hb1.cell (rfl))) ?_
 refine s1 (x_load1 un23 rfl (hb2.cell (rfl))) ?_
 refine s_nil ?_
 have hXs := hX.size
 refine o_call Tryz.func19 fn19 fb19 (disk_Append gd S D _ hD hok hst hle nm hnz e B _ _ _ _ hl) rfl ?_
 rintro v2 w2 ⟨rfl, hD2, hM2⟩
 refine p1 (x_assign (by conv => lhs; whnf)) ?_
 refine r_nil (t_n (c_ret ?_))
 refine end1 rfl (by conv => lhs; whnf) ?_
 exact ⟨rfl, hD2.wide hXs, (ModS.ofExt hX).trans hM2 (fun _ _ h => h)⟩
theorem put_3 (gd : Nat) (S : Nat → Prop) (D : DS) (w : World) (hD : Dsk S w gd D) (hok : DOk D) (hst : D.steps < 4611686018427387904) (hle : D.left ≤ 9223372036854775807) (hnm : ∀ x ∈ D.l, namedD x.1 = true) (b0 b1 gs : Nat) (cs : Array Value) (nm : ByteArray) (hnz : nm.size ≤ 9223372036854775807) (hb0 : Blk w b0 #[.pointer (some ⟨gs, 0, none⟩)] 30) (hs : Blk w gs cs 91) (hs0 : cs[0]? = some (.pointer (some ⟨gd, 0, none⟩))) (hb1 : Blk w b1 #[.string nm] 9) :
    Ret Tryz.prog 56 [.pointer (some ⟨b0, 0, none⟩), .pointer (some ⟨b1, 0, none⟩)] w (fun v w' => v = .int .i64 (syncD D nm).2 ∧ Dsk (grow S w w') w' gd (syncD D nm).1 ∧ ModS S ED w w') := by
 have hX := Ext.refl w
 refine enter 9 _ Tryz.func56 rfl rfl (Nat.le_of_ble_eq_true rfl) rfl ?_
 refine c_seq (r_plain ?_)
 refine p1 (x_assign (by conv => lhs; whnf)) ?_
 refine r_nil (t_n (c_seq ?_))
 refine r_tail 5 mixed (by kernel_rfl) ?_
 intro w1 hE1
 have hX := hX.ext hE1
 have hD := hD.ext hE1
 have hb0 := hb0.ext hE1
 have hb1 := hb1.ext hE1
 have hs := hs.ext hE1
 refine s1 (x_load1 un30 rfl (hb0.cell (rfl))) ?_
 refine s1 (x_nilCheck rfl) ?_
 refine s1 (x_fieldAddr fo91_0 sz34 rfl) ?_
 refine s1 (x_load1 un34 rfl (hs.cell (hs0))) ?_
 refine s1 (x_load1 un9 rfl (hb1.cell (rfl))) ?_
 refine s_nil ?_
 have hXs := hX.size
 refine o_call Tryz.func20 fn20 fb20 (disk_Sync gd S D _ hD hok hst hle nm hnz) rfl ?_
 rintro v2 w2 ⟨rfl, hD2, hM2⟩
 refine p1 (x_assign (by conv => lhs; whnf)) ?_
 refine r_nil (t_n (c_ret ?_))
 refine end1 rfl (by conv => lhs; whnf) ?_
 exact ⟨rfl, hD2.wide hXs, (ModS.ofExt hX).trans hM2 (fun _ _ h => h)⟩
theorem store_Put (g gd r : Nat) (S Sd : Nat → Prop) (μ : Hash → Option R3) (pi nx : Option Addr) (ni ci : Nat) (C : CS) (k_ : Nat) (w : World) (hCX : CstX S Sd w g gd r μ pi ni ci nx C) (hn : CN C k_) (hS : ∀ j, S j → 6 ≤ j) (hg : Gt w) (hk : k_ < 4611686018427200000) (xss : List By) (B : Nat) (p : Option Addr) (n c : Nat) (hl : Sl (kSl kByte 5) 23 B w p n c xss) (hBw : B ≤ w.heap.size) (hn2 : n ≤ 100000) (ix : By) (q : Option Addr) (m c2 : Nat) (hix : Out S w q m c2 ix) :
    Ret Tryz.prog 14 [.pointer (some ⟨g, 0, none⟩), .slice p n c, .slice q m c2] w (fun v w' => v = .int .i64 (putC C xss ix).2 ∧ Cst (grow S w w') w' g gd (putC C xss ix).1 ∧ ModS S EC w w') := by
 have hgs := hg.size
 have hsg := hCX.sg
 have hGd := hn.good
 have hhi := hn.hi
 have hsz := hn.sz
 obtain ⟨Sd, hSd, hCX0⟩ : ∃ Sd', (∀ j, Sd' j → j < w.heap.size) ∧ CstX S Sd' w g gd r μ pi ni ci nx C := ⟨_, fun j h => h.2, hCX.mono fun _ _ h => h⟩
 have hg0 := hg
 have hb := hCX0.b
 have hbl := hb.lt
 have hrl_ := hCX0.m.lt
 have hg6 := hS _ hsg
 have hX := Ext.refl w
 refine enter 127 _ Tryz.func14 rfl rfl (Nat.le_of_ble_eq_true rfl) rfl ?_
 refine c_seq (r_plain ?_)
 have hz3 := hX.size
 refine o_box1 (by conv => lhs; whnf) rfl ?_
 intro w1 g3 hN3
 have hE1 := hN3.ext
 have hX := hX.ext hE1
 have hb := hb.ext hE1
 have hB3 := hN3.blk
 have hq3 := hN3.g_eq
 refine p1 (x_assign (by conv => lhs; whnf)) ?_
 refine r_nil (t_n (c_seq (c_block (c_seq (r_plain ?_)))))
 refine p1 (x_load1 un30 rfl (hB3.cell (rfl))) ?_
 refine p1 ((x_eql_ptrnil u30 rfl rfl).cast (congrArg _ (decide_eq_false (by simp)))) ?_
 refine p1 (x_assign (by conv => lhs; whnf)) ?_
 refine r_nil (t_n ?_)
 refine c_f (rfl) ?_
 refine c_seq (r_plain ?_)
 refine p1 (x_load1 un30 rfl (hB3.cell (rfl))) ?_
 refine p1 (x_nilCheck rfl) ?_
 refine p1 (x_fieldAddr fo91_6 sz4 rfl) ?_
 refine p1 (x_load1 un4 rfl (hb.cell (rfl))) ?_
 refine p1 (x_assign (by conv => lhs; whnf)) ?_
 refine r_nil (t_n ?_)
 first | refine c_dec rfl (fun hc19 => ?_) (fun hc19 => ?_) | refine c_if rfl (fun hc19 => ?_) (fun hc19 => ?_)
 ·try simp only [dA, dB, dC, dD, dE, dF, dG, Int.not_lt, Int.not_le] at hc19
  have hp : putC C xss ix = (C, 20) := by unfold putC; rw [if_pos hc19]
  refine c_seq (r_plain ?_)
  refine p1 (x_assign (by conv => lhs; whnf)) ?_
  refine r_nil (t_n (c_ret (b_r (t_r ?_))))
  refine end1 rfl (by conv => lhs; whnf) ?_
  first
    | exact absurd hpf2 hc83
    | (rw [hp]; exact ⟨rfl, (hCX0.start.ext hX).done, ModS.ofExt hX⟩)
    | (rw [hpm, hput, if_pos hc103]; exact ⟨rfl, hCU.mono (fun j hj h => h.elim (fun a => a.imp id fun b => ⟨b, hj⟩) (fun ⟨a, _⟩ => .inr ⟨by omega, hj⟩)), hX⟩)
    | (rw [hpm, hput, if_neg hc103, hOl]; exact ⟨rfl, hCX.done, hX⟩)
 ·try simp only [dA, dB, dC, dD, dE, dF, dG, Int.not_lt, Int.not_le] at hc19
  refine c_seq ?_
  have hWr5 := Ext.refl w1
  refine c_cut (ι := Unit) [24, 25, 26, 27, 28, 29, 30, 31] (fun _ => [(24, .bool (decide (524288 < ix.length ∨ ∃ x ∈ xss, 1048576 < x.length)))]) (fun _ w' => Ext w1 w') ?_ ?_
  ·skip
   refine r_plain ?_
   refine p1 (x_move (by conv => lhs; whnf)) ?_
   refine p1 (x_len_slice u23 rfl) ?_
   refine p1 (x_gtr rfl rfl) ?_
   refine p1b (x_move (by conv => lhs; whnf)) (fun hb5_3 => ?_) (fun hb5_3 => ?_)
   ·try simp only [dA, dB, dC, dD, dE, dF, dG, Int.not_lt, Int.not_le] at hb5_3
    refine g0 28 rfl (by first | exact .inl rfl | exact .inr rfl) ?_
    refine g0 28 rfl (by first | exact .inl rfl | exact .inr rfl) ?_
    refine p1 (x_pick_t rfl (by conv => lhs; whnf)) ?_
    refine p1 (x_assign (by conv => lhs; whnf)) ?_
    refine r_nil ?_
    refine t_n (At.mk () (by repeat (first | exact Agr.refl _ _ | exact Agr.hav _ _ _ | refine Agr.upd rfl ?_ | refine Agr.updR rfl ?_ | refine Agr.updL ?_ _ rfl | refine Agr.hav' rfl ?_)) ⟨congrArg Value.bool (by have hixl := hix.len; first | exact (decide_eq_true (.inl (by omega))).symm | exact decide_eq_decide.2 ⟨.inr, fun h => h.resolve_left (by omega)⟩ | exact (decide_eq_false (by omega)).symm), trivial⟩ hWr5)
   ·try simp only [dA, dB, dC, dD, dE, dF, dG, Int.not_lt, Int.not_le] at hb5_3
    refine g1 28 rfl rfl (x_move (by conv => lhs; whnf)) ?_
    refine g_drop 28 rfl rfl ?_
    refine o_call Tryz.func52 fn52 fb52 (contains_func xss B _ _ _ _ (hl.ext hX)) rfl ?_
    rintro v3 w3 ⟨rfl, hE3⟩
    have hX := hX.ext hE3
    have hb := hb.ext hE3
    have hB3 := hB3.ext hE3
    have hWr5 := hWr5.ext hE3
    refine p1 (x_pick_f rfl (by conv => lhs; whnf)) ?_
    refine p1 (x_assign (by conv => lhs; whnf)) ?_
    refine r_nil ?_
    refine t_n (At.mk () (by repeat (first | exact Agr.refl _ _ | exact Agr.hav _ _ _ | refine Agr.upd rfl ?_ | refine Agr.updR rfl ?_ | refine Agr.updL ?_ _ rfl | refine Agr.hav' rfl ?_)) ⟨congrArg Value.bool (by have hixl := hix.len; first | exact (decide_eq_true (.inl (by omega))).symm | exact decide_eq_decide.2 ⟨.inr, fun h => h.resolve_left (by omega)⟩ | exact (decide_eq_false (by omega)).symm), trivial⟩ hWr5)
  ·rintro _ Gr5 w2 hE2
   have hX := hX.ext hE2
   have hb := hb.ext hE2
   have hB3 := hB3.ext hE2
   refine t_n ?_
   first | refine c_dec rfl (fun hc24 => ?_) (fun hc24 => ?_) | refine c_if rfl (fun hc24 => ?_) (fun hc24 => ?_)
   ·try simp only [dA, dB, dC, dD, dE, dF, dG, Int.not_lt, Int.not_le] at hc24
    have hp : putC C xss ix = (C, 5) := by unfold putC; rw [if_neg (by rw [hc19]; simp), if_pos hc24]
    refine c_seq (r_plain ?_)
    refine p1 (x_assign (by conv => lhs; whnf)) ?_
    refine r_nil (t_n (c_ret (b_r (t_r ?_))))
    refine end1 rfl (by conv => lhs; whnf) ?_
    first
      | exact absurd hpf2 hc83
      | (rw [hp]; exact ⟨rfl, (hCX0.start.ext hX).done, ModS.ofExt hX⟩)
      | (rw [hpm, hput, if_pos hc103]; exact ⟨rfl, hCU.mono (fun j hj h => h.elim (fun a => a.imp id fun b => ⟨b, hj⟩) (fun ⟨a, _⟩ => .inr ⟨by omega, hj⟩)), hX⟩)
      | (rw [hpm, hput, if_neg hc103, hOl]; exact ⟨rfl, hCX.done, hX⟩)
   ·try simp only [dA, dB, dC, dD, dE, dF, dG, Int.not_lt, Int.not_le] at hc24
    have hpm := putC_main (C := C) (cs := xss) (ix := ix) (by rw [hc19]; simp) hc24
    have hle : ∀ x ∈ xss, x.length ≤ 1048576 := fun x hx => Nat.le_of_not_lt fun h => hc24 (.inr ⟨x, hx, h⟩)
    have hixl := hix.len
    have hix5 : ix.length ≤ 524288 := Nat.le_of_not_lt fun h => hc24 (.inl h)
    have hlen := hl.len
    have hcap := hl.cap
    have hfit := hl.fit
    refine c_skip (b_n (t_n (c_seq (r_plain ?_))))
    have hXs := hX.size
    refine o_makeMap0 (κ := Hash) (ν := R3) ?_
    intro w4 g32 hE4 hK32
    have hX := hX.ext hE4
    have hb := hb.ext hE4
    have hB3 := hB3.ext hE4
    have hMf := hK32 kkHash vCh 0 w.heap.size (hXs)
    have hgl0 := hMf.low
    refine p1 (x_assign (by conv => lhs; whnf)) ?_
    refine r_nil (t_n (c_seq (r_plain ?_)))
    refine p1 (x_assign (by conv => lhs; whnf)) ?_
    refine r_nil (t_n (c_seq (c_seq (r_plain ?_))))
    refine p1 (x_move (by conv => lhs; whnf)) ?_
    refine p1 (x_len_slice u22 rfl) ?_
    refine p1 (x_move (by conv => lhs; whnf)) ?_
    refine r_nil (t_n (c_block ?_))
    refine c_loop (ι := Nat × Option Addr × Nat × Nat) [8, 10, 11, 12, 35, 36, 37, 38, 39, 40, 41, 42, 43, 44, 45, 46, 47, 48, 49, 50, 51, 52, 53, 54, 55, 56, 57, 58, 59, 60, 61, 62, 63, 64] (fun (k, ql, ml, cl) => [(8, .slice ql ml cl), (35, .int .i64 (k : Int))]) (fun (k, ql, ml, cl) w' => Ext w w' ∧ (k ≤ n ∧ (∃ μf, Mp kkHash vCh 0 w.heap.size w' g32 μf ∧ Chs Sd w' μf (freshL C.L (xss.take k))) ∧ Own (kOb w.heap.size) 23 0 w.heap.size w' ql ml cl (freshL C.L (xss.take k)) ∧ Blk w' g3 #[.pointer (some ⟨g, 0, none⟩)] 30)) (fun (k, ql, ml, cl) => n - k) ((0, none, 0, 0)) ⟨rfl, rfl, trivial⟩ ⟨hX, Nat.zero_le _, ⟨_, hMf, by rw [List.take_zero]; exact Chs.none_ Sd _⟩, by rw [List.take_zero]; exact Own.nil _ _ _ _ _, hB3⟩ ?_
    rintro ⟨k, ql, ml, cl⟩ GL1 w5 ⟨hE5, hk, ⟨μf, hMf, hCf⟩, hLo, hB3⟩
    have hX := hE5
    have hCX := hCX0.ext hX
    have hM := hCX.m
    have hC := hCX.c
    have hb := hCX.b
    have hg := hg0.ext hX
    have hmll := hLo.len
    have hml := freshL_len (xss.take k) C.L
    rw [List.length_take] at hml
    refine c_seq (r_plain ?_)
    refine p1 (x_lss rfl rfl) ?_
    refine r_nil (t_n (c_seq ?_))
    first | refine c_dec rfl (fun hc36 => ?_) (fun hc36 => ?_) | refine c_if rfl (fun hc36 => ?_) (fun hc36 => ?_)
    ·try simp only [dA, dB, dC, dD, dE, dF, dG, Int.not_lt, Int.not_le] at hc36
     refine c_skip (t_n (c_seq (c_block (c_seq ?_))))
     obtain ⟨qk, mk, ck, hck, hrow0⟩ := hl.slAt k (by omega)
     have hlek := hle _ (mem_of_getD (z := []) (xs := xss) (i := k) (by omega) rfl)
     have hrl0 := hrow0.len
     refine r_plain ?_
     refine p1 (x_ixs0 (i := k) u22 sz23 rfl rfl ((hl.ext hX).adr kSl_pos (by omega)) (by omega)) ?_
     refine p1 (x_load1 un23 rfl (hX.cell hck)) ?_
     refine p1 (x_assign (by conv => lhs; whnf)) ?_
     refine r_nil (t_n (c_seq (r_plain ?_)))
     refine p1 (x_move (by conv => lhs; whnf)) ?_
     have hXs := hX.size
     refine o_call Tryz.func34 fn34 fb34 (sha_Sum (xss.getD k []) _ _ _ _ _ (hrow0.ext hX) (by omega) (by omega) hg.r hg.b (by have := hg.size; omega)) rfl ?_
     rintro v6 w6 ⟨rfl, hE6⟩
     have hX := hX.ext hE6
     have hCX := hCX.ext hE6
     have hM := hM.ext hE6
     have hC := hC.ext hE6
     have hb := hb.ext hE6
     have hg := hg.ext hE6
     have hMf := hMf.ext hE6
     have hCf := hCf.ext hE6
     have hLo := hLo.ext hE6
     have hB3 := hB3.ext hE6
     have hz11 := hX.size
     have hl11_3 := hB3.lt
     refine o_alloc zr64 ?_
     intro w7 g11 hN11
     have hE7 := hN11.ext
     have hX := hX.ext hE7
     have hCX := hCX.ext hE7
     have hM := hM.ext hE7
     have hC := hC.ext hE7
     have hb := hb.ext hE7
     have hg := hg.ext hE7
     have hMf := hMf.ext hE7
     have hCf := hCf.ext hE7
     have hLo := hLo.ext hE7
     have hB3 := hB3.ext hE7
     have hB11 := hN11.blk
     have hq11 := hN11.g_eq
     refine o_storeAll rfl rfl (kHash_one _) (hv_sz sz64 _) hB11 (hv_size _) ?_
     intro w8 hP8
     have hX := hX.put hP8 (by omega)
     have hCX := hCX0.ext hX
     have hM := (hCX0.ext hX).m
     have hC := (hCX0.ext hX).c
     have hb := (hCX0.ext hX).b
     have hg := hg.put hP8 (by omega)
     have hMf := hMf.mod (hP8.mod 0 (Nat.zero_le _)) (Nat.zero_le _) (by decide)
     have hCf := hCf.mod (hP8.mod 0 (Nat.zero_le _)) (Nat.zero_le _) (by decide)
     have hLo := hLo.mod (hP8.mod 0 (Nat.zero_le _)) (Nat.zero_le _) (by simp [kOb])
     have hB3 := hP8.keep hB3 (by omega)
     have hB11 := hP8.blk
     refine r_nil (t_n (c_seq ?_))
     refine r_still mixed (by kernel_rfl) ?_
     intro w9 hE9
     have hX := hX.ext hE9
     have hCX := hCX.ext hE9
     have hM := hM.ext hE9
     have hC := hC.ext hE9
     have hb := hb.ext hE9
     have hg := hg.ext hE9
     have hMf := hMf.ext hE9
     have hCf := hCf.ext hE9
     have hLo := hLo.ext hE9
     have hB3 := hB3.ext hE9
     have hB11 := hB11.ext hE9
     refine s1 (x_load1 un30 rfl (hB3.cell (rfl))) ?_
     refine s1 (x_nilCheck rfl) ?_
     refine s1 (x_fieldAddr fo91_4 sz88 rfl) ?_
     refine s1 (x_load1 un88 rfl (hb.cell (rfl))) ?_
     refine s1 (x_loadB ua64 rfl hB11 (hv_sz sz64 _)) ?_
     obtain ⟨⟨p0, n0, c0⟩, hr0⟩ : ∃ x : R3, x = (μ (shaF (xss.getD k []))).getD r30 := ⟨_, rfl⟩
     obtain ⟨hC0a, hC0b⟩ := hC.get (shaF (xss.getD k []))
     rw [← hr0] at hC0a hC0b
     simp only at hC0a hC0b
     refine s1 (((lookC u88 zr23 (keyOk_hash u64 u5 sz5) hM (shaF (xss.getD k [])) rfl rfl)).cast (by rw [← hr0]; rfl : r3V _ = Value.slice p0 n0 c0)) ?_
     refine s1 (x_eql_slnil u23 rfl rfl) ?_
     refine s1b (x_move (by conv => lhs; whnf)) (fun hb13_7 => ?_) (fun hb13_7 => ?_)
     ·try simp only [dA, dB, dC, dD, dE, dF, dG, Int.not_lt, Int.not_le] at hb13_7
      refine sg1 48 rfl rfl (x_move (by conv => lhs; whnf)) ?_
      refine sg1 48 rfl rfl (x_loadB ua64 rfl hB11 (hv_sz sz64 _)) ?_
      obtain ⟨⟨p9, n9, c9⟩, hr9⟩ : ∃ x : R3, x = (μf (shaF (xss.getD k []))).getD r30 := ⟨_, rfl⟩
      obtain ⟨hC9a, hC9b⟩ := hCf.get (shaF (xss.getD k []))
      rw [← hr9] at hC9a hC9b
      simp only at hC9a hC9b
      refine sg1 48 rfl rfl (((lookC u88 zr23 (keyOk_hash u64 u5 sz5) (hMf.lower (Nat.zero_le _)) (shaF (xss.getD k [])) rfl rfl)).cast (by rw [← hr9]; rfl : r3V _ = Value.slice p9 n9 c9)) ?_
      refine sg1 48 rfl rfl (x_eql_slnil u23 rfl rfl) ?_
      refine s1 (x_pick_t rfl (by conv => lhs; whnf)) ?_
      refine s_nil (t_n ?_)
      first | refine c_dec rfl (fun hc53 => ?_) (fun hc53 => ?_) | refine c_if rfl (fun hc53 => ?_) (fun hc53 => ?_)
      ·try simp only [dA, dB, dC, dD, dE, dF, dG, Int.not_lt, Int.not_le] at hc53
       have hfn : freshL C.L (xss.take (k + 1)) = freshL C.L (xss.take k) ++ [xss.getD k []] := by
         rw [take_snoc (by omega), freshL_snoc, if_pos]
         rw [findF_append, Option.or_eq_none_iff]
         exact ⟨hC0a.1 (by simpa using hb13_7), hC9a.1 hc53⟩
       refine c_seq (r_plain ?_)
       have hXz := hX.size
       refine o_buildSlice u23 inf5 rfl (by decide) (fun base hb => by have h0 : base = #[] := Array.eq_empty_of_size_eq_zero (by simpa using hb); subst h0; rfl) ?_
       intro wJ g54 hN54
       have hE54 := hN54.ext
       have hJ : Own kByte 5 0 w9.heap.size wJ (some ⟨g54, 0, none⟩) 0 0 [] := own_lit (B0 := w9.heap.size) ([] : List UInt8) hN54 (Nat.le_refl _) (by simp)
       refine p1 (x_move (by conv => lhs; whnf)) ?_
       have hrl := (hrow0.ext hX).len
       refine o_append1 (d := kByte) (xss.getD k []) u23 inf5 rfl kByte_pos rfl rfl hJ (src_pure u23 ((hrow0.ext hX).ext hE54) (by decide)) hrl (byte_all _ _ _) rfl (by omega) (by omega) hE54.size (Nat.zero_le _) (by decide) ?_
       intro p56 c56 w10 hA hM10 hp56 hon56
       rw [List.nil_append] at hA
       have hA := hA.lower hXz
       have hE10 : Ext w9 w10 := hE54.mod hM10 (Nat.le_refl _)
       have hpn : p56 ≠ none := by rcases hp56 with h | ⟨g, h, _⟩ <;> rw [h] <;> simp
       have hX := hX.ext hE10
       have hCX := hCX.ext hE10
       have hM := hM.ext hE10
       have hC := hC.ext hE10
       have hb := hb.ext hE10
       have hg := hg.ext hE10
       have hMf := hMf.ext hE10
       have hCf := hCf.ext hE10
       have hLo := hLo.ext hE10
       have hB3 := hB3.ext hE10
       have hB11 := hB11.ext hE10
       refine p1 (x_assign (by conv => lhs; whnf)) ?_
       refine r_nil (t_n (c_seq (r_plain ?_)))
       refine p1 (x_move (by conv => lhs; whnf)) ?_
       refine p1 (x_loadB ua64 rfl hB11 (hv_sz sz64 _)) ?_
       refine p1 (x_move (by conv => lhs; whnf)) ?_
       refine o_update (a := (shaF (xss.getD k []))) (b := (p56, 0 + mk, c56)) u88 (keyOk_hash u64 u5 sz5) rfl rfl rfl hMf rfl (Nat.zero_le _) (by decide) ?_
       intro w11 hMf hM11
       have hX := hX.mod hM11 (Nat.le_refl _)
       have hCX := hCX0.ext hX
       have hM := hCX.m
       have hC := hCX.c
       have hb := hCX.b
       have hg := hg0.ext hX
       have hCf := hCf.mod hM11 (Nat.zero_le _) (by decide)
       have hLo := hLo.mod hM11 (Nat.zero_le _) (by show tMap ∉ [23, 5]; decide)
       have hB3 := hB3.mod hM11 (by decide)
       have hA := hA.mod hM11 (Nat.zero_le _) (by decide)
       have hFA := FB.ofOwn (S := nS Sd) hA (fun j _ hj hs => by have := hSd j hs; omega)
       have hCf := hCf.put (hC9a.1 hc53) (p56, 0 + mk, c56) hpn hFA
       refine r_nil (t_n (r_plain ?_))
       refine p1 (x_move (by conv => lhs; whnf)) ?_
       refine p1 (x_move (by conv => lhs; whnf)) ?_
       refine o_buildSlice u22 inf23 rfl (by decide) (fun base hb => fill_one (by rfl) base hb) ?_
       intro w12 g62 hN62
       have hE12 := hN62.ext
       have hX := hX.ext hE12
       have hCX := hCX.ext hE12
       have hM := hM.ext hE12
       have hC := hC.ext hE12
       have hb := hb.ext hE12
       have hg := hg.ext hE12
       have hMf := hMf.ext hE12
       have hCf := hCf.ext hE12
       have hLo := hLo.ext hE12
       have hB3 := hB3.ext hE12
       have hA := hA.ext hE12
       have hJ := ob_made hN62 hA
       obtain ⟨cssJ, hAJ, hsrJ⟩ := src_kind u22 hJ kOb_pos
       have hB1 := hX.size
       refine o_append (d := (kOb _)) ([(xss.getD k [])]) u22 inf23 rfl kOb_pos rfl rfl hLo (hsrJ) rfl (hAJ) (rfl) (by omega) (by omega) (by omega) (by omega) (by simp [kOb]) ?_
       intro p63 c63 w13 hLo hM13
       have hX := hX.mod hM13 (Nat.le_refl _)
       have hCX := hCX0.ext hX
       have hM := (hCX0.ext hX).m
       have hC := (hCX0.ext hX).c
       have hb := (hCX0.ext hX).b
       have hg := hg0.ext hX
       have hMf := hMf.mod hM13 (Nat.zero_le _) (by decide)
       have hCf := hCf.mod hM13 (Nat.zero_le _) (by decide)
       have hB3 := hB3.mod hM13 (by decide)
       have hA := hA.mod hM13 (Nat.zero_le _) (by decide)
       refine p1 (x_assign (by conv => lhs; whnf)) ?_
       refine r_nil (b_n (t_n (r_plain ?_)))
       refine p1 (x_add rfl rfl (fits_i64 (by omega) (by omega))) ?_
       refine p1 (x_move (by conv => lhs; whnf)) ?_
       refine r_nil ?_
       first
         | exact t_n (At.mk ((k + 1, p63, ml + 1, c63)) (by repeat (first | exact Agr.refl _ _ | exact Agr.hav _ _ _ | refine Agr.upd rfl ?_ | refine Agr.updR rfl ?_ | refine Agr.updL ?_ _ rfl | refine Agr.hav' rfl ?_)) ⟨rfl, rfl, trivial⟩ ⟨⟨hX, by omega, ⟨_, hMf, by rw [hfn]; exact hCf⟩, by rw [hfn]; exact hLo, hB3⟩, by first | (dsimp only; omega) | ((show _ < _); omega)⟩)
         | exact t_n (At.mk ((k + 1, ql, ml, cl)) (by repeat (first | exact Agr.refl _ _ | exact Agr.hav _ _ _ | refine Agr.upd rfl ?_ | refine Agr.updR rfl ?_ | refine Agr.updL ?_ _ rfl | refine Agr.hav' rfl ?_)) ⟨rfl, rfl, trivial⟩ ⟨⟨hX, by omega, ⟨_, hMf, by rw [hfn]; exact hCf⟩, by rw [hfn]; exact hLo, hB3⟩, by first | (dsimp only; omega) | ((show _ < _); omega)⟩)
      ·try simp only [dA, dB, dC, dD, dE, dF, dG, Int.not_lt, Int.not_le] at hc53
       have hfn : freshL C.L (xss.take (k + 1)) = freshL C.L (xss.take k) := by
         rw [take_snoc (by omega), freshL_snoc, if_neg]
         rw [findF_append, Option.or_eq_none_iff]
         rintro ⟨h1, h2⟩
         first | exact hc53 (hC9a.2 h2) | (have h3 := hC0a.2 h1; simp_all)
       refine c_skip (b_n (t_n (r_plain ?_)))
       refine p1 (x_add rfl rfl (fits_i64 (by omega) (by omega))) ?_
       refine p1 (x_move (by conv => lhs; whnf)) ?_
       refine r_nil ?_
       first
         | exact t_n (At.mk ((k + 1, p63, ml + 1, c63)) (by repeat (first | exact Agr.refl _ _ | exact Agr.hav _ _ _ | refine Agr.upd rfl ?_ | refine Agr.updR rfl ?_ | refine Agr.updL ?_ _ rfl | refine Agr.hav' rfl ?_)) ⟨rfl, rfl, trivial⟩ ⟨⟨hX, by omega, ⟨_, hMf, by rw [hfn]; exact hCf⟩, by rw [hfn]; exact hLo, hB3⟩, by first | (dsimp only; omega) | ((show _ < _); omega)⟩)
         | exact t_n (At.mk ((k + 1, ql, ml, cl)) (by repeat (first | exact Agr.refl _ _ | exact Agr.hav _ _ _ | refine Agr.upd rfl ?_ | refine Agr.updR rfl ?_ | refine Agr.updL ?_ _ rfl | refine Agr.hav' rfl ?_)) ⟨rfl, rfl, trivial⟩ ⟨⟨hX, by omega, ⟨_, hMf, by rw [hfn]; exact hCf⟩, by rw [hfn]; exact hLo, hB3⟩, by first | (dsimp only; omega) | ((show _ < _); omega)⟩)
     ·try simp only [dA, dB, dC, dD, dE, dF, dG, Int.not_lt, Int.not_le] at hb13_7
      refine sg0 48 rfl (by first | exact .inl rfl | exact .inr rfl) ?_
      refine sg0 48 rfl (by first | exact .inl rfl | exact .inr rfl) ?_
      obtain ⟨⟨p9, n9, c9⟩, hr9⟩ : ∃ x : R3, x = (μf (shaF (xss.getD k []))).getD r30 := ⟨_, rfl⟩
      obtain ⟨hC9a, hC9b⟩ := hCf.get (shaF (xss.getD k []))
      rw [← hr9] at hC9a hC9b
      simp only at hC9a hC9b
      refine sg0 48 rfl (by first | exact .inl rfl | exact .inr rfl) ?_
      refine sg0 48 rfl (by first | exact .inl rfl | exact .inr rfl) ?_
      refine s1 (x_pick_f rfl (by conv => lhs; whnf)) ?_
      refine s_nil (t_n ?_)
      refine c_f rfl ?_
      have hfn : freshL C.L (xss.take (k + 1)) = freshL C.L (xss.take k) := by
        rw [take_snoc (by omega), freshL_snoc, if_neg]
        rw [findF_append, Option.or_eq_none_iff]
        rintro ⟨h1, h2⟩
        first | exact hc53 (hC9a.2 h2) | (have h3 := hC0a.2 h1; simp_all)
      refine c_skip (b_n (t_n (r_plain ?_)))
      refine p1 (x_add rfl rfl (fits_i64 (by omega) (by omega))) ?_
      refine p1 (x_move (by conv => lhs; whnf)) ?_
      refine r_nil ?_
      first
        | exact t_n (At.mk ((k + 1, p63, ml + 1, c63)) (by repeat (first | exact Agr.refl _ _ | exact Agr.hav _ _ _ | refine Agr.upd rfl ?_ | refine Agr.updR rfl ?_ | refine Agr.updL ?_ _ rfl | refine Agr.hav' rfl ?_)) ⟨rfl, rfl, trivial⟩ ⟨⟨hX, by omega, ⟨_, hMf, by rw [hfn]; exact hCf⟩, by rw [hfn]; exact hLo, hB3⟩, by first | (dsimp only; omega) | ((show _ < _); omega)⟩)
        | exact t_n (At.mk ((k + 1, ql, ml, cl)) (by repeat (first | exact Agr.refl _ _ | exact Agr.hav _ _ _ | refine Agr.upd rfl ?_ | refine Agr.updR rfl ?_ | refine Agr.updL ?_ _ rfl | refine Agr.hav' rfl ?_)) ⟨rfl, rfl, trivial⟩ ⟨⟨hX, by omega, ⟨_, hMf, by rw [hfn]; exact hCf⟩, by rw [hfn]; exact hLo, hB3⟩, by first | (dsimp only; omega) | ((show _ < _); omega)⟩)
    ·try simp only [dA, dB, dC, dD, dE, dF, dG, Int.not_lt, Int.not_le] at hc36
     have hkk : xss.take k = xss := List.take_of_length_le (by omega)
     rw [hkk] at hCf hLo
     have hfc : ∀ x ∈ freshL C.L xss, x.length ≤ 1048576 := fun x hx => hle x (freshL_new xss C.L x hx).2
     have hpf := putF_seg hfc
     have hpf2 : (putF (freshL C.L xss)).2 = 0 := by rw [hpf]
     have hsl := segB_len hfc
     have hfl := freshL_len xss C.L
     have hgl1 := hMf.lt
     have hng : ¬ Sd g32 := fun h => by have := hSd g32 h; omega
     refine c_exit (t_e (t_e (b_hit (t_n (c_seq ?_)))))
     have hXq := hX.size
     refine r_plain ?_
     refine p1 (x_move (by conv => lhs; whnf)) ?_
     refine o_call Tryz.func54 fn54 fb54 (segment_Put (freshL C.L xss) _ _ _ _ _ hLo.sl.obSl (by show (segB (freshL C.L xss)).length ≤ _; have : (freshL C.L xss).length * 1048591 ≤ 100000 * 1048591 := Nat.mul_le_mul (by omega) (Nat.le_refl _); omega) hg.l.q) rfl ?_
     rintro v14 w14 ⟨⟨qb, mb, cb, rfl, hO⟩, hE14⟩
     have hX := hX.ext hE14
     have hCX := hCX.ext hE14
     have hM := hM.ext hE14
     have hC := hC.ext hE14
     have hb := hb.ext hE14
     have hg := hg.ext hE14
     have hMf := hMf.ext hE14
     have hCf := hCf.ext hE14
     have hLo := hLo.ext hE14
     have hB3 := hB3.ext hE14
     rw [hpf] at hO
     have hO := hO.lower hXq
     have hOl : (segB (freshL C.L xss)).length = mb := hO.len
     have hmlx := hLo.len
     refine p1 (x_move (by conv => lhs; whnf)) ?_
     refine p1 (x_extract rfl rfl) ?_
     refine p1 (x_extract rfl rfl) ?_
     have hz13 := hX.size
     have hl13_3 := hB3.lt
     refine o_alloc zr23 ?_
     intro w15 g13 hN13
     have hE15 := hN13.ext
     have hX := hX.ext hE15
     have hCX := hCX.ext hE15
     have hM := hM.ext hE15
     have hC := hC.ext hE15
     have hb := hb.ext hE15
     have hg := hg.ext hE15
     have hMf := hMf.ext hE15
     have hCf := hCf.ext hE15
     have hLo := hLo.ext hE15
     have hB3 := hB3.ext hE15
     have hO := hO.ext hE15
     have hB13 := hN13.blk
     have hq13 := hN13.g_eq
     refine o_store1 rfl (by conv => lhs; whnf) rfl rfl sz23 hB13 (by first | exact Nat.zero_lt_one | simp) ?_
     intro w16 hP16
     have hX := hX.put hP16 (by omega)
     have hCX := hCX0.ext hX
     have hM := (hCX0.ext hX).m
     have hC := (hCX0.ext hX).c
     have hb := (hCX0.ext hX).b
     have hg := hg.put hP16 (by omega)
     have hMf := hMf.mod (hP16.mod 0 (Nat.zero_le _)) (Nat.zero_le _) (by decide)
     have hCf := hCf.mod (hP16.mod 0 (Nat.zero_le _)) (Nat.zero_le _) (by decide)
     have hB3 := hP16.keep hB3 (by omega)
     have hO := hO.mod (hP16.mod 0 (Nat.zero_le _)) (Nat.zero_le _) (by decide)
     have hB13 := hP16.blk
     try simp only [List.setIfInBounds_toArray, List.set_cons_zero, List.set_cons_succ] at hB13
     refine p1 (x_assign (by conv => lhs; whnf)) ?_
     refine r_nil (t_n (c_seq (r_plain ?_)))
     refine p1 (x_load1 un30 rfl (hB3.cell (rfl))) ?_
     refine p1 (x_nilCheck rfl) ?_
     refine p1 (x_fieldAddr fo91_1 sz3 rfl) ?_
     refine p1 (x_load1 un3 rfl (hb.cell (rfl))) ?_
     refine o_call Tryz.func49 fn49 fb49 (segment_Name (C.seg : Int) _ hg.l) rfl ?_
     rintro v17 w17 ⟨rfl, hE17⟩
     have hX := hX.ext hE17
     have hCX := hCX.ext hE17
     have hM := hM.ext hE17
     have hC := hC.ext hE17
     have hb := hb.ext hE17
     have hg := hg.ext hE17
     have hMf := hMf.ext hE17
     have hCf := hCf.ext hE17
     have hB3 := hB3.ext hE17
     have hO := hO.ext hE17
     have hB13 := hB13.ext hE17
     have hz15 := hX.size
     have hl15_3 := hB3.lt
     have hl15_13 := hB13.lt
     refine o_alloc zr9 ?_
     intro w18 g15 hN15
     have hE18 := hN15.ext
     have hX := hX.ext hE18
     have hCX := hCX.ext hE18
     have hM := hM.ext hE18
     have hC := hC.ext hE18
     have hb := hb.ext hE18
     have hg := hg.ext hE18
     have hMf := hMf.ext hE18
     have hCf := hCf.ext hE18
     have hB3 := hB3.ext hE18
     have hO := hO.ext hE18
     have hB13 := hB13.ext hE18
     have hB15 := hN15.blk
     have hq15 := hN15.g_eq
     refine o_store1 rfl (by conv => lhs; whnf) rfl rfl sz9 hB15 (by first | exact Nat.zero_lt_one | simp) ?_
     intro w19 hP19
     have hX := hX.put hP19 (by omega)
     have hCX := hCX0.ext hX
     have hM := (hCX0.ext hX).m
     have hC := (hCX0.ext hX).c
     have hb := (hCX0.ext hX).b
     have hg := hg.put hP19 (by omega)
     have hMf := hMf.mod (hP19.mod 0 (Nat.zero_le _)) (Nat.zero_le _) (by decide)
     have hCf := hCf.mod (hP19.mod 0 (Nat.zero_le _)) (Nat.zero_le _) (by decide)
     have hB3 := hP19.keep hB3 (by omega)
     have hO := hO.mod (hP19.mod 0 (Nat.zero_le _)) (Nat.zero_le _) (by decide)
     have hB13 := hP19.keep hB13 (by omega)
     have hB15 := hP19.blk
     try simp only [List.setIfInBounds_toArray, List.set_cons_zero, List.set_cons_succ] at hB15
     refine r_nil (t_n (c_seq (c_seq (r_plain ?_))))
     refine p1 (x_move (by conv => lhs; whnf)) ?_
     refine p1 (x_len_slice u22 rfl) ?_
     refine p1 (x_gtr rfl rfl) ?_
     refine r_nil (t_n ?_)
     first | refine c_dec rfl (fun hc77 => ?_) (fun hc77 => ?_) | refine c_if rfl (fun hc77 => ?_) (fun hc77 => ?_)
     ·try simp only [dA, dB, dC, dD, dE, dF, dG, Int.not_lt, Int.not_le] at hc77
      have hlne : freshL C.L xss ≠ [] := fun e => by rw [e] at hmlx; simp at hmlx; omega
      have hr1 := put1_cons (C := C) hlne
      refine r_plain ?_
      refine p1 (x_makeFunc (fs := []) (cs := [.pointer (some ⟨g3, 0, none⟩), .pointer (some ⟨g15, 0, none⟩), .pointer (some ⟨g13, 0, none⟩)]) rfl rfl) ?_
      refine p1 (x_makeFunc (fs := []) (cs := [.pointer (some ⟨g3, 0, none⟩), .pointer (some ⟨g15, 0, none⟩)]) rfl rfl) ?_
      refine o_buildSlice u149 inf95 rfl (by decide) (fun base hb => fill_kn [fcv (55, [.pointer (some ⟨g3, 0, none⟩), .pointer (some ⟨g15, 0, none⟩), .pointer (some ⟨g13, 0, none⟩)]), fcv (56, [.pointer (some ⟨g3, 0, none⟩), .pointer (some ⟨g15, 0, none⟩)])] (by intro v hv'; simp only [List.mem_cons, List.not_mem_nil, or_false] at hv'; rcases hv' with rfl | rfl <;> rfl) base hb) ?_
      intro w20 g80 hN80
      have hE20 := hN80.ext
      have hX := hX.ext hE20
      have hCX := hCX.ext hE20
      have hM := hM.ext hE20
      have hC := hC.ext hE20
      have hb := hb.ext hE20
      have hg := hg.ext hE20
      have hMf := hMf.ext hE20
      have hCf := hCf.ext hE20
      have hB3 := hB3.ext hE20
      have hO := hO.ext hE20
      have hB13 := hB13.ext hE20
      have hB15 := hB15.ext hE20
      have hS80 : Sl kFn 95 0 w20 (some ⟨g80, 0, none⟩) 2 2 [(55, [.pointer (some ⟨g3, 0, none⟩), .pointer (some ⟨g15, 0, none⟩), .pointer (some ⟨g13, 0, none⟩)]), (56, [.pointer (some ⟨g3, 0, none⟩), .pointer (some ⟨g15, 0, none⟩)])] := (own_lit (B0 := 0) ([(55, [.pointer (some ⟨g3, 0, none⟩), .pointer (some ⟨g15, 0, none⟩), .pointer (some ⟨g13, 0, none⟩)]), (56, [.pointer (some ⟨g3, 0, none⟩), .pointer (some ⟨g15, 0, none⟩)])] : List Clo) hN80 (Nat.zero_le _) (by simp)).sl
      have hD := hCX.d
      have hOu := out_own (S := Sd) hO hSd
      have hXs := hX.size
      refine o_call Tryz.func45 fn45 fb45 (all_disk [(55, [.pointer (some ⟨g3, 0, none⟩), .pointer (some ⟨g15, 0, none⟩), .pointer (some ⟨g13, 0, none⟩)]), (56, [.pointer (some ⟨g3, 0, none⟩), .pointer (some ⟨g15, 0, none⟩)])] [fun D => appendD D (nSeg C.seg) (segB (freshL C.L xss)), fun D => syncD D (nSeg C.seg)] (fun i => k_ + i) gd Sd C.D _ _ _ _ hD (hGd) hS80 rfl (fun i hi => ?_)) rfl ?_
      · rcases i with _ | _ | i
        · exact ⟨Tryz.f55, Tryz.func55, fn55, fb55, fun Di w1 hDi m hgi => (put_2 gd _ Di w1 hDi hgi.ok (Nat.lt_of_le_of_lt hgi.steps (by show _ + _ < _; omega)) hgi.left hgi.names g3 g15 g _ (nSeg C.seg) (nSeg_size _) (hB3.modS m (.inr (by decide))) (hb.modS m (.inr (by decide))) rfl (hB15.modS m (.inr (by decide))) g13 _ _ _ _ _ _ (hB13.modS m (.inr (by decide))) (hOu.modS m).sl).dg (hgi.append _ _)⟩
        · exact ⟨Tryz.f56, Tryz.func56, fn56, fb56, fun Di w1 hDi m hgi => (put_3 gd _ Di w1 hDi hgi.ok (Nat.lt_of_le_of_lt hgi.steps (by show _ + _ < _; omega)) hgi.left hgi.names g3 g15 g _ (nSeg C.seg) (nSeg_size _) (hB3.modS m (.inr (by decide))) (hb.modS m (.inr (by decide))) rfl (hB15.modS m (.inr (by decide)))).dg (hgi.sync _)⟩
        · exact absurd hi (by omega)
      rintro v21 w21 ⟨rfl, hD2, hM2⟩
      have hXe := hX
      have hgl := hMf.lt
      have hX := (ModS.ofExt (S := S) (E := EC) hXe).stepE hM2 (sub_old hCX0.start)
      have hCX := (hCX0.start.ext hXe).stepD hXs hM2 hD2
      have hb : Blk _ g (stoV gd C pi ni ci r nx) tSto := hCX.b
      have hg := hg.modS hM2 (fun j hj => hS j (hCX0.sub j hj))
      have hB3 := hB3.modS hM2 (.inr (by decide))
      have hB13 := hB13.modS hM2 (.inr (by decide))
      have hMf := (hMf.lower (Nat.zero_le _)).turn hM2 hng rfl
      have hCf := hCf.turn hM2
      have hng : ¬ grow Sd w20 w21 g32 := fun h => hng (grow_old h hgl)
      have hgl := hMf.lt
      have hGd : Good (runD [fun D => appendD D (nSeg C.seg) (segB (freshL C.L xss)), fun D => syncD D (nSeg C.seg)] C.D).1 (k_ + 2) := (hGd.append _ _).andD (fun D h => (h.sync _).andD (fun D h => h) (Nat.le_refl _)) (by omega)
      refine p1 (x_assign (by conv => lhs; whnf)) ?_
      refine r_nil (t_n (c_seq (c_seq (r_plain ?_))))
      refine p1 (x_move (by conv => lhs; whnf)) ?_
      refine p1 (x_eql rfl rfl) ?_
      refine r_nil (t_n ?_)
      first | refine c_dec rfl (fun hc83 => ?_) (fun hc83 => ?_) | refine c_if rfl (fun hc83 => ?_) (fun hc83 => ?_)
      ·try simp only [dA, dB, dC, dD, dE, dF, dG, Int.not_lt, Int.not_le] at hc83
       have hpr := andD_ok (f := fun D => writeM D ⟨C.seg, C.size + (segB (freshL C.L xss)).length, ix⟩) (r := put1 C (freshL C.L xss)) (by rw [hr1]; try first | rfl | (simp only; omega) | omega)
       have hput : putR C (freshL C.L xss) ix = writeM (put1 C (freshL C.L xss)).1 ⟨C.seg, C.size + mb, ix⟩ := by rw [← hOl]; exact hpr
       rw [hr1] at hput
       refine r_tail 17 mixed (by kernel_rfl) ?_
       intro w22 hE22
       have hX := hX.ext hE22
       have hCX := hCX.ext hE22
       have hb := hb.ext hE22
       have hg := hg.ext hE22
       have hB3 := hB3.ext hE22
       have hB13 := hB13.ext hE22
       have hMf := hMf.ext hE22
       have hCf := hCf.ext hE22
       refine s1 (x_load1 un30 rfl (hB3.cell (rfl))) ?_
       refine s1 (x_nilCheck rfl) ?_
       refine s1 (x_fieldAddr fo91_0 sz34 rfl) ?_
       refine s1 (x_load1 un34 rfl (hb.cell (rfl))) ?_
       refine s1 (x_load1 un30 rfl (hB3.cell (rfl))) ?_
       refine s1 (x_nilCheck rfl) ?_
       refine s1 (x_fieldAddr fo91_1 sz3 rfl) ?_
       refine s1 (x_load1 un3 rfl (hb.cell (rfl))) ?_
       refine s1 (x_load1 un30 rfl (hB3.cell (rfl))) ?_
       refine s1 (x_nilCheck rfl) ?_
       refine s1 (x_fieldAddr fo91_2 sz3 rfl) ?_
       refine s1 (x_load1 un3 rfl (hb.cell (rfl))) ?_
       refine s1 (x_load1 un23 rfl (hB13.cell (rfl))) ?_
       refine s1 (x_len_slice u23 rfl) ?_
       refine s1 ((x_add rfl rfl (fits_i64 (by omega) (by omega))).cast (congrArg (Value.int .i64) (by omega : _ = ((C.size + mb : Nat) : Int)))) ?_
       refine s1 (x_move (by conv => lhs; whnf)) ?_
       refine s1 (x_build3 pl99 rfl rfl rfl rfl rfl rfl) ?_
       refine s_nil ?_
       have hXs := hX.size
       have hgl := hMf.lt
       have hix2 := (hix.modS hX).sl5
       refine o_call Tryz.func51 fn51 fb51 (chunks_write gd _ _ _ hCX.d hGd.ok (Nat.lt_of_le_of_lt hGd.steps (by omega)) hGd.left hGd.names C.seg (C.size + mb) ix 0 _ _ _ _ hix2 hg.l.q) rfl ?_
       rintro v23 w23 ⟨rfl, hD2, hM2⟩
       have hmz := hM2.size
       have hMf := (hMf.lower (Nat.zero_le _)).turn hM2 hng rfl
       have hng : ¬ grow _ w22 w23 g32 := fun h => hng (grow_old h hgl)
       have hgl := hMf.lt
       have hX := hX.stepE hM2 (sub_old hCX)
       have hCf := hCf.turn hM2
       have hg := hg.modS hM2 (fun j hj => (hCX.sub j hj).elim (hS j) fun q => Nat.le_trans hgs q)
       have hCX := hCX.stepD hXs hM2 hD2
       have hb : Blk w23 g (stoV gd C pi ni ci r nx) tSto := hCX.b
       have hGd := hGd.writeM ⟨C.seg, C.size + mb, ix⟩
       have hB3 := hB3.modS hM2 (.inr (by decide))
       have hB13 := hB13.modS hM2 (.inr (by decide))
       refine p1 (x_assign (by conv => lhs; whnf)) ?_
       refine r_nil (t_n (c_seq (c_seq (r_plain ?_))))
       refine p1 (x_move (by conv => lhs; whnf)) ?_
       refine p1 (x_neq rfl rfl) ?_
       refine r_nil (t_n ?_)
       first | refine c_dec rfl (fun hc103 => ?_) (fun hc103 => ?_) | refine c_if rfl (fun hc103 => ?_) (fun hc103 => ?_)
       ·try simp only [dA, dB, dC, dD, dE, dF, dG, Int.not_lt, Int.not_le] at hc103
        refine c_seq (r_plain ?_)
        refine p1 (x_load1 un30 rfl (hB3.cell (rfl))) ?_
        refine p1 (x_move (by conv => lhs; whnf)) ?_
        have hXs := hX.size
        refine o_call Tryz.func57 fn57 fb57 (store_undo g gd r (opn S w) _ μ pi nx ni ci _ (k_ + 6) _ hCX ⟨hGd.mono (by omega), hn.hi, hn.sz, hn.ix, hn.nx, hn.ln, hn.cl⟩ (fun j hj => hj.elim (hS j) (fun q => Nat.le_trans hgs q)) hg (by omega) _ false) rfl ?_
        rintro v24 w24 ⟨rfl, hCU, hMU⟩
        have hX := hX.trans hMU (fun j hj h => h.resolve_right (by omega))
        refine p1 (x_assign (by conv => lhs; whnf)) ?_
        refine r_nil (t_n (c_ret (t_r ?_)))
        refine end1 rfl (by conv => lhs; whnf) ?_
        first
          | exact absurd hpf2 hc83
          | (rw [hp]; exact ⟨rfl, (hCX0.start.ext hX).done, ModS.ofExt hX⟩)
          | (rw [hpm, hput, if_pos hc103]; exact ⟨rfl, hCU.mono (fun j hj h => h.elim (fun a => a.imp id fun b => ⟨b, hj⟩) (fun ⟨a, _⟩ => .inr ⟨by omega, hj⟩)), hX⟩)
          | (rw [hpm, hput, if_neg hc103, hOl]; exact ⟨rfl, hCX.done, hX⟩)
       ·try simp only [dA, dB, dC, dD, dE, dF, dG, Int.not_lt, Int.not_le] at hc103
        refine c_skip (t_n (c_seq ?_))
        refine r_tail 9 mixed (by kernel_rfl) ?_
        intro w25 hE25
        have hX := hX.ext hE25
        have hCX := hCX.ext hE25
        have hb := hb.ext hE25
        have hg := hg.ext hE25
        have hB3 := hB3.ext hE25
        have hB13 := hB13.ext hE25
        have hMf := hMf.ext hE25
        have hCf := hCf.ext hE25
        refine s1 (x_load1 un30 rfl (hB3.cell (rfl))) ?_
        refine s1 (x_nilCheck rfl) ?_
        refine s1 (x_fieldAddr fo91_2 sz3 rfl) ?_
        refine s1 (x_load1 un3 rfl (hb.cell (rfl))) ?_
        refine s1 (x_load1 un23 rfl (hB13.cell (rfl))) ?_
        refine s1 (x_len_slice u23 rfl) ?_
        refine s1 ((x_add rfl rfl (fits_i64 (by omega) (by omega))).cast (congrArg (Value.int .i64) (by omega : _ = ((C.size + mb : Nat) : Int)))) ?_
        refine s1 (x_nilCheck rfl) ?_
        refine s1 (x_fieldAddr fo91_2 sz3 rfl) ?_
        refine s_nil ?_
        refine o_store1 rfl (by conv => lhs; whnf) rfl rfl sz3 hb (by show _ < 7; omega) ?_
        intro w26 hP26
        have hX := hX.put hP26 (⟨.inl hsg, by decide⟩)
        have hb := hP26.blk
        try simp only [List.setIfInBounds_toArray, List.set_cons_zero, List.set_cons_succ] at hb
        have hg := hg.put hP26 (by omega)
        have hB3 := hP26.keep hB3 (by omega)
        have hB13 := hP26.keep hB13 (by omega)
        have hMf := hMf.mod (hP26.mod 0 (Nat.zero_le _)) (Nat.zero_le _) (by decide)
        have hCf := hCf.mod (hP26.mod 0 (Nat.zero_le _)) (Nat.zero_le _) (by decide)
        have hCX := hCX.setSize (z := C.size + mb) hP26
        have hb := hCX.b
        refine r_nil (t_n (c_seq ?_))
        refine r_held (fun _ w2 => Blk w2 g3 #[.pointer (some ⟨g, 0, none⟩)] 30) mixed ?_
        intro w27 hE27
        have hX := hX.ext hE27
        have hb := hb.ext hE27
        have hg := hg.ext hE27
        have hB3 := hB3.ext hE27
        have hB13 := hB13.ext hE27
        have hMf := hMf.ext hE27
        have hCf := hCf.ext hE27
        have hCX := hCX.ext hE27
        have hSr27 : (fun _ w2 => Blk w2 g3 #[.pointer (some ⟨g, 0, none⟩)] 30) w27 w27 := hB3
        refine h_take 0 rfl (by kernel_rfl) (by kernel_rfl) (by kernel_rfl) hSr27 (fun wS hSS => by (have hB3 := hSS; exact (x_load1 un30 rfl (hB3.cell (rfl))))) ?_
        refine h_take 1 rfl (by kernel_rfl) (by kernel_rfl) (by kernel_rfl) hSr27 (fun wS hSS => by ( exact (x_move (by conv => lhs; whnf)))) ?_
        refine h_one 2 _ rfl (by kernel_rfl) (hop_of_list (fun Q2 hQ2 => ?_))
        have hCX := hCX.mono (fun _ _ h => h)
        have hCf := hCf.narrowD
        refine o_call Tryz.func58 fn58 fb58 (slices_Clone_byte ix _ _ _ _ _ _ (hix.modS hX).sl (by omega)) rfl ?_
        rintro v28 w28 ⟨⟨q8, c8, rfl, hI8⟩, hE28⟩
        have hX := hX.ext hE28
        have hb := hb.ext hE28
        have hg := hg.ext hE28
        have hB3 := hB3.ext hE28
        have hB13 := hB13.ext hE28
        have hMf := hMf.ext hE28
        have hCf := hCf.ext hE28
        have hCX := hCX.ext hE28
        have hSr27 := hSr27.ext hE28
        have hF8 := hCX.newRow hI8
        refine hop_end hQ2 ⟨hSr27, ?_⟩
        refine h_take 3 rfl (by kernel_rfl) (by kernel_rfl) (by kernel_rfl) hSr27 (fun wS hSS => by ( exact (x_nilCheck rfl))) ?_
        refine h_take 4 rfl (by kernel_rfl) (by kernel_rfl) (by kernel_rfl) hSr27 (fun wS hSS => by ( exact (x_fieldAddr fo91_3 sz23 rfl))) ?_
        refine h_one 5 _ rfl (by kernel_rfl) (hop_of_list (fun Q5 hQ5 => ?_))
        refine o_store1 rfl (by conv => lhs; whnf) rfl rfl sz23 hb (by show _ < 7; omega) ?_
        intro w29 hP29
        have hX := hX.put hP29 (⟨.inl hsg, by decide⟩)
        have hb := hP29.blk
        try simp only [List.setIfInBounds_toArray, List.set_cons_zero, List.set_cons_succ] at hb
        have hg := hg.put hP29 (by omega)
        have hB3 := hP29.keep hB3 (by omega)
        have hB13 := hP29.keep hB13 (by omega)
        have hMf := hMf.mod (hP29.mod 0 (Nat.zero_le _)) (Nat.zero_le _) (by decide)
        have hCf := hCf.mod (hP29.mod 0 (Nat.zero_le _)) (Nat.zero_le _) (by decide)
        have hSr27 := hP29.keep hSr27 (by omega)
        have hF8 := hF8.one hP29.one (by decide)
        have hCX := hCX.setIndex hP29 hF8
        have hb := hCX.b
        refine hop_end hQ5 ⟨hSr27, ?_⟩
        refine h_done (by kernel_rfl) ?_
        refine t_n (c_seq (r_plain ?_))
        refine p1 (x_load1 un30 rfl (hB3.cell (rfl))) ?_
        refine p1 (x_nilCheck rfl) ?_
        refine p1 (x_fieldAddr fo91_4 sz88 rfl) ?_
        refine p1 (x_load1 un88 rfl (hb.cell (rfl))) ?_
        refine p1 (x_move (by conv => lhs; whnf)) ?_
        refine o_call Tryz.func59 fn59 fb59 (maps_Copy r g32 (freshL C.L xss).length μ μf _ hCX.m (hMf.lower (Nat.zero_le _)) (by omega) (keys_len hCf)) rfl ?_
        rintro v30 w30 ⟨hMn, hMT⟩
        have hX := hX.trans (hMT.wideT (E' := EC) (by decide)) (fun j hj h => by rw [show j = r from h]; exact hCX0.sr)
        have hCX := hCX.copied hMT hMn ((hCX.c.mapT hMT).both (hCf.mapT hMT) (fun x hx => (freshL_new xss C.L x hx).1))
        refine r_nil (t_n (c_seq (r_plain ?_)))
        refine p1 (x_assign (by conv => lhs; whnf)) ?_
        refine r_nil (t_n (c_ret ?_))
        refine end1 rfl (by conv => lhs; whnf) ?_
        first
          | exact absurd hpf2 hc83
          | (rw [hp]; exact ⟨rfl, (hCX0.start.ext hX).done, ModS.ofExt hX⟩)
          | (rw [hpm, hput, if_pos hc103]; exact ⟨rfl, hCU.mono (fun j hj h => h.elim (fun a => a.imp id fun b => ⟨b, hj⟩) (fun ⟨a, _⟩ => .inr ⟨by omega, hj⟩)), hX⟩)
          | (rw [hpm, hput, if_neg hc103, hOl]; exact ⟨rfl, hCX.done, hX⟩)
      ·try simp only [dA, dB, dC, dD, dE, dF, dG, Int.not_lt, Int.not_le] at hc83
       have hput : putR C (freshL C.L xss) ix = put1 C (freshL C.L xss) := andD_no (by rw [hr1]; first | (intro h; exact hc83 h) | exact absurd hpf2 hc83)
       rw [hr1] at hput
       refine c_skip (t_n (c_seq (c_seq (r_plain ?_))))
       refine p1 (x_move (by conv => lhs; whnf)) ?_
       refine p1 (x_neq rfl rfl) ?_
       refine r_nil (t_n ?_)
       first | refine c_dec rfl (fun hc103 => ?_) (fun hc103 => ?_) | refine c_if rfl (fun hc103 => ?_) (fun hc103 => ?_)
       ·try simp only [dA, dB, dC, dD, dE, dF, dG, Int.not_lt, Int.not_le] at hc103
        refine c_seq (r_plain ?_)
        refine p1 (x_load1 un30 rfl (hB3.cell (rfl))) ?_
        refine p1 (x_move (by conv => lhs; whnf)) ?_
        have hXs := hX.size
        refine o_call Tryz.func57 fn57 fb57 (store_undo g gd r (opn S w) _ μ pi nx ni ci _ (k_ + 6) _ hCX ⟨hGd.mono (by omega), hn.hi, hn.sz, hn.ix, hn.nx, hn.ln, hn.cl⟩ (fun j hj => hj.elim (hS j) (fun q => Nat.le_trans hgs q)) hg (by omega) _ false) rfl ?_
        rintro v31 w31 ⟨rfl, hCU, hMU⟩
        have hX := hX.trans hMU (fun j hj h => h.resolve_right (by omega))
        refine p1 (x_assign (by conv => lhs; whnf)) ?_
        refine r_nil (t_n (c_ret (t_r ?_)))
        refine end1 rfl (by conv => lhs; whnf) ?_
        first
          | exact absurd hpf2 hc83
          | (rw [hp]; exact ⟨rfl, (hCX0.start.ext hX).done, ModS.ofExt hX⟩)
          | (rw [hpm, hput, if_pos hc103]; exact ⟨rfl, hCU.mono (fun j hj h => h.elim (fun a => a.imp id fun b => ⟨b, hj⟩) (fun ⟨a, _⟩ => .inr ⟨by omega, hj⟩)), hX⟩)
          | (rw [hpm, hput, if_neg hc103, hOl]; exact ⟨rfl, hCX.done, hX⟩)
       ·try simp only [dA, dB, dC, dD, dE, dF, dG, Int.not_lt, Int.not_le] at hc103
        refine c_skip (t_n (c_seq ?_))
        refine r_tail 9 mixed (by kernel_rfl) ?_
        intro w32 hE32
        have hX := hX.ext hE32
        have hCX := hCX.ext hE32
        have hb := hb.ext hE32
        have hg := hg.ext hE32
        have hB3 := hB3.ext hE32
        have hB13 := hB13.ext hE32
        have hMf := hMf.ext hE32
        have hCf := hCf.ext hE32
        refine s1 (x_load1 un30 rfl (hB3.cell (rfl))) ?_
        refine s1 (x_nilCheck rfl) ?_
        refine s1 (x_fieldAddr fo91_2 sz3 rfl) ?_
        refine s1 (x_load1 un3 rfl (hb.cell (rfl))) ?_
        refine s1 (x_load1 un23 rfl (hB13.cell (rfl))) ?_
        refine s1 (x_len_slice u23 rfl) ?_
        refine s1 ((x_add rfl rfl (fits_i64 (by omega) (by omega))).cast (congrArg (Value.int .i64) (by omega : _ = ((C.size + mb : Nat) : Int)))) ?_
        refine s1 (x_nilCheck rfl) ?_
        refine s1 (x_fieldAddr fo91_2 sz3 rfl) ?_
        refine s_nil ?_
        refine o_store1 rfl (by conv => lhs; whnf) rfl rfl sz3 hb (by show _ < 7; omega) ?_
        intro w33 hP33
        have hX := hX.put hP33 (⟨.inl hsg, by decide⟩)
        have hb := hP33.blk
        try simp only [List.setIfInBounds_toArray, List.set_cons_zero, List.set_cons_succ] at hb
        have hg := hg.put hP33 (by omega)
        have hB3 := hP33.keep hB3 (by omega)
        have hB13 := hP33.keep hB13 (by omega)
        have hMf := hMf.mod (hP33.mod 0 (Nat.zero_le _)) (Nat.zero_le _) (by decide)
        have hCf := hCf.mod (hP33.mod 0 (Nat.zero_le _)) (Nat.zero_le _) (by decide)
        have hCX := hCX.setSize (z := C.size + mb) hP33
        have hb := hCX.b
        refine r_nil (t_n (c_seq ?_))
        refine r_held (fun _ w2 => Blk w2 g3 #[.pointer (some ⟨g, 0, none⟩)] 30) mixed ?_
        intro w34 hE34
        have hX := hX.ext hE34
        have hb := hb.ext hE34
        have hg := hg.ext hE34
        have hB3 := hB3.ext hE34
        have hB13 := hB13.ext hE34
        have hMf := hMf.ext hE34
        have hCf := hCf.ext hE34
        have hCX := hCX.ext hE34
        have hSr27 : (fun _ w2 => Blk w2 g3 #[.pointer (some ⟨g, 0, none⟩)] 30) w34 w34 := hB3
        refine h_take 0 rfl (by kernel_rfl) (by kernel_rfl) (by kernel_rfl) hSr27 (fun wS hSS => by (have hB3 := hSS; exact (x_load1 un30 rfl (hB3.cell (rfl))))) ?_
        refine h_take 1 rfl (by kernel_rfl) (by kernel_rfl) (by kernel_rfl) hSr27 (fun wS hSS => by ( exact (x_move (by conv => lhs; whnf)))) ?_
        refine h_one 2 _ rfl (by kernel_rfl) (hop_of_list (fun Q2 hQ2 => ?_))
        have hCX := hCX.mono (fun _ _ h => h)
        have hCf := hCf.narrowD
        refine o_call Tryz.func58 fn58 fb58 (slices_Clone_byte ix _ _ _ _ _ _ (hix.modS hX).sl (by omega)) rfl ?_
        rintro v35 w35 ⟨⟨q8, c8, rfl, hI8⟩, hE35⟩
        have hX := hX.ext hE35
        have hb := hb.ext hE35
        have hg := hg.ext hE35
        have hB3 := hB3.ext hE35
        have hB13 := hB13.ext hE35
        have hMf := hMf.ext hE35
        have hCf := hCf.ext hE35
        have hCX := hCX.ext hE35
        have hSr27 := hSr27.ext hE35
        have hF8 := hCX.newRow hI8
        refine hop_end hQ2 ⟨hSr27, ?_⟩
        refine h_take 3 rfl (by kernel_rfl) (by kernel_rfl) (by kernel_rfl) hSr27 (fun wS hSS => by ( exact (x_nilCheck rfl))) ?_
        refine h_take 4 rfl (by kernel_rfl) (by kernel_rfl) (by kernel_rfl) hSr27 (fun wS hSS => by ( exact (x_fieldAddr fo91_3 sz23 rfl))) ?_
        refine h_one 5 _ rfl (by kernel_rfl) (hop_of_list (fun Q5 hQ5 => ?_))
        refine o_store1 rfl (by conv => lhs; whnf) rfl rfl sz23 hb (by show _ < 7; omega) ?_
        intro w36 hP36
        have hX := hX.put hP36 (⟨.inl hsg, by decide⟩)
        have hb := hP36.blk
        try simp only [List.setIfInBounds_toArray, List.set_cons_zero, List.set_cons_succ] at hb
        have hg := hg.put hP36 (by omega)
        have hB3 := hP36.keep hB3 (by omega)
        have hB13 := hP36.keep hB13 (by omega)
        have hMf := hMf.mod (hP36.mod 0 (Nat.zero_le _)) (Nat.zero_le _) (by decide)
        have hCf := hCf.mod (hP36.mod 0 (Nat.zero_le _)) (Nat.zero_le _) (by decide)
        have hSr27 := hP36.keep hSr27 (by omega)
        have hF8 := hF8.one hP36.one (by decide)
        have hCX := hCX.setIndex hP36 hF8
        have hb := hCX.b
        refine hop_end hQ5 ⟨hSr27, ?_⟩
        refine h_done (by kernel_rfl) ?_
        refine t_n (c_seq (r_plain ?_))
        refine p1 (x_load1 un30 rfl (hB3.cell (rfl))) ?_
        refine p1 (x_nilCheck rfl) ?_
        refine p1 (x_fieldAddr fo91_4 sz88 rfl) ?_
        refine p1 (x_load1 un88 rfl (hb.cell (rfl))) ?_
        refine p1 (x_move (by conv => lhs; whnf)) ?_
        refine o_call Tryz.func59 fn59 fb59 (maps_Copy r g32 (freshL C.L xss).length μ μf _ hCX.m (hMf.lower (Nat.zero_le _)) (by omega) (keys_len hCf)) rfl ?_
        rintro v37 w37 ⟨hMn, hMT⟩
        have hX := hX.trans (hMT.wideT (E' := EC) (by decide)) (fun j hj h => by rw [show j = r from h]; exact hCX0.sr)
        have hCX := hCX.copied hMT hMn ((hCX.c.mapT hMT).both (hCf.mapT hMT) (fun x hx => (freshL_new xss C.L x hx).1))
        refine r_nil (t_n (c_seq (r_plain ?_)))
        refine p1 (x_assign (by conv => lhs; whnf)) ?_
        refine r_nil (t_n (c_ret ?_))
        refine end1 rfl (by conv => lhs; whnf) ?_
        first
          | exact absurd hpf2 hc83
          | (rw [hp]; exact ⟨rfl, (hCX0.start.ext hX).done, ModS.ofExt hX⟩)
          | (rw [hpm, hput, if_pos hc103]; exact ⟨rfl, hCU.mono (fun j hj h => h.elim (fun a => a.imp id fun b => ⟨b, hj⟩) (fun ⟨a, _⟩ => .inr ⟨by omega, hj⟩)), hX⟩)
          | (rw [hpm, hput, if_neg hc103, hOl]; exact ⟨rfl, hCX.done, hX⟩)
     ·try simp only [dA, dB, dC, dD, dE, dF, dG, Int.not_lt, Int.not_le] at hc77
      have hlnil : freshL C.L xss = [] := List.length_eq_zero_iff.1 (by omega)
      have hr1 := put1_nil (C := C) hlnil
      have hXe := hX
      have hCX := hCX0.start.ext hXe
      have hX := ModS.ofExt (S := S) (E := EC) hXe
      have hgl := hMf.lt
      have hGd := hGd.mono (by omega : k_ ≤ k_ + 2)
      refine c_skip (t_n (c_seq (c_seq (r_plain ?_))))
      refine p1 (x_move (by conv => lhs; whnf)) ?_
      refine p1 (x_eql rfl rfl) ?_
      refine r_nil (t_n ?_)
      first | refine c_dec rfl (fun hc83 => ?_) (fun hc83 => ?_) | refine c_if rfl (fun hc83 => ?_) (fun hc83 => ?_)
      ·try simp only [dA, dB, dC, dD, dE, dF, dG, Int.not_lt, Int.not_le] at hc83
       have hpr := andD_ok (f := fun D => writeM D ⟨C.seg, C.size + (segB (freshL C.L xss)).length, ix⟩) (r := put1 C (freshL C.L xss)) (by rw [hr1]; try first | rfl | (simp only; omega) | omega)
       have hput : putR C (freshL C.L xss) ix = writeM (put1 C (freshL C.L xss)).1 ⟨C.seg, C.size + mb, ix⟩ := by rw [← hOl]; exact hpr
       rw [hr1] at hput
       refine r_tail 17 mixed (by kernel_rfl) ?_
       intro w38 hE38
       have hX := hX.ext hE38
       have hCX := hCX.ext hE38
       have hM := hM.ext hE38
       have hC := hC.ext hE38
       have hb := hb.ext hE38
       have hg := hg.ext hE38
       have hMf := hMf.ext hE38
       have hCf := hCf.ext hE38
       have hB3 := hB3.ext hE38
       have hO := hO.ext hE38
       have hB13 := hB13.ext hE38
       have hB15 := hB15.ext hE38
       refine s1 (x_load1 un30 rfl (hB3.cell (rfl))) ?_
       refine s1 (x_nilCheck rfl) ?_
       refine s1 (x_fieldAddr fo91_0 sz34 rfl) ?_
       refine s1 (x_load1 un34 rfl (hb.cell (rfl))) ?_
       refine s1 (x_load1 un30 rfl (hB3.cell (rfl))) ?_
       refine s1 (x_nilCheck rfl) ?_
       refine s1 (x_fieldAddr fo91_1 sz3 rfl) ?_
       refine s1 (x_load1 un3 rfl (hb.cell (rfl))) ?_
       refine s1 (x_load1 un30 rfl (hB3.cell (rfl))) ?_
       refine s1 (x_nilCheck rfl) ?_
       refine s1 (x_fieldAddr fo91_2 sz3 rfl) ?_
       refine s1 (x_load1 un3 rfl (hb.cell (rfl))) ?_
       refine s1 (x_load1 un23 rfl (hB13.cell (rfl))) ?_
       refine s1 (x_len_slice u23 rfl) ?_
       refine s1 ((x_add rfl rfl (fits_i64 (by omega) (by omega))).cast (congrArg (Value.int .i64) (by omega : _ = ((C.size + mb : Nat) : Int)))) ?_
       refine s1 (x_move (by conv => lhs; whnf)) ?_
       refine s1 (x_build3 pl99 rfl rfl rfl rfl rfl rfl) ?_
       refine s_nil ?_
       have hXs := hX.size
       have hgl := hMf.lt
       have hix2 := (hix.modS hX).sl5
       refine o_call Tryz.func51 fn51 fb51 (chunks_write gd _ _ _ hCX.d hGd.ok (Nat.lt_of_le_of_lt hGd.steps (by omega)) hGd.left hGd.names C.seg (C.size + mb) ix 0 _ _ _ _ hix2 hg.l.q) rfl ?_
       rintro v39 w39 ⟨rfl, hD2, hM2⟩
       have hmz := hM2.size
       have hMf := (hMf.lower (Nat.zero_le _)).turn hM2 hng rfl
       have hng : ¬ grow _ w38 w39 g32 := fun h => hng (grow_old h hgl)
       have hgl := hMf.lt
       have hX := hX.stepE hM2 (sub_old hCX)
       have hCf := hCf.turn hM2
       have hg := hg.modS hM2 (fun j hj => (hCX.sub j hj).elim (hS j) fun q => Nat.le_trans hgs q)
       have hCX := hCX.stepD hXs hM2 hD2
       have hb : Blk w39 g (stoV gd C pi ni ci r nx) tSto := hCX.b
       have hGd := hGd.writeM ⟨C.seg, C.size + mb, ix⟩
       have hB3 := hB3.modS hM2 (.inr (by decide))
       have hB13 := hB13.modS hM2 (.inr (by decide))
       refine p1 (x_assign (by conv => lhs; whnf)) ?_
       refine r_nil (t_n (c_seq (c_seq (r_plain ?_))))
       refine p1 (x_move (by conv => lhs; whnf)) ?_
       refine p1 (x_neq rfl rfl) ?_
       refine r_nil (t_n ?_)
       first | refine c_dec rfl (fun hc103 => ?_) (fun hc103 => ?_) | refine c_if rfl (fun hc103 => ?_) (fun hc103 => ?_)
       ·try simp only [dA, dB, dC, dD, dE, dF, dG, Int.not_lt, Int.not_le] at hc103
        refine c_seq (r_plain ?_)
        refine p1 (x_load1 un30 rfl (hB3.cell (rfl))) ?_
        refine p1 (x_move (by conv => lhs; whnf)) ?_
        have hXs := hX.size
        refine o_call Tryz.func57 fn57 fb57 (store_undo g gd r (opn S w) _ μ pi nx ni ci _ (k_ + 6) _ hCX ⟨hGd.mono (by omega), hn.hi, hn.sz, hn.ix, hn.nx, hn.ln, hn.cl⟩ (fun j hj => hj.elim (hS j) (fun q => Nat.le_trans hgs q)) hg (by omega) _ false) rfl ?_
        rintro v40 w40 ⟨rfl, hCU, hMU⟩
        have hX := hX.trans hMU (fun j hj h => h.resolve_right (by omega))
        refine p1 (x_assign (by conv => lhs; whnf)) ?_
        refine r_nil (t_n (c_ret (t_r ?_)))
        refine end1 rfl (by conv => lhs; whnf) ?_
        first
          | exact absurd hpf2 hc83
          | (rw [hp]; exact ⟨rfl, (hCX0.start.ext hX).done, ModS.ofExt hX⟩)
          | (rw [hpm, hput, if_pos hc103]; exact ⟨rfl, hCU.mono (fun j hj h => h.elim (fun a => a.imp id fun b => ⟨b, hj⟩) (fun ⟨a, _⟩ => .inr ⟨by omega, hj⟩)), hX⟩)
          | (rw [hpm, hput, if_neg hc103, hOl]; exact ⟨rfl, hCX.done, hX⟩)
       ·try simp only [dA, dB, dC, dD, dE, dF, dG, Int.not_lt, Int.not_le] at hc103
        refine c_skip (t_n (c_seq ?_))
        refine r_tail 9 mixed (by kernel_rfl) ?_
        intro w41 hE41
        have hX := hX.ext hE41
        have hCX := hCX.ext hE41
        have hb := hb.ext hE41
        have hg := hg.ext hE41
        have hB3 := hB3.ext hE41
        have hB13 := hB13.ext hE41
        have hMf := hMf.ext hE41
        have hCf := hCf.ext hE41
        refine s1 (x_load1 un30 rfl (hB3.cell (rfl))) ?_
        refine s1 (x_nilCheck rfl) ?_
        refine s1 (x_fieldAddr fo91_2 sz3 rfl) ?_
        refine s1 (x_load1 un3 rfl (hb.cell (rfl))) ?_
        refine s1 (x_load1 un23 rfl (hB13.cell (rfl))) ?_
        refine s1 (x_len_slice u23 rfl) ?_
        refine s1 ((x_add rfl rfl (fits_i64 (by omega) (by omega))).cast (congrArg (Value.int .i64) (by omega : _ = ((C.size + mb : Nat) : Int)))) ?_
        refine s1 (x_nilCheck rfl) ?_
        refine s1 (x_fieldAddr fo91_2 sz3 rfl) ?_
        refine s_nil ?_
        refine o_store1 rfl (by conv => lhs; whnf) rfl rfl sz3 hb (by show _ < 7; omega) ?_
        intro w42 hP42
        have hX := hX.put hP42 (⟨.inl hsg, by decide⟩)
        have hb := hP42.blk
        try simp only [List.setIfInBounds_toArray, List.set_cons_zero, List.set_cons_succ] at hb
        have hg := hg.put hP42 (by omega)
        have hB3 := hP42.keep hB3 (by omega)
        have hB13 := hP42.keep hB13 (by omega)
        have hMf := hMf.mod (hP42.mod 0 (Nat.zero_le _)) (Nat.zero_le _) (by decide)
        have hCf := hCf.mod (hP42.mod 0 (Nat.zero_le _)) (Nat.zero_le _) (by decide)
        have hCX := hCX.setSize (z := C.size + mb) hP42
        have hb := hCX.b
        refine r_nil (t_n (c_seq ?_))
        refine r_held (fun _ w2 => Blk w2 g3 #[.pointer (some ⟨g, 0, none⟩)] 30) mixed ?_
        intro w43 hE43
        have hX := hX.ext hE43
        have hb := hb.ext hE43
        have hg := hg.ext hE43
        have hB3 := hB3.ext hE43
        have hB13 := hB13.ext hE43
        have hMf := hMf.ext hE43
        have hCf := hCf.ext hE43
        have hCX := hCX.ext hE43
        have hSr27 : (fun _ w2 => Blk w2 g3 #[.pointer (some ⟨g, 0, none⟩)] 30) w43 w43 := hB3
        refine h_take 0 rfl (by kernel_rfl) (by kernel_rfl) (by kernel_rfl) hSr27 (fun wS hSS => by (have hB3 := hSS; exact (x_load1 un30 rfl (hB3.cell (rfl))))) ?_
        refine h_take 1 rfl (by kernel_rfl) (by kernel_rfl) (by kernel_rfl) hSr27 (fun wS hSS => by ( exact (x_move (by conv => lhs; whnf)))) ?_
        refine h_one 2 _ rfl (by kernel_rfl) (hop_of_list (fun Q2 hQ2 => ?_))
        have hCX := hCX.mono (fun _ _ h => h)
        have hCf := hCf.narrowD
        refine o_call Tryz.func58 fn58 fb58 (slices_Clone_byte ix _ _ _ _ _ _ (hix.modS hX).sl (by omega)) rfl ?_
        rintro v44 w44 ⟨⟨q8, c8, rfl, hI8⟩, hE44⟩
        have hX := hX.ext hE44
        have hb := hb.ext hE44
        have hg := hg.ext hE44
        have hB3 := hB3.ext hE44
        have hB13 := hB13.ext hE44
        have hMf := hMf.ext hE44
        have hCf := hCf.ext hE44
        have hCX := hCX.ext hE44
        have hSr27 := hSr27.ext hE44
        have hF8 := hCX.newRow hI8
        refine hop_end hQ2 ⟨hSr27, ?_⟩
        refine h_take 3 rfl (by kernel_rfl) (by kernel_rfl) (by kernel_rfl) hSr27 (fun wS hSS => by ( exact (x_nilCheck rfl))) ?_
        refine h_take 4 rfl (by kernel_rfl) (by kernel_rfl) (by kernel_rfl) hSr27 (fun wS hSS => by ( exact (x_fieldAddr fo91_3 sz23 rfl))) ?_
        refine h_one 5 _ rfl (by kernel_rfl) (hop_of_list (fun Q5 hQ5 => ?_))
        refine o_store1 rfl (by conv => lhs; whnf) rfl rfl sz23 hb (by show _ < 7; omega) ?_
        intro w45 hP45
        have hX := hX.put hP45 (⟨.inl hsg, by decide⟩)
        have hb := hP45.blk
        try simp only [List.setIfInBounds_toArray, List.set_cons_zero, List.set_cons_succ] at hb
        have hg := hg.put hP45 (by omega)
        have hB3 := hP45.keep hB3 (by omega)
        have hB13 := hP45.keep hB13 (by omega)
        have hMf := hMf.mod (hP45.mod 0 (Nat.zero_le _)) (Nat.zero_le _) (by decide)
        have hCf := hCf.mod (hP45.mod 0 (Nat.zero_le _)) (Nat.zero_le _) (by decide)
        have hSr27 := hP45.keep hSr27 (by omega)
        have hF8 := hF8.one hP45.one (by decide)
        have hCX := hCX.setIndex hP45 hF8
        have hb := hCX.b
        refine hop_end hQ5 ⟨hSr27, ?_⟩
        refine h_done (by kernel_rfl) ?_
        refine t_n (c_seq (r_plain ?_))
        refine p1 (x_load1 un30 rfl (hB3.cell (rfl))) ?_
        refine p1 (x_nilCheck rfl) ?_
        refine p1 (x_fieldAddr fo91_4 sz88 rfl) ?_
        refine p1 (x_load1 un88 rfl (hb.cell (rfl))) ?_
        refine p1 (x_move (by conv => lhs; whnf)) ?_
        refine o_call Tryz.func59 fn59 fb59 (maps_Copy r g32 (freshL C.L xss).length μ μf _ hCX.m (hMf.lower (Nat.zero_le _)) (by omega) (keys_len hCf)) rfl ?_
        rintro v46 w46 ⟨hMn, hMT⟩
        have hX := hX.trans (hMT.wideT (E' := EC) (by decide)) (fun j hj h => by rw [show j = r from h]; exact hCX0.sr)
        have hCX := hCX.copied hMT hMn ((hCX.c.mapT hMT).both (hCf.mapT hMT) (fun x hx => (freshL_new xss C.L x hx).1))
        refine r_nil (t_n (c_seq (r_plain ?_)))
        refine p1 (x_assign (by conv => lhs; whnf)) ?_
        refine r_nil (t_n (c_ret ?_))
        refine end1 rfl (by conv => lhs; whnf) ?_
        first
          | exact absurd hpf2 hc83
          | (rw [hp]; exact ⟨rfl, (hCX0.start.ext hX).done, ModS.ofExt hX⟩)
          | (rw [hpm, hput, if_pos hc103]; exact ⟨rfl, hCU.mono (fun j hj h => h.elim (fun a => a.imp id fun b => ⟨b, hj⟩) (fun ⟨a, _⟩ => .inr ⟨by omega, hj⟩)), hX⟩)
          | (rw [hpm, hput, if_neg hc103, hOl]; exact ⟨rfl, hCX.done, hX⟩)
      ·try simp only [dA, dB, dC, dD, dE, dF, dG, Int.not_lt, Int.not_le] at hc83
       have hput : putR C (freshL C.L xss) ix = put1 C (freshL C.L xss) := andD_no (by rw [hr1]; first | (intro h; exact hc83 h) | exact absurd hpf2 hc83)
       rw [hr1] at hput
       refine c_skip (t_n (c_seq (c_seq (r_plain ?_))))
       refine p1 (x_move (by conv => lhs; whnf)) ?_
       refine p1 (x_neq rfl rfl) ?_
       refine r_nil (t_n ?_)
       first | refine c_dec rfl (fun hc103 => ?_) (fun hc103 => ?_) | refine c_if rfl (fun hc103 => ?_) (fun hc103 => ?_)
       ·try simp only [dA, dB, dC, dD, dE, dF, dG, Int.not_lt, Int.not_le] at hc103
        refine c_seq (r_plain ?_)
        refine p1 (x_load1 un30 rfl (hB3.cell (rfl))) ?_
        refine p1 (x_move (by conv => lhs; whnf)) ?_
        have hXs := hX.size
        refine o_call Tryz.func57 fn57 fb57 (store_undo g gd r (opn S w) _ μ pi nx ni ci _ (k_ + 6) _ hCX ⟨hGd.mono (by omega), hn.hi, hn.sz, hn.ix, hn.nx, hn.ln, hn.cl⟩ (fun j hj => hj.elim (hS j) (fun q => Nat.le_trans hgs q)) hg (by omega) _ false) rfl ?_
        rintro v47 w47 ⟨rfl, hCU, hMU⟩
        have hX := hX.trans hMU (fun j hj h => h.resolve_right (by omega))
        refine p1 (x_assign (by conv => lhs; whnf)) ?_
        refine r_nil (t_n (c_ret (t_r ?_)))
        refine end1 rfl (by conv => lhs; whnf) ?_
        first
          | exact absurd hpf2 hc83
          | (rw [hp]; exact ⟨rfl, (hCX0.start.ext hX).done, ModS.ofExt hX⟩)
          | (rw [hpm, hput, if_pos hc103]; exact ⟨rfl, hCU.mono (fun j hj h => h.elim (fun a => a.imp id fun b => ⟨b, hj⟩) (fun ⟨a, _⟩ => .inr ⟨by omega, hj⟩)), hX⟩)
          | (rw [hpm, hput, if_neg hc103, hOl]; exact ⟨rfl, hCX.done, hX⟩)
       ·try simp only [dA, dB, dC, dD, dE, dF, dG, Int.not_lt, Int.not_le] at hc103
        refine c_skip (t_n (c_seq ?_))
        refine r_tail 9 mixed (by kernel_rfl) ?_
        intro w48 hE48
        have hX := hX.ext hE48
        have hCX := hCX.ext hE48
        have hM := hM.ext hE48
        have hC := hC.ext hE48
        have hb := hb.ext hE48
        have hg := hg.ext hE48
        have hMf := hMf.ext hE48
        have hCf := hCf.ext hE48
        have hB3 := hB3.ext hE48
        have hO := hO.ext hE48
        have hB13 := hB13.ext hE48
        have hB15 := hB15.ext hE48
        refine s1 (x_load1 un30 rfl (hB3.cell (rfl))) ?_
        refine s1 (x_nilCheck rfl) ?_
        refine s1 (x_fieldAddr fo91_2 sz3 rfl) ?_
        refine s1 (x_load1 un3 rfl (hb.cell (rfl))) ?_
        refine s1 (x_load1 un23 rfl (hB13.cell (rfl))) ?_
        refine s1 (x_len_slice u23 rfl) ?_
        refine s1 ((x_add rfl rfl (fits_i64 (by omega) (by omega))).cast (congrArg (Value.int .i64) (by omega : _ = ((C.size + mb : Nat) : Int)))) ?_
        refine s1 (x_nilCheck rfl) ?_
        refine s1 (x_fieldAddr fo91_2 sz3 rfl) ?_
        refine s_nil ?_
        refine o_store1 rfl (by conv => lhs; whnf) rfl rfl sz3 hb (by show _ < 7; omega) ?_
        intro w49 hP49
        have hX := hX.put hP49 (⟨.inl hsg, by decide⟩)
        have hM := hM.mod (hP49.mod 0 (Nat.zero_le _)) (Nat.zero_le _) (by decide)
        have hC := hC.mod (hP49.mod 0 (Nat.zero_le _)) (Nat.zero_le _) (by decide)
        have hb := hP49.blk
        try simp only [List.setIfInBounds_toArray, List.set_cons_zero, List.set_cons_succ] at hb
        have hg := hg.put hP49 (by omega)
        have hMf := hMf.mod (hP49.mod 0 (Nat.zero_le _)) (Nat.zero_le _) (by decide)
        have hCf := hCf.mod (hP49.mod 0 (Nat.zero_le _)) (Nat.zero_le _) (by decide)
        have hB3 := hP49.keep hB3 (by omega)
        have hO := hO.mod (hP49.mod 0 (Nat.zero_le _)) (Nat.zero_le _) (by decide)
        have hB13 := hP49.keep hB13 (by omega)
        have hB15 := hP49.keep hB15 (by omega)
        have hCX := hCX.setSize (z := C.size + mb) hP49
        have hb := hCX.b
        refine r_nil (t_n (c_seq ?_))
        refine r_held (fun _ w2 => Blk w2 g3 #[.pointer (some ⟨g, 0, none⟩)] 30) mixed ?_
        intro w50 hE50
        have hX := hX.ext hE50
        have hM := hM.ext hE50
        have hC := hC.ext hE50
        have hb := hb.ext hE50
        have hg := hg.ext hE50
        have hMf := hMf.ext hE50
        have hCf := hCf.ext hE50
        have hB3 := hB3.ext hE50
        have hO := hO.ext hE50
        have hB13 := hB13.ext hE50
        have hB15 := hB15.ext hE50
        have hCX := hCX.ext hE50
        have hSr27 : (fun _ w2 => Blk w2 g3 #[.pointer (some ⟨g, 0, none⟩)] 30) w50 w50 := hB3
        refine h_take 0 rfl (by kernel_rfl) (by kernel_rfl) (by kernel_rfl) hSr27 (fun wS hSS => by (have hB3 := hSS; exact (x_load1 un30 rfl (hB3.cell (rfl))))) ?_
        refine h_take 1 rfl (by kernel_rfl) (by kernel_rfl) (by kernel_rfl) hSr27 (fun wS hSS => by ( exact (x_move (by conv => lhs; whnf)))) ?_
        refine h_one 2 _ rfl (by kernel_rfl) (hop_of_list (fun Q2 hQ2 => ?_))
        have hCX := hCX.mono (fun _ _ h => h)
        have hCf := hCf.narrowD
        refine o_call Tryz.func58 fn58 fb58 (slices_Clone_byte ix _ _ _ _ _ _ (hix.modS hX).sl (by omega)) rfl ?_
        rintro v51 w51 ⟨⟨q8, c8, rfl, hI8⟩, hE51⟩
        have hX := hX.ext hE51
        have hM := hM.ext hE51
        have hC := hC.ext hE51
        have hb := hb.ext hE51
        have hg := hg.ext hE51
        have hMf := hMf.ext hE51
        have hCf := hCf.ext hE51
        have hB3 := hB3.ext hE51
        have hO := hO.ext hE51
        have hB13 := hB13.ext hE51
        have hB15 := hB15.ext hE51
        have hCX := hCX.ext hE51
        have hSr27 := hSr27.ext hE51
        have hF8 := hCX.newRow hI8
        refine hop_end hQ2 ⟨hSr27, ?_⟩
        refine h_take 3 rfl (by kernel_rfl) (by kernel_rfl) (by kernel_rfl) hSr27 (fun wS hSS => by ( exact (x_nilCheck rfl))) ?_
        refine h_take 4 rfl (by kernel_rfl) (by kernel_rfl) (by kernel_rfl) hSr27 (fun wS hSS => by ( exact (x_fieldAddr fo91_3 sz23 rfl))) ?_
        refine h_one 5 _ rfl (by kernel_rfl) (hop_of_list (fun Q5 hQ5 => ?_))
        refine o_store1 rfl (by conv => lhs; whnf) rfl rfl sz23 hb (by show _ < 7; omega) ?_
        intro w52 hP52
        have hX := hX.put hP52 (⟨.inl hsg, by decide⟩)
        have hM := hM.mod (hP52.mod 0 (Nat.zero_le _)) (Nat.zero_le _) (by decide)
        have hC := hC.mod (hP52.mod 0 (Nat.zero_le _)) (Nat.zero_le _) (by decide)
        have hb := hP52.blk
        try simp only [List.setIfInBounds_toArray, List.set_cons_zero, List.set_cons_succ] at hb
        have hg := hg.put hP52 (by omega)
        have hMf := hMf.mod (hP52.mod 0 (Nat.zero_le _)) (Nat.zero_le _) (by decide)
        have hCf := hCf.mod (hP52.mod 0 (Nat.zero_le _)) (Nat.zero_le _) (by decide)
        have hB3 := hP52.keep hB3 (by omega)
        have hO := hO.mod (hP52.mod 0 (Nat.zero_le _)) (Nat.zero_le _) (by decide)
        have hB13 := hP52.keep hB13 (by omega)
        have hB15 := hP52.keep hB15 (by omega)
        have hSr27 := hP52.keep hSr27 (by omega)
        have hF8 := hF8.one hP52.one (by decide)
        have hCX := hCX.setIndex hP52 hF8
        have hb := hCX.b
        refine hop_end hQ5 ⟨hSr27, ?_⟩
        refine h_done (by kernel_rfl) ?_
        refine t_n (c_seq (r_plain ?_))
        refine p1 (x_load1 un30 rfl (hB3.cell (rfl))) ?_
        refine p1 (x_nilCheck rfl) ?_
        refine p1 (x_fieldAddr fo91_4 sz88 rfl) ?_
        refine p1 (x_load1 un88 rfl (hb.cell (rfl))) ?_
        refine p1 (x_move (by conv => lhs; whnf)) ?_
        refine o_call Tryz.func59 fn59 fb59 (maps_Copy r g32 (freshL C.L xss).length μ μf _ hCX.m (hMf.lower (Nat.zero_le _)) (by omega) (keys_len hCf)) rfl ?_
        rintro v53 w53 ⟨hMn, hMT⟩
        have hX := hX.trans (hMT.wideT (E' := EC) (by decide)) (fun j hj h => by rw [show j = r from h]; exact hCX0.sr)
        have hCX := hCX.copied hMT hMn ((hCX.c.mapT hMT).both (hCf.mapT hMT) (fun x hx => (freshL_new xss C.L x hx).1))
        refine r_nil (t_n (c_seq (r_plain ?_)))
        refine p1 (x_assign (by conv => lhs; whnf)) ?_
        refine r_nil (t_n (c_ret ?_))
        refine end1 rfl (by conv => lhs; whnf) ?_
        first
          | exact absurd hpf2 hc83
          | (rw [hp]; exact ⟨rfl, (hCX0.start.ext hX).done, ModS.ofExt hX⟩)
          | (rw [hpm, hput, if_pos hc103]; exact ⟨rfl, hCU.mono (fun j hj h => h.elim (fun a => a.imp id fun b => ⟨b, hj⟩) (fun ⟨a, _⟩ => .inr ⟨by omega, hj⟩)), hX⟩)
          | (rw [hpm, hput, if_neg hc103, hOl]; exact ⟨rfl, hCX.done, hX⟩)
end Go.Proofs.Eng
end
