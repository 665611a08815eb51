import Derived.Test.YtlmfpocifkpggaaGreatDoorKT4
set_option linter.unusedVariables false
set_option linter.unusedSimpArgs false
set_option linter.unusedSectionVars false
section
set_option maxRecDepth 100000
set_option maxHeartbeats 4000000
namespace Go.Proofs.Eng
open Go.RowKit
open Extern.Stop (cell)
theorem store_undo20 (g gd r : Nat) (S Sd : Nat → Prop) (μ : Hash → Option R3) (pi nx : Option Addr) (ni ci : Nat) (C : CS) (k : Nat) (w : World) (hCX : CstX S Sd w g gd r μ pi ni ci nx C) (hn : CN C k) (hS : ∀ j, S j → 6 ≤ j) (hg : Gt w) (hk : k < 4611686018427300000) (st : Bool) :
    Ret Tryz.prog 57 [.pointer (some ⟨g, 0, none⟩), .int .i64 20, .bool st] w (fun v w' => v = .int .i64 (undoC C 20 st).2 ∧ Cst (grow S w w') w' g gd (undoC C 20 st).1 ∧ ModS S EC w w') := by
 have hgs := hg.size
 have hsg := hCX.sg
 have hGd := hn.good
 have hhi := hn.hi
 have hsz := hn.sz
 have hCX := hCX.start
 have hb := hCX.b
 have hX := ModS.refl S EC w
 refine eN 98 Tryz.func57 ?_
 refine c_seq (r_plain ?_)
 refine pA (r_nil (t_n (c_seq (c_seq (r_plain ?_)))))
 refine pM ?_
 refine p1 ((x_neq rfl rfl).cast (congrArg Value.bool (decide_eq_false (by simp)))) ?_
 refine r_nil (t_n ?_)
 refine c_f (rfl) ?_
 refine c_skip (t_n (c_seq (c_block (c_seq (r_plain ?_)))))
 refine pM ?_
 refine p1 ((x_eql rfl rfl).cast (congrArg Value.bool (decide_eq_true rfl))) ?_
 refine pA (r_nil (t_n ?_))
 refine c_t rfl ?_
 refine r_plain ?_
 refine pM ?_
 refine p1 (x_nilCheck rfl) ?_
 refine p1 (x_fieldAddr fo91_6 sz4 rfl) ?_
 refine o_store1 rfl (by conv => lhs; whnf) rfl rfl sz4 hb (by show _ < 7; omega) ?_
 intro w1 hP1
 have hX := hX.put hP1 (⟨.inl hsg, by decide⟩)
 have hb := hP1.blk
 try simp only [List.setIfInBounds_toArray, List.set_cons_zero, List.set_cons_succ] at hb
 have hCY := CstX.laid (C' := { ({ C with D := _ } : CS) with dead := true }) hCX hP1 rfl rfl (hCX.i.one hP1.one (by decide)) (.inl ⟨rfl, rfl⟩)
 refine r_nil (b_n (t_n (c_seq (r_plain ?_))))
 refine pM (pA (r_nil (t_n (c_ret ?_))))
 refine eR1 ?_
 rw [undoC_down]; exact ⟨rfl, hCY.done, hX⟩
theorem store_undo_true (g gd r : Nat) (S Sd : Nat → Prop) (μ : Hash → Option R3) (pi nx : Option Addr) (ni ci : Nat) (C : CS) (k : Nat) (w : World) (hCX : CstX S Sd w g gd r μ pi ni ci nx C) (hn : CN C k) (hS : ∀ j, S j → 6 ≤ j) (hg : Gt w) (hk : k < 4611686018427300000) (e : Int) (hne : e ≠ 20) :
    Ret Tryz.prog 57 [.pointer (some ⟨g, 0, none⟩), .int .i64 e, .bool true] w (fun v w' => v = .int .i64 (undoC C e true).2 ∧ Cst (grow S w w') w' g gd (undoC C e true).1 ∧ ModS S EC w w') := by
 have hgs := hg.size
 have hsg := hCX.sg
 have hGd := hn.good
 have hhi := hn.hi
 have hsz := hn.sz
 have hCX := hCX.start
 have hb := hCX.b
 have hX := ModS.refl S EC w
 refine eN 98 Tryz.func57 ?_
 refine c_seq (r_plain ?_)
 refine pA ?_
 refine r_nil (t_n (c_seq (c_seq (r_plain ?_))))
 refine pM ?_
 refine p1 (x_neq rfl rfl) ?_
 refine r_nil (t_n ?_)
 first | refine c_dec rfl (fun hc11 => ?_) (fun hc11 => ?_) | refine c_if rfl (fun hc11 => ?_) (fun hc11 => ?_)
 ·try simp only [dA, dB, dC, dD, dE, dF, dG, Int.not_lt, Int.not_le] at hc11
  refine c_seq (c_seq ?_)
  refine r_held (fun w1 w2 => Ext w1 w2) mixed ?_
  intro w1 hE1
  have hX := hX.ext hE1
  have hCX := hCX.ext hE1
  have hb := hb.ext hE1
  have hg := hg.ext hE1
  have hSr2 : (fun w1 w2 => Ext w1 w2) w1 w1 := Ext.refl w1
  refine hT 0 rfl hSr2 (fun wS hSS => by (exact (x_move (by conv => lhs; whnf)))) ?_
  refine hT 1 rfl hSr2 (fun wS hSS => by (exact (x_nilCheck rfl))) ?_
  refine hT 2 rfl hSr2 (fun wS hSS => by (exact (x_fieldAddr fo91_0 sz34 rfl))) ?_
  refine hT 3 rfl hSr2 (fun wS hSS => by (have hb := hb.ext hSS; exact (x_load1 un34 rfl (hb.cell (rfl))))) ?_
  refine hT 4 rfl hSr2 (fun wS hSS => by (exact (x_move (by conv => lhs; whnf)))) ?_
  refine hT 5 rfl hSr2 (fun wS hSS => by (exact (x_nilCheck rfl))) ?_
  refine hT 6 rfl hSr2 (fun wS hSS => by (exact (x_fieldAddr fo91_1 sz3 rfl))) ?_
  refine hT 7 rfl hSr2 (fun wS hSS => by (have hb := hb.ext hSS; exact (x_load1 un3 rfl (hb.cell (rfl))))) ?_
  refine h1L 8 (fun Q8 hQ8 => ?_)
  refine o_call Tryz.func49 fn49 fb49 (segment_Name (C.seg : Int) _ hg.l) rfl ?_
  rintro v2 w2 ⟨rfl, hE2⟩
  have hX := hX.ext hE2
  have hCX := hCX.ext hE2
  have hb := hb.ext hE2
  have hg := hg.ext hE2
  have hSr2 := hSr2.ext hE2
  refine hop_end hQ8 ⟨hSr2, ?_⟩
  refine h1L 9 (fun Q9 hQ9 => ?_)
  refine o_call Tryz.func37 fn37 fb37 (disk_Read gd _ C.D _ hCX.d hn.good.ok (nSeg C.seg) (nSeg_size _)) rfl ?_
  rintro v3 w3 ⟨⟨qb, nb, cb, rfl, hO⟩, hE3⟩
  have hX := hX.ext hE3
  have hCX := hCX.ext hE3
  have hb := hb.ext hE3
  have hg := hg.ext hE3
  have hSr2 := hSr2.ext hE3
  have hOl := hO.len
  have hOc := hO.sl.cap
  have hOf := hO.sl.fit
  refine hop_end hQ9 ⟨hSr2, ?_⟩
  refine hT 10 rfl hSr2 (fun wS hSS => by (exact (x_move (by conv => lhs; whnf)))) ?_
  refine hT 11 rfl hSr2 (fun wS hSS => by (exact (x_extract rfl rfl))) ?_
  refine hT 12 rfl hSr2 (fun wS hSS => by (exact (x_extract rfl rfl))) ?_
  refine hT 13 rfl hSr2 (fun wS hSS => by (exact (x_assign (by conv => lhs; whnf)))) ?_
  refine hT 14 rfl hSr2 (fun wS hSS => by (exact (x_assign (by conv => lhs; whnf)))) ?_
  refine h_done (by kernel_rfl) ?_
  refine t_n (c_seq (r_plain ?_))
  refine pM ?_
  refine p1 (x_len_slice u23 rfl) ?_
  refine pM ?_
  refine p1 (x_nilCheck rfl) ?_
  refine p1 (x_fieldAddr fo91_2 sz3 rfl) ?_
  refine p1 (x_load1 un3 rfl (hb.cell (rfl))) ?_
  refine p1 (x_gtr rfl rfl) ?_
  refine r_nil (t_n ?_)
  first | refine c_dec rfl (fun hc31 => ?_) (fun hc31 => ?_) | refine c_if rfl (fun hc31 => ?_) (fun hc31 => ?_)
  ·try simp only [dA, dB, dC, dD, dE, dF, dG, Int.not_lt, Int.not_le] at hc31
   have hlt := (by omega : C.size < (readD C.D (nSeg C.seg)).1.length)
   refine c_seq ?_
   refine r_held (fun w1 w2 => ModS (fun _ => True) ED w1 w2) mixed ?_
   intro w4 hE4
   have hX := hX.ext hE4
   have hCX := hCX.ext hE4
   have hb := hb.ext hE4
   have hg := hg.ext hE4
   have hSr4 : (fun w1 w2 => ModS (fun _ => True) ED w1 w2) w4 w4 := ModS.refl (fun _ => True) ED _
   refine hT 0 rfl hSr4 (fun wS hSS => by (exact (x_move (by conv => lhs; whnf)))) ?_
   refine hT 1 rfl hSr4 (fun wS hSS => by (exact (x_nilCheck rfl))) ?_
   refine hT 2 rfl hSr4 (fun wS hSS => by (exact (x_fieldAddr fo91_0 sz34 rfl))) ?_
   refine hT 3 rfl hSr4 (fun wS hSS => by (have hb := hb.modS hSS (.inr (by decide)); exact (x_load1 un34 rfl (hb.cell (rfl))))) ?_
   refine hT 4 rfl hSr4 (fun wS hSS => by (exact (x_move (by conv => lhs; whnf)))) ?_
   refine hT 5 rfl hSr4 (fun wS hSS => by (exact (x_nilCheck rfl))) ?_
   refine hT 6 rfl hSr4 (fun wS hSS => by (exact (x_fieldAddr fo91_1 sz3 rfl))) ?_
   refine hT 7 rfl hSr4 (fun wS hSS => by (have hb := hb.modS hSS (.inr (by decide)); exact (x_load1 un3 rfl (hb.cell (rfl))))) ?_
   refine hT 9 rfl hSr4 (fun wS hSS => by (exact (x_move (by conv => lhs; whnf)))) ?_
   refine hT 10 rfl hSr4 (fun wS hSS => by (exact (x_nilCheck rfl))) ?_
   refine hT 11 rfl hSr4 (fun wS hSS => by (exact (x_fieldAddr fo91_2 sz3 rfl))) ?_
   refine hT 12 rfl hSr4 (fun wS hSS => by (have hb := hb.modS hSS (.inr (by decide)); exact (x_load1 un3 rfl (hb.cell (rfl))))) ?_
   refine h1L 8 (fun Q8 hQ8 => ?_)
   refine o_call Tryz.func49 fn49 fb49 (segment_Name (C.seg : Int) _ hg.l) rfl ?_
   rintro v5 w5 ⟨rfl, hE5⟩
   have hX := hX.ext hE5
   have hCX := hCX.ext hE5
   have hb := hb.ext hE5
   have hg := hg.ext hE5
   have hSr4 := hSr4.ext hE5
   refine hop_end hQ8 ⟨hSr4, ?_⟩
   refine h1L 13 (fun Q13 hQ13 => ?_)
   have hXs := hX.size
   refine o_call Tryz.func94 fn94 fb94 (disk_Cut gd _ _ _ hCX.d hGd.ok (Nat.lt_of_le_of_lt hGd.steps (by omega)) hGd.left (nSeg C.seg) (nSeg_size _) (C.size : Int) (by omega) (by omega)) rfl ?_
   rintro v6 w6 ⟨rfl, hD2, hM2⟩
   have hX := hX.stepE hM2 (sub_old hCX)
   have hg := hg.modS hM2 (fun k hk => (hCX.sub k hk).elim (hS k) fun q => Nat.le_trans hgs q)
   have hCX := hCX.stepD hXs hM2 hD2
   have hb : Blk w6 g (stoV gd C pi ni ci r nx) tSto := hCX.b
   have hGd := good_cut hGd (nSeg C.seg) (C.size : Int)
   have hSr4 := hSr4.trans (hM2.mono fun _ _ _ => trivial) (fun _ _ h => h)
   refine hop_end hQ13 ⟨hSr4, ?_⟩
   refine hT 14 rfl hSr4 (fun wS hSS => by (exact (x_neq rfl rfl))) ?_
   refine h_done (by kernel_rfl) ?_
   refine t_n ?_
   first | refine c_dec rfl (fun hc46 => ?_) (fun hc46 => ?_) | refine c_if rfl (fun hc46 => ?_) (fun hc46 => ?_)
   ·try simp only [dA, dB, dC, dD, dE, dF, dG, Int.not_lt, Int.not_le] at hc46
    have hq := undoC_badR hne (st1_err (step := true) hlt hc46) hc46
    refine r_plain ?_
    refine pA ?_
    refine r_nil (t_n (c_seq (c_seq (r_plain ?_))))
    refine pM ?_
    refine p1 ((x_neq rfl rfl).cast (congrArg Value.bool (decide_eq_false (by simp)))) ?_
    refine pM ?_
    refine gF 49 ?_
    refine gF 49 ?_
    refine p1 (x_pick_f rfl (by conv => lhs; whnf)) ?_
    refine pM ?_
    refine gF 53 ?_
    refine gF 53 ?_
    refine gF 53 ?_
    refine gF 53 ?_
    refine gF 53 ?_
    refine gF 53 ?_
    refine p1 (x_pick_f rfl (by conv => lhs; whnf)) ?_
    refine r_nil (t_n ?_)
    refine c_f rfl ?_
    try have hU3 := st2_ok hU (hbz.1 hb6_6) (by omega)
    refine c_skip (t_n (c_seq (r_plain ?_)))
    refine pM ?_
    refine p1 (x_nilCheck rfl) ?_
    refine p1 (x_fieldAddr fo91_1 sz3 rfl) ?_
    refine p1 (x_load1 un3 rfl (hb.cell (rfl))) ?_
    refine p1 ((x_add rfl rfl (fits_i64 (by omega) (by omega))).cast (congrArg (Value.int .i64) (by omega : _ = ((C.seg + 1 : Nat) : Int)))) ?_
    refine o_call Tryz.func49 fn49 fb49 (segment_Name ((C.seg + 1 : Nat) : Int) _ hg.l) rfl ?_
    rintro v7 w7 ⟨rfl, hE7⟩
    have hX := hX.ext hE7
    have hCX := hCX.ext hE7
    have hb := hb.ext hE7
    have hg := hg.ext hE7
    refine pA ?_
    refine r_nil (t_n (c_seq (r_plain ?_)))
    refine pM ?_
    refine p1 ((x_neq rfl rfl).cast (congrArg Value.bool (decide_eq_false (by simp)))) ?_
    refine pM ?_
    refine gF 69 ?_
    refine p1 (x_pick_f rfl (by conv => lhs; whnf)) ?_
    refine pM ?_
    refine gF 72 ?_
    refine gF 72 ?_
    refine gF 72 ?_
    refine p1 (x_pick_f rfl (by conv => lhs; whnf)) ?_
    refine pM ?_
    refine gF 77 ?_
    refine gF 77 ?_
    refine gF 77 ?_
    refine gF 77 ?_
    refine gF 77 ?_
    refine gF 77 ?_
    refine gF 77 ?_
    refine p1 (x_pick_f rfl (by conv => lhs; whnf)) ?_
    refine r_nil (t_n ?_)
    refine c_f rfl ?_
    try have hq := undoC_goodR hne (st3_yes hU3 (hbz2.1 hb9_10)) (by omega)
    refine c_skip (t_n (c_seq (c_block (c_seq (r_plain ?_)))))
    refine pM ?_
    refine p1 ((x_eql rfl rfl).cast (congrArg Value.bool (decide_eq_true rfl))) ?_
    refine pA ?_
    refine r_nil (t_n ?_)
    refine c_t rfl ?_
    refine r_plain ?_
    refine pM ?_
    refine p1 (x_nilCheck rfl) ?_
    refine p1 (x_fieldAddr fo91_6 sz4 rfl) ?_
    refine o_store1 rfl (by conv => lhs; whnf) rfl rfl sz4 hb (by show _ < 7; omega) ?_
    intro w8 hP8
    have hX := hX.put hP8 (⟨.inl hsg, by decide⟩)
    have hb := hP8.blk
    try simp only [List.setIfInBounds_toArray, List.set_cons_zero, List.set_cons_succ] at hb
    have hCY := CstX.laid (C' := { ({ C with D := _ } : CS) with dead := true }) hCX hP8 rfl rfl (hCX.i.one hP8.one (by decide)) (.inl ⟨rfl, rfl⟩)
    refine r_nil (b_n (t_n (c_seq (r_plain ?_))))
    refine pM ?_
    refine pA ?_
    refine r_nil (t_n (c_ret ?_))
    refine eR1 ?_
    first
      | (rw [hq]; exact ⟨rfl, hCY.done, hX⟩)
      | (rw [hq]; exact ⟨rfl, hCX.done, hX⟩)
   try simp only [dA, dB, dC, dD, dE, dF, dG, Int.not_lt, Int.not_le] at hc46
   have hU := st1_ok (step := true) hlt (by omega)
   refine c_skip (t_n (c_seq (c_seq (r_plain ?_))))
   refine pM ?_
   refine p1 ((x_neq rfl rfl).cast (congrArg Value.bool (decide_eq_true hne))) ?_
   refine pM ?_
   refine gM 49 ?_
   refine g_drop 49 rfl rfl ?_
   refine o_call Tryz.func105 fn105 fb105 (store_there g gd r _ _ μ pi nx ni ci _ _ hCX hGd.ok nNew) rfl ?_
   rintro v9 w9 ⟨⟨bz, rfl, hbz⟩, hE9⟩
   have hX := hX.ext hE9
   have hCX := hCX.ext hE9
   have hb := hb.ext hE9
   have hg := hg.ext hE9
   refine p1 (x_pick_t rfl (by conv => lhs; whnf)) ?_
   refine p1b (x_move (by conv => lhs; whnf)) (fun hb6_6 => ?_) (fun hb6_6 => ?_)
   ·try simp only [dA, dB, dC, dD, dE, dF, dG, Int.not_lt, Int.not_le] at hb6_6
    refine gM 53 ?_
    refine Eng.g1 53 rfl rfl (x_nilCheck rfl) ?_
    refine Eng.g1 53 rfl rfl (x_fieldAddr fo91_0 sz34 rfl) ?_
    refine Eng.g1 53 rfl rfl (x_load1 un34 rfl (hb.cell (rfl))) ?_
    refine g_drop 53 rfl rfl ?_
    have hXs := hX.size
    refine o_call Tryz.func95 fn95 fb95 (disk_Remove gd _ _ _ hCX.d hGd.ok (Nat.lt_of_le_of_lt hGd.steps (by omega)) hGd.left nNew (by decide)) rfl ?_
    rintro v10 w10 ⟨rfl, hD2, hM2⟩
    have hX := hX.stepE hM2 (sub_old hCX)
    have hg := hg.modS hM2 (fun k hk => (hCX.sub k hk).elim (hS k) fun q => Nat.le_trans hgs q)
    have hCX := hCX.stepD hXs hM2 hD2
    have hb : Blk w10 g (stoV gd C pi ni ci r nx) tSto := hCX.b
    have hGd := good_remove hGd nNew
    refine Eng.g1 53 rfl rfl (x_neq rfl rfl) ?_
    refine p1 (x_pick_t rfl (by conv => lhs; whnf)) ?_
    refine r_nil (t_n ?_)
    first | refine c_dec rfl (fun hc60 => ?_) (fun hc60 => ?_) | refine c_if rfl (fun hc60 => ?_) (fun hc60 => ?_)
    ·try simp only [dA, dB, dC, dD, dE, dF, dG, Int.not_lt, Int.not_le] at hc60
     have hq := undoC_badR hne (st2_err hU (hbz.1 hb6_6) hc60) hc60
     refine r_plain ?_
     refine pA ?_
     refine r_nil (t_n (c_seq (r_plain ?_)))
     refine pM ?_
     refine p1 (x_nilCheck rfl) ?_
     refine p1 (x_fieldAddr fo91_1 sz3 rfl) ?_
     refine p1 (x_load1 un3 rfl (hb.cell (rfl))) ?_
     refine p1 ((x_add rfl rfl (fits_i64 (by omega) (by omega))).cast (congrArg (Value.int .i64) (by omega : _ = ((C.seg + 1 : Nat) : Int)))) ?_
     refine o_call Tryz.func49 fn49 fb49 (segment_Name ((C.seg + 1 : Nat) : Int) _ hg.l) rfl ?_
     rintro v11 w11 ⟨rfl, hE11⟩
     have hX := hX.ext hE11
     have hCX := hCX.ext hE11
     have hb := hb.ext hE11
     have hg := hg.ext hE11
     refine pA ?_
     refine r_nil (t_n (c_seq (r_plain ?_)))
     refine pM ?_
     refine p1 ((x_neq rfl rfl).cast (congrArg Value.bool (decide_eq_false (by simp)))) ?_
     refine pM ?_
     refine gF 69 ?_
     refine p1 (x_pick_f rfl (by conv => lhs; whnf)) ?_
     refine pM ?_
     refine gF 72 ?_
     refine gF 72 ?_
     refine gF 72 ?_
     refine p1 (x_pick_f rfl (by conv => lhs; whnf)) ?_
     refine pM ?_
     refine gF 77 ?_
     refine gF 77 ?_
     refine gF 77 ?_
     refine gF 77 ?_
     refine gF 77 ?_
     refine gF 77 ?_
     refine gF 77 ?_
     refine p1 (x_pick_f rfl (by conv => lhs; whnf)) ?_
     refine r_nil (t_n ?_)
     refine c_f rfl ?_
     try have hq := undoC_goodR hne (st3_yes hU3 (hbz2.1 hb9_10)) (by omega)
     refine c_skip (t_n (c_seq (c_block (c_seq (r_plain ?_)))))
     refine pM ?_
     refine p1 ((x_eql rfl rfl).cast (congrArg Value.bool (decide_eq_true rfl))) ?_
     refine pA ?_
     refine r_nil (t_n ?_)
     refine c_t rfl ?_
     refine r_plain ?_
     refine pM ?_
     refine p1 (x_nilCheck rfl) ?_
     refine p1 (x_fieldAddr fo91_6 sz4 rfl) ?_
     refine o_store1 rfl (by conv => lhs; whnf) rfl rfl sz4 hb (by show _ < 7; omega) ?_
     intro w12 hP12
     have hX := hX.put hP12 (⟨.inl hsg, by decide⟩)
     have hb := hP12.blk
     try simp only [List.setIfInBounds_toArray, List.set_cons_zero, List.set_cons_succ] at hb
     have hCY := CstX.laid (C' := { ({ C with D := _ } : CS) with dead := true }) hCX hP12 rfl rfl (hCX.i.one hP12.one (by decide)) (.inl ⟨rfl, rfl⟩)
     refine r_nil (b_n (t_n (c_seq (r_plain ?_))))
     refine pM ?_
     refine pA ?_
     refine r_nil (t_n (c_ret ?_))
     refine eR1 ?_
     first
       | (rw [hq]; exact ⟨rfl, hCY.done, hX⟩)
       | (rw [hq]; exact ⟨rfl, hCX.done, hX⟩)
    try simp only [dA, dB, dC, dD, dE, dF, dG, Int.not_lt, Int.not_le] at hc60
    try have hU3 := st2_ok hU (hbz.1 hb6_6) (by omega)
    refine c_skip (t_n (c_seq (r_plain ?_)))
    refine pM ?_
    refine p1 (x_nilCheck rfl) ?_
    refine p1 (x_fieldAddr fo91_1 sz3 rfl) ?_
    refine p1 (x_load1 un3 rfl (hb.cell (rfl))) ?_
    refine p1 ((x_add rfl rfl (fits_i64 (by omega) (by omega))).cast (congrArg (Value.int .i64) (by omega : _ = ((C.seg + 1 : Nat) : Int)))) ?_
    refine o_call Tryz.func49 fn49 fb49 (segment_Name ((C.seg + 1 : Nat) : Int) _ hg.l) rfl ?_
    rintro v13 w13 ⟨rfl, hE13⟩
    have hX := hX.ext hE13
    have hCX := hCX.ext hE13
    have hb := hb.ext hE13
    have hg := hg.ext hE13
    refine pA ?_
    refine r_nil (t_n (c_seq (r_plain ?_)))
    refine pM ?_
    refine p1 ((x_neq rfl rfl).cast (congrArg Value.bool (decide_eq_true hne))) ?_
    refine pM ?_
    refine gM 69 ?_
    refine p1 (x_pick_t rfl (by conv => lhs; whnf)) ?_
    refine pM ?_
    refine gM 72 ?_
    refine gM 72 ?_
    refine g_drop 72 rfl rfl ?_
    refine o_call Tryz.func105 fn105 fb105 (store_there g gd r _ _ μ pi nx ni ci _ _ hCX hGd.ok (nSeg (C.seg + 1))) rfl ?_
    rintro v14 w14 ⟨⟨bz2, rfl, hbz2⟩, hE14⟩
    have hX := hX.ext hE14
    have hCX := hCX.ext hE14
    have hb := hb.ext hE14
    have hg := hg.ext hE14
    refine p1 (x_pick_t rfl (by conv => lhs; whnf)) ?_
    refine p1b (x_move (by conv => lhs; whnf)) (fun hb9_10 => ?_) (fun hb9_10 => ?_)
    ·try simp only [dA, dB, dC, dD, dE, dF, dG, Int.not_lt, Int.not_le] at hb9_10
     refine gM 77 ?_
     refine Eng.g1 77 rfl rfl (x_nilCheck rfl) ?_
     refine Eng.g1 77 rfl rfl (x_fieldAddr fo91_0 sz34 rfl) ?_
     refine Eng.g1 77 rfl rfl (x_load1 un34 rfl (hb.cell (rfl))) ?_
     refine gM 77 ?_
     refine g_drop 77 rfl rfl ?_
     have hXs := hX.size
     refine o_call Tryz.func95 fn95 fb95 (disk_Remove gd _ _ _ hCX.d hGd.ok (Nat.lt_of_le_of_lt hGd.steps (by omega)) hGd.left (nSeg (C.seg + 1)) (nSeg_size _)) rfl ?_
     rintro v15 w15 ⟨rfl, hD2, hM2⟩
     have hX := hX.stepE hM2 (sub_old hCX)
     have hg := hg.modS hM2 (fun k hk => (hCX.sub k hk).elim (hS k) fun q => Nat.le_trans hgs q)
     have hCX := hCX.stepD hXs hM2 hD2
     have hb : Blk w15 g (stoV gd C pi ni ci r nx) tSto := hCX.b
     have hGd := good_remove hGd (nSeg (C.seg + 1))
     refine Eng.g1 77 rfl rfl (x_neq rfl rfl) ?_
     refine p1 (x_pick_t rfl (by conv => lhs; whnf)) ?_
     refine r_nil (t_n ?_)
     first | refine c_dec rfl (fun hc85 => ?_) (fun hc85 => ?_) | refine c_if rfl (fun hc85 => ?_) (fun hc85 => ?_)
     ·try simp only [dA, dB, dC, dD, dE, dF, dG, Int.not_lt, Int.not_le] at hc85
      have hq := undoC_badR hne (st3_yes hU3 (hbz2.1 hb9_10)) hc85
      refine r_plain ?_
      refine pA ?_
      refine r_nil (t_n (c_seq (c_block (c_seq (r_plain ?_)))))
      refine pM ?_
      refine p1 ((x_eql rfl rfl).cast (congrArg Value.bool (decide_eq_true rfl))) ?_
      refine pA ?_
      refine r_nil (t_n ?_)
      refine c_t rfl ?_
      refine r_plain ?_
      refine pM ?_
      refine p1 (x_nilCheck rfl) ?_
      refine p1 (x_fieldAddr fo91_6 sz4 rfl) ?_
      refine o_store1 rfl (by conv => lhs; whnf) rfl rfl sz4 hb (by show _ < 7; omega) ?_
      intro w16 hP16
      have hX := hX.put hP16 (⟨.inl hsg, by decide⟩)
      have hb := hP16.blk
      try simp only [List.setIfInBounds_toArray, List.set_cons_zero, List.set_cons_succ] at hb
      have hCY := CstX.laid (C' := { ({ C with D := _ } : CS) with dead := true }) hCX hP16 rfl rfl (hCX.i.one hP16.one (by decide)) (.inl ⟨rfl, rfl⟩)
      refine r_nil (b_n (t_n (c_seq (r_plain ?_))))
      refine pM ?_
      refine pA ?_
      refine r_nil (t_n (c_ret ?_))
      refine eR1 ?_
      first
        | (rw [hq]; exact ⟨rfl, hCY.done, hX⟩)
        | (rw [hq]; exact ⟨rfl, hCX.done, hX⟩)
     try simp only [dA, dB, dC, dD, dE, dF, dG, Int.not_lt, Int.not_le] at hc85
     try have hq := undoC_goodR hne (st3_yes hU3 (hbz2.1 hb9_10)) (by omega)
     refine c_skip (t_n (c_seq (c_block (c_seq (r_plain ?_)))))
     refine pM ?_
     refine p1 ((x_eql rfl rfl).cast (congrArg Value.bool (decide_eq_false hne))) ?_
     refine pA ?_
     refine r_nil (t_n ?_)
     refine c_f rfl ?_
     refine c_seq (r_plain ?_)
     refine pM ?_
     refine pA ?_
     refine r_nil (t_n ?_)
     refine c_t (rfl) ?_
     refine r_plain ?_
     refine pM ?_
     refine p1 (x_nilCheck rfl) ?_
     refine p1 (x_fieldAddr fo91_5 sz89 rfl) ?_
     refine o_store1 rfl (by conv => lhs; whnf) rfl rfl sz89 hb (by show _ < 7; omega) ?_
     intro w17 hP17
     have hX := hX.put hP17 (⟨.inl hsg, by decide⟩)
     have hb := hP17.blk
     try simp only [List.setIfInBounds_toArray, List.set_cons_zero, List.set_cons_succ] at hb
     have hCY := CstX.laid (C' := { ({ C with D := _ } : CS) with next := none }) hCX hP17 rfl rfl (hCX.i.one hP17.one (by decide)) (.inr ⟨rfl, rfl⟩)
     refine r_nil (b_n (t_n (c_seq (r_plain ?_))))
     refine pM ?_
     refine pA ?_
     refine r_nil (t_n (c_ret ?_))
     refine eR1 ?_
     first
       | (rw [hq]; exact ⟨rfl, hCY.done, hX⟩)
       | (rw [hq]; exact ⟨rfl, hCX.done, hX⟩)
    try simp only [dA, dB, dC, dD, dE, dF, dG, Int.not_lt, Int.not_le] at hb9_10
    have hq := undoC_goodR hne (st3_no hU3 (fun h => by have := hbz2.2 h; simp_all)) rfl
    refine gF 77 ?_
    refine gF 77 ?_
    refine gF 77 ?_
    refine gF 77 ?_
    refine gF 77 ?_
    refine gF 77 ?_
    refine gF 77 ?_
    refine p1 (x_pick_f rfl (by conv => lhs; whnf)) ?_
    refine r_nil (t_n ?_)
    refine c_f rfl ?_
    try have hq := undoC_goodR hne (st3_yes hU3 (hbz2.1 hb9_10)) (by omega)
    refine c_skip (t_n (c_seq (c_block (c_seq (r_plain ?_)))))
    refine pM ?_
    refine p1 ((x_eql rfl rfl).cast (congrArg Value.bool (decide_eq_false hne))) ?_
    refine pA ?_
    refine r_nil (t_n ?_)
    refine c_f rfl ?_
    refine c_seq (r_plain ?_)
    refine pM ?_
    refine pA ?_
    refine r_nil (t_n ?_)
    refine c_t (rfl) ?_
    refine r_plain ?_
    refine pM ?_
    refine p1 (x_nilCheck rfl) ?_
    refine p1 (x_fieldAddr fo91_5 sz89 rfl) ?_
    refine o_store1 rfl (by conv => lhs; whnf) rfl rfl sz89 hb (by show _ < 7; omega) ?_
    intro w18 hP18
    have hX := hX.put hP18 (⟨.inl hsg, by decide⟩)
    have hb := hP18.blk
    try simp only [List.setIfInBounds_toArray, List.set_cons_zero, List.set_cons_succ] at hb
    have hCY := CstX.laid (C' := { ({ C with D := _ } : CS) with next := none }) hCX hP18 rfl rfl (hCX.i.one hP18.one (by decide)) (.inr ⟨rfl, rfl⟩)
    refine r_nil (b_n (t_n (c_seq (r_plain ?_))))
    refine pM ?_
    refine pA ?_
    refine r_nil (t_n (c_ret ?_))
    refine eR1 ?_
    first
      | (rw [hq]; exact ⟨rfl, hCY.done, hX⟩)
      | (rw [hq]; exact ⟨rfl, hCX.done, hX⟩)
   try simp only [dA, dB, dC, dD, dE, dF, dG, Int.not_lt, Int.not_le] at hb6_6
   have hU3 := st2_no hU (fun h => by have := hbz.2 h; simp_all)
   refine gF 53 ?_
   refine gF 53 ?_
   refine gF 53 ?_
   refine gF 53 ?_
   refine gF 53 ?_
   refine gF 53 ?_
   refine p1 (x_pick_f rfl (by conv => lhs; whnf)) ?_
   refine r_nil (t_n ?_)
   refine c_f rfl ?_
   try have hU3 := st2_ok hU (hbz.1 hb6_6) (by omega)
   refine c_skip (t_n (c_seq (r_plain ?_)))
   refine pM ?_
   refine p1 (x_nilCheck rfl) ?_
   refine p1 (x_fieldAddr fo91_1 sz3 rfl) ?_
   refine p1 (x_load1 un3 rfl (hb.cell (rfl))) ?_
   refine p1 ((x_add rfl rfl (fits_i64 (by omega) (by omega))).cast (congrArg (Value.int .i64) (by omega : _ = ((C.seg + 1 : Nat) : Int)))) ?_
   refine o_call Tryz.func49 fn49 fb49 (segment_Name ((C.seg + 1 : Nat) : Int) _ hg.l) rfl ?_
   rintro v19 w19 ⟨rfl, hE19⟩
   have hX := hX.ext hE19
   have hCX := hCX.ext hE19
   have hb := hb.ext hE19
   have hg := hg.ext hE19
   refine pA ?_
   refine r_nil (t_n (c_seq (r_plain ?_)))
   refine pM ?_
   refine p1 ((x_neq rfl rfl).cast (congrArg Value.bool (decide_eq_true hne))) ?_
   refine pM ?_
   refine gM 69 ?_
   refine p1 (x_pick_t rfl (by conv => lhs; whnf)) ?_
   refine pM ?_
   refine gM 72 ?_
   refine gM 72 ?_
   refine g_drop 72 rfl rfl ?_
   refine o_call Tryz.func105 fn105 fb105 (store_there g gd r _ _ μ pi nx ni ci _ _ hCX hGd.ok (nSeg (C.seg + 1))) rfl ?_
   rintro v20 w20 ⟨⟨bz2, rfl, hbz2⟩, hE20⟩
   have hX := hX.ext hE20
   have hCX := hCX.ext hE20
   have hb := hb.ext hE20
   have hg := hg.ext hE20
   refine p1 (x_pick_t rfl (by conv => lhs; whnf)) ?_
   refine p1b (x_move (by conv => lhs; whnf)) (fun hb9_10 => ?_) (fun hb9_10 => ?_)
   ·try simp only [dA, dB, dC, dD, dE, dF, dG, Int.not_lt, Int.not_le] at hb9_10
    refine gM 77 ?_
    refine Eng.g1 77 rfl rfl (x_nilCheck rfl) ?_
    refine Eng.g1 77 rfl rfl (x_fieldAddr fo91_0 sz34 rfl) ?_
    refine Eng.g1 77 rfl rfl (x_load1 un34 rfl (hb.cell (rfl))) ?_
    refine gM 77 ?_
    refine g_drop 77 rfl rfl ?_
    have hXs := hX.size
    refine o_call Tryz.func95 fn95 fb95 (disk_Remove gd _ _ _ hCX.d hGd.ok (Nat.lt_of_le_of_lt hGd.steps (by omega)) hGd.left (nSeg (C.seg + 1)) (nSeg_size _)) rfl ?_
    rintro v21 w21 ⟨rfl, hD2, hM2⟩
    have hX := hX.stepE hM2 (sub_old hCX)
    have hg := hg.modS hM2 (fun k hk => (hCX.sub k hk).elim (hS k) fun q => Nat.le_trans hgs q)
    have hCX := hCX.stepD hXs hM2 hD2
    have hb : Blk w21 g (stoV gd C pi ni ci r nx) tSto := hCX.b
    have hGd := good_remove hGd (nSeg (C.seg + 1))
    refine Eng.g1 77 rfl rfl (x_neq rfl rfl) ?_
    refine p1 (x_pick_t rfl (by conv => lhs; whnf)) ?_
    refine r_nil (t_n ?_)
    first | refine c_dec rfl (fun hc85 => ?_) (fun hc85 => ?_) | refine c_if rfl (fun hc85 => ?_) (fun hc85 => ?_)
    ·try simp only [dA, dB, dC, dD, dE, dF, dG, Int.not_lt, Int.not_le] at hc85
     have hq := undoC_badR hne (st3_yes hU3 (hbz2.1 hb9_10)) hc85
     refine r_plain ?_
     refine pA ?_
     refine r_nil (t_n (c_seq (c_block (c_seq (r_plain ?_)))))
     refine pM ?_
     refine p1 ((x_eql rfl rfl).cast (congrArg Value.bool (decide_eq_true rfl))) ?_
     refine pA ?_
     refine r_nil (t_n ?_)
     refine c_t rfl ?_
     refine r_plain ?_
     refine pM ?_
     refine p1 (x_nilCheck rfl) ?_
     refine p1 (x_fieldAddr fo91_6 sz4 rfl) ?_
     refine o_store1 rfl (by conv => lhs; whnf) rfl rfl sz4 hb (by show _ < 7; omega) ?_
     intro w22 hP22
     have hX := hX.put hP22 (⟨.inl hsg, by decide⟩)
     have hb := hP22.blk
     try simp only [List.setIfInBounds_toArray, List.set_cons_zero, List.set_cons_succ] at hb
     have hCY := CstX.laid (C' := { ({ C with D := _ } : CS) with dead := true }) hCX hP22 rfl rfl (hCX.i.one hP22.one (by decide)) (.inl ⟨rfl, rfl⟩)
     refine r_nil (b_n (t_n (c_seq (r_plain ?_))))
     refine pM ?_
     refine pA ?_
     refine r_nil (t_n (c_ret ?_))
     refine eR1 ?_
     first
       | (rw [hq]; exact ⟨rfl, hCY.done, hX⟩)
       | (rw [hq]; exact ⟨rfl, hCX.done, hX⟩)
    try simp only [dA, dB, dC, dD, dE, dF, dG, Int.not_lt, Int.not_le] at hc85
    try have hq := undoC_goodR hne (st3_yes hU3 (hbz2.1 hb9_10)) (by omega)
    refine c_skip (t_n (c_seq (c_block (c_seq (r_plain ?_)))))
    refine pM ?_
    refine p1 ((x_eql rfl rfl).cast (congrArg Value.bool (decide_eq_false hne))) ?_
    refine pA ?_
    refine r_nil (t_n ?_)
    refine c_f rfl ?_
    refine c_seq (r_plain ?_)
    refine pM ?_
    refine pA ?_
    refine r_nil (t_n ?_)
    refine c_t (rfl) ?_
    refine r_plain ?_
    refine pM ?_
    refine p1 (x_nilCheck rfl) ?_
    refine p1 (x_fieldAddr fo91_5 sz89 rfl) ?_
    refine o_store1 rfl (by conv => lhs; whnf) rfl rfl sz89 hb (by show _ < 7; omega) ?_
    intro w23 hP23
    have hX := hX.put hP23 (⟨.inl hsg, by decide⟩)
    have hb := hP23.blk
    try simp only [List.setIfInBounds_toArray, List.set_cons_zero, List.set_cons_succ] at hb
    have hCY := CstX.laid (C' := { ({ C with D := _ } : CS) with next := none }) hCX hP23 rfl rfl (hCX.i.one hP23.one (by decide)) (.inr ⟨rfl, rfl⟩)
    refine r_nil (b_n (t_n (c_seq (r_plain ?_))))
    refine pM ?_
    refine pA ?_
    refine r_nil (t_n (c_ret ?_))
    refine eR1 ?_
    first
      | (rw [hq]; exact ⟨rfl, hCY.done, hX⟩)
      | (rw [hq]; exact ⟨rfl, hCX.done, hX⟩)
   try simp only [dA, dB, dC, dD, dE, dF, dG, Int.not_lt, Int.not_le] at hb9_10
   have hq := undoC_goodR hne (st3_no hU3 (fun h => by have := hbz2.2 h; simp_all)) rfl
   refine gF 77 ?_
   refine gF 77 ?_
   refine gF 77 ?_
   refine gF 77 ?_
   refine gF 77 ?_
   refine gF 77 ?_
   refine gF 77 ?_
   refine p1 (x_pick_f rfl (by conv => lhs; whnf)) ?_
   refine r_nil (t_n ?_)
   refine c_f rfl ?_
   try have hq := undoC_goodR hne (st3_yes hU3 (hbz2.1 hb9_10)) (by omega)
   refine c_skip (t_n (c_seq (c_block (c_seq (r_plain ?_)))))
   refine pM ?_
   refine p1 ((x_eql rfl rfl).cast (congrArg Value.bool (decide_eq_false hne))) ?_
   refine pA ?_
   refine r_nil (t_n ?_)
   refine c_f rfl ?_
   refine c_seq (r_plain ?_)
   refine pM ?_
   refine pA ?_
   refine r_nil (t_n ?_)
   refine c_t (rfl) ?_
   refine r_plain ?_
   refine pM ?_
   refine p1 (x_nilCheck rfl) ?_
   refine p1 (x_fieldAddr fo91_5 sz89 rfl) ?_
   refine o_store1 rfl (by conv => lhs; whnf) rfl rfl sz89 hb (by show _ < 7; omega) ?_
   intro w24 hP24
   have hX := hX.put hP24 (⟨.inl hsg, by decide⟩)
   have hb := hP24.blk
   try simp only [List.setIfInBounds_toArray, List.set_cons_zero, List.set_cons_succ] at hb
   have hCY := CstX.laid (C' := { ({ C with D := _ } : CS) with next := none }) hCX hP24 rfl rfl (hCX.i.one hP24.one (by decide)) (.inr ⟨rfl, rfl⟩)
   refine r_nil (b_n (t_n (c_seq (r_plain ?_))))
   refine pM ?_
   refine pA ?_
   refine r_nil (t_n (c_ret ?_))
   refine eR1 ?_
   first
     | (rw [hq]; exact ⟨rfl, hCY.done, hX⟩)
     | (rw [hq]; exact ⟨rfl, hCX.done, hX⟩)
  try simp only [dA, dB, dC, dD, dE, dF, dG, Int.not_lt, Int.not_le] at hc31
  have hU := st1_no (D := C.D) (seg := C.seg) (size := C.size) (step := true) (by omega)
  refine c_skip (t_n (c_seq (c_seq (r_plain ?_))))
  refine pM ?_
  refine p1 ((x_neq rfl rfl).cast (congrArg Value.bool (decide_eq_true hne))) ?_
  refine pM ?_
  refine gM 49 ?_
  refine g_drop 49 rfl rfl ?_
  refine o_call Tryz.func105 fn105 fb105 (store_there g gd r _ _ μ pi nx ni ci _ _ hCX hGd.ok nNew) rfl ?_
  rintro v25 w25 ⟨⟨bz, rfl, hbz⟩, hE25⟩
  have hX := hX.ext hE25
  have hCX := hCX.ext hE25
  have hb := hb.ext hE25
  have hg := hg.ext hE25
  refine p1 (x_pick_t rfl (by conv => lhs; whnf)) ?_
  refine p1b (x_move (by conv => lhs; whnf)) (fun hb6_6 => ?_) (fun hb6_6 => ?_)
  ·try simp only [dA, dB, dC, dD, dE, dF, dG, Int.not_lt, Int.not_le] at hb6_6
   refine gM 53 ?_
   refine Eng.g1 53 rfl rfl (x_nilCheck rfl) ?_
   refine Eng.g1 53 rfl rfl (x_fieldAddr fo91_0 sz34 rfl) ?_
   refine Eng.g1 53 rfl rfl (x_load1 un34 rfl (hb.cell (rfl))) ?_
   refine g_drop 53 rfl rfl ?_
   have hXs := hX.size
   refine o_call Tryz.func95 fn95 fb95 (disk_Remove gd _ _ _ hCX.d hGd.ok (Nat.lt_of_le_of_lt hGd.steps (by omega)) hGd.left nNew (by decide)) rfl ?_
   rintro v26 w26 ⟨rfl, hD2, hM2⟩
   have hX := hX.stepE hM2 (sub_old hCX)
   have hg := hg.modS hM2 (fun k hk => (hCX.sub k hk).elim (hS k) fun q => Nat.le_trans hgs q)
   have hCX := hCX.stepD hXs hM2 hD2
   have hb : Blk w26 g (stoV gd C pi ni ci r nx) tSto := hCX.b
   have hGd := good_remove hGd nNew
   refine Eng.g1 53 rfl rfl (x_neq rfl rfl) ?_
   refine p1 (x_pick_t rfl (by conv => lhs; whnf)) ?_
   refine r_nil (t_n ?_)
   first | refine c_dec rfl (fun hc60 => ?_) (fun hc60 => ?_) | refine c_if rfl (fun hc60 => ?_) (fun hc60 => ?_)
   ·try simp only [dA, dB, dC, dD, dE, dF, dG, Int.not_lt, Int.not_le] at hc60
    have hq := undoC_badR hne (st2_err hU (hbz.1 hb6_6) hc60) hc60
    refine r_plain ?_
    refine pA ?_
    refine r_nil (t_n (c_seq (r_plain ?_)))
    refine pM ?_
    refine p1 (x_nilCheck rfl) ?_
    refine p1 (x_fieldAddr fo91_1 sz3 rfl) ?_
    refine p1 (x_load1 un3 rfl (hb.cell (rfl))) ?_
    refine p1 ((x_add rfl rfl (fits_i64 (by omega) (by omega))).cast (congrArg (Value.int .i64) (by omega : _ = ((C.seg + 1 : Nat) : Int)))) ?_
    refine o_call Tryz.func49 fn49 fb49 (segment_Name ((C.seg + 1 : Nat) : Int) _ hg.l) rfl ?_
    rintro v27 w27 ⟨rfl, hE27⟩
    have hX := hX.ext hE27
    have hCX := hCX.ext hE27
    have hb := hb.ext hE27
    have hg := hg.ext hE27
    refine pA ?_
    refine r_nil (t_n (c_seq (r_plain ?_)))
    refine pM ?_
    refine p1 ((x_neq rfl rfl).cast (congrArg Value.bool (decide_eq_false (by simp)))) ?_
    refine pM ?_
    refine gF 69 ?_
    refine p1 (x_pick_f rfl (by conv => lhs; whnf)) ?_
    refine pM ?_
    refine gF 72 ?_
    refine gF 72 ?_
    refine gF 72 ?_
    refine p1 (x_pick_f rfl (by conv => lhs; whnf)) ?_
    refine pM ?_
    refine gF 77 ?_
    refine gF 77 ?_
    refine gF 77 ?_
    refine gF 77 ?_
    refine gF 77 ?_
    refine gF 77 ?_
    refine gF 77 ?_
    refine p1 (x_pick_f rfl (by conv => lhs; whnf)) ?_
    refine r_nil (t_n ?_)
    refine c_f rfl ?_
    try have hq := undoC_goodR hne (st3_yes hU3 (hbz2.1 hb9_10)) (by omega)
    refine c_skip (t_n (c_seq (c_block (c_seq (r_plain ?_)))))
    refine pM ?_
    refine p1 ((x_eql rfl rfl).cast (congrArg Value.bool (decide_eq_true rfl))) ?_
    refine pA ?_
    refine r_nil (t_n ?_)
    refine c_t rfl ?_
    refine r_plain ?_
    refine pM ?_
    refine p1 (x_nilCheck rfl) ?_
    refine p1 (x_fieldAddr fo91_6 sz4 rfl) ?_
    refine o_store1 rfl (by conv => lhs; whnf) rfl rfl sz4 hb (by show _ < 7; omega) ?_
    intro w28 hP28
    have hX := hX.put hP28 (⟨.inl hsg, by decide⟩)
    have hb := hP28.blk
    try simp only [List.setIfInBounds_toArray, List.set_cons_zero, List.set_cons_succ] at hb
    have hCY := CstX.laid (C' := { ({ C with D := _ } : CS) with dead := true }) hCX hP28 rfl rfl (hCX.i.one hP28.one (by decide)) (.inl ⟨rfl, rfl⟩)
    refine r_nil (b_n (t_n (c_seq (r_plain ?_))))
    refine pM ?_
    refine pA ?_
    refine r_nil (t_n (c_ret ?_))
    refine eR1 ?_
    first
      | (rw [hq]; exact ⟨rfl, hCY.done, hX⟩)
      | (rw [hq]; exact ⟨rfl, hCX.done, hX⟩)
   try simp only [dA, dB, dC, dD, dE, dF, dG, Int.not_lt, Int.not_le] at hc60
   try have hU3 := st2_ok hU (hbz.1 hb6_6) (by omega)
   refine c_skip (t_n (c_seq (r_plain ?_)))
   refine pM ?_
   refine p1 (x_nilCheck rfl) ?_
   refine p1 (x_fieldAddr fo91_1 sz3 rfl) ?_
   refine p1 (x_load1 un3 rfl (hb.cell (rfl))) ?_
   refine p1 ((x_add rfl rfl (fits_i64 (by omega) (by omega))).cast (congrArg (Value.int .i64) (by omega : _ = ((C.seg + 1 : Nat) : Int)))) ?_
   refine o_call Tryz.func49 fn49 fb49 (segment_Name ((C.seg + 1 : Nat) : Int) _ hg.l) rfl ?_
   rintro v29 w29 ⟨rfl, hE29⟩
   have hX := hX.ext hE29
   have hCX := hCX.ext hE29
   have hb := hb.ext hE29
   have hg := hg.ext hE29
   refine pA ?_
   refine r_nil (t_n (c_seq (r_plain ?_)))
   refine pM ?_
   refine p1 ((x_neq rfl rfl).cast (congrArg Value.bool (decide_eq_true hne))) ?_
   refine pM ?_
   refine gM 69 ?_
   refine p1 (x_pick_t rfl (by conv => lhs; whnf)) ?_
   refine pM ?_
   refine gM 72 ?_
   refine gM 72 ?_
   refine g_drop 72 rfl rfl ?_
   refine o_call Tryz.func105 fn105 fb105 (store_there g gd r _ _ μ pi nx ni ci _ _ hCX hGd.ok (nSeg (C.seg + 1))) rfl ?_
   rintro v30 w30 ⟨⟨bz2, rfl, hbz2⟩, hE30⟩
   have hX := hX.ext hE30
   have hCX := hCX.ext hE30
   have hb := hb.ext hE30
   have hg := hg.ext hE30
   refine p1 (x_pick_t rfl (by conv => lhs; whnf)) ?_
   refine p1b (x_move (by conv => lhs; whnf)) (fun hb9_10 => ?_) (fun hb9_10 => ?_)
   ·try simp only [dA, dB, dC, dD, dE, dF, dG, Int.not_lt, Int.not_le] at hb9_10
    refine gM 77 ?_
    refine Eng.g1 77 rfl rfl (x_nilCheck rfl) ?_
    refine Eng.g1 77 rfl rfl (x_fieldAddr fo91_0 sz34 rfl) ?_
    refine Eng.g1 77 rfl rfl (x_load1 un34 rfl (hb.cell (rfl))) ?_
    refine gM 77 ?_
    refine g_drop 77 rfl rfl ?_
    have hXs := hX.size
    refine o_call Tryz.func95 fn95 fb95 (disk_Remove gd _ _ _ hCX.d hGd.ok (Nat.lt_of_le_of_lt hGd.steps (by omega)) hGd.left (nSeg (C.seg + 1)) (nSeg_size _)) rfl ?_
    rintro v31 w31 ⟨rfl, hD2, hM2⟩
    have hX := hX.stepE hM2 (sub_old hCX)
    have hg := hg.modS hM2 (fun k hk => (hCX.sub k hk).elim (hS k) fun q => Nat.le_trans hgs q)
    have hCX := hCX.stepD hXs hM2 hD2
    have hb : Blk w31 g (stoV gd C pi ni ci r nx) tSto := hCX.b
    have hGd := good_remove hGd (nSeg (C.seg + 1))
    refine Eng.g1 77 rfl rfl (x_neq rfl rfl) ?_
    refine p1 (x_pick_t rfl (by conv => lhs; whnf)) ?_
    refine r_nil (t_n ?_)
    first | refine c_dec rfl (fun hc85 => ?_) (fun hc85 => ?_) | refine c_if rfl (fun hc85 => ?_) (fun hc85 => ?_)
    ·try simp only [dA, dB, dC, dD, dE, dF, dG, Int.not_lt, Int.not_le] at hc85
     have hq := undoC_badR hne (st3_yes hU3 (hbz2.1 hb9_10)) hc85
     refine r_plain ?_
     refine pA ?_
     refine r_nil (t_n (c_seq (c_block (c_seq (r_plain ?_)))))
     refine pM ?_
     refine p1 ((x_eql rfl rfl).cast (congrArg Value.bool (decide_eq_true rfl))) ?_
     refine pA ?_
     refine r_nil (t_n ?_)
     refine c_t rfl ?_
     refine r_plain ?_
     refine pM ?_
     refine p1 (x_nilCheck rfl) ?_
     refine p1 (x_fieldAddr fo91_6 sz4 rfl) ?_
     refine o_store1 rfl (by conv => lhs; whnf) rfl rfl sz4 hb (by show _ < 7; omega) ?_
     intro w32 hP32
     have hX := hX.put hP32 (⟨.inl hsg, by decide⟩)
     have hb := hP32.blk
     try simp only [List.setIfInBounds_toArray, List.set_cons_zero, List.set_cons_succ] at hb
     have hCY := CstX.laid (C' := { ({ C with D := _ } : CS) with dead := true }) hCX hP32 rfl rfl (hCX.i.one hP32.one (by decide)) (.inl ⟨rfl, rfl⟩)
     refine r_nil (b_n (t_n (c_seq (r_plain ?_))))
     refine pM ?_
     refine pA ?_
     refine r_nil (t_n (c_ret ?_))
     refine eR1 ?_
     first
       | (rw [hq]; exact ⟨rfl, hCY.done, hX⟩)
       | (rw [hq]; exact ⟨rfl, hCX.done, hX⟩)
    try simp only [dA, dB, dC, dD, dE, dF, dG, Int.not_lt, Int.not_le] at hc85
    try have hq := undoC_goodR hne (st3_yes hU3 (hbz2.1 hb9_10)) (by omega)
    refine c_skip (t_n (c_seq (c_block (c_seq (r_plain ?_)))))
    refine pM ?_
    refine p1 ((x_eql rfl rfl).cast (congrArg Value.bool (decide_eq_false hne))) ?_
    refine pA ?_
    refine r_nil (t_n ?_)
    refine c_f rfl ?_
    refine c_seq (r_plain ?_)
    refine pM ?_
    refine pA ?_
    refine r_nil (t_n ?_)
    refine c_t (rfl) ?_
    refine r_plain ?_
    refine pM ?_
    refine p1 (x_nilCheck rfl) ?_
    refine p1 (x_fieldAddr fo91_5 sz89 rfl) ?_
    refine o_store1 rfl (by conv => lhs; whnf) rfl rfl sz89 hb (by show _ < 7; omega) ?_
    intro w33 hP33
    have hX := hX.put hP33 (⟨.inl hsg, by decide⟩)
    have hb := hP33.blk
    try simp only [List.setIfInBounds_toArray, List.set_cons_zero, List.set_cons_succ] at hb
    have hCY := CstX.laid (C' := { ({ C with D := _ } : CS) with next := none }) hCX hP33 rfl rfl (hCX.i.one hP33.one (by decide)) (.inr ⟨rfl, rfl⟩)
    refine r_nil (b_n (t_n (c_seq (r_plain ?_))))
    refine pM ?_
    refine pA ?_
    refine r_nil (t_n (c_ret ?_))
    refine eR1 ?_
    first
      | (rw [hq]; exact ⟨rfl, hCY.done, hX⟩)
      | (rw [hq]; exact ⟨rfl, hCX.done, hX⟩)
   try simp only [dA, dB, dC, dD, dE, dF, dG, Int.not_lt, Int.not_le] at hb9_10
   have hq := undoC_goodR hne (st3_no hU3 (fun h => by have := hbz2.2 h; simp_all)) rfl
   refine gF 77 ?_
   refine gF 77 ?_
   refine gF 77 ?_
   refine gF 77 ?_
   refine gF 77 ?_
   refine gF 77 ?_
   refine gF 77 ?_
   refine p1 (x_pick_f rfl (by conv => lhs; whnf)) ?_
   refine r_nil (t_n ?_)
   refine c_f rfl ?_
   try have hq := undoC_goodR hne (st3_yes hU3 (hbz2.1 hb9_10)) (by omega)
   refine c_skip (t_n (c_seq (c_block (c_seq (r_plain ?_)))))
   refine pM ?_
   refine p1 ((x_eql rfl rfl).cast (congrArg Value.bool (decide_eq_false hne))) ?_
   refine pA ?_
   refine r_nil (t_n ?_)
   refine c_f rfl ?_
   refine c_seq (r_plain ?_)
   refine pM ?_
   refine pA ?_
   refine r_nil (t_n ?_)
   refine c_t (rfl) ?_
   refine r_plain ?_
   refine pM ?_
   refine p1 (x_nilCheck rfl) ?_
   refine p1 (x_fieldAddr fo91_5 sz89 rfl) ?_
   refine o_store1 rfl (by conv => lhs; whnf) rfl rfl sz89 hb (by show _ < 7; omega) ?_
   intro w34 hP34
   have hX := hX.put hP34 (⟨.inl hsg, by decide⟩)
   have hb := hP34.blk
   try simp only [List.setIfInBounds_toArray, List.set_cons_zero, List.set_cons_succ] at hb
   have hCY := CstX.laid (C' := { ({ C with D := _ } : CS) with next := none }) hCX hP34 rfl rfl (hCX.i.one hP34.one (by decide)) (.inr ⟨rfl, rfl⟩)
   refine r_nil (b_n (t_n (c_seq (r_plain ?_))))
   refine pM ?_
   refine pA ?_
   refine r_nil (t_n (c_ret ?_))
   refine eR1 ?_
   first
     | (rw [hq]; exact ⟨rfl, hCY.done, hX⟩)
     | (rw [hq]; exact ⟨rfl, hCX.done, hX⟩)
  try simp only [dA, dB, dC, dD, dE, dF, dG, Int.not_lt, Int.not_le] at hb6_6
  have hU3 := st2_no hU (fun h => by have := hbz.2 h; simp_all)
  refine gF 53 ?_
  refine gF 53 ?_
  refine gF 53 ?_
  refine gF 53 ?_
  refine gF 53 ?_
  refine gF 53 ?_
  refine p1 (x_pick_f rfl (by conv => lhs; whnf)) ?_
  refine r_nil (t_n ?_)
  refine c_f rfl ?_
  try have hU3 := st2_ok hU (hbz.1 hb6_6) (by omega)
  refine c_skip (t_n (c_seq (r_plain ?_)))
  refine pM ?_
  refine p1 (x_nilCheck rfl) ?_
  refine p1 (x_fieldAddr fo91_1 sz3 rfl) ?_
  refine p1 (x_load1 un3 rfl (hb.cell (rfl))) ?_
  refine p1 ((x_add rfl rfl (fits_i64 (by omega) (by omega))).cast (congrArg (Value.int .i64) (by omega : _ = ((C.seg + 1 : Nat) : Int)))) ?_
  refine o_call Tryz.func49 fn49 fb49 (segment_Name ((C.seg + 1 : Nat) : Int) _ hg.l) rfl ?_
  rintro v35 w35 ⟨rfl, hE35⟩
  have hX := hX.ext hE35
  have hCX := hCX.ext hE35
  have hb := hb.ext hE35
  have hg := hg.ext hE35
  refine pA ?_
  refine r_nil (t_n (c_seq (r_plain ?_)))
  refine pM ?_
  refine p1 ((x_neq rfl rfl).cast (congrArg Value.bool (decide_eq_true hne))) ?_
  refine pM ?_
  refine gM 69 ?_
  refine p1 (x_pick_t rfl (by conv => lhs; whnf)) ?_
  refine pM ?_
  refine gM 72 ?_
  refine gM 72 ?_
  refine g_drop 72 rfl rfl ?_
  refine o_call Tryz.func105 fn105 fb105 (store_there g gd r _ _ μ pi nx ni ci _ _ hCX hGd.ok (nSeg (C.seg + 1))) rfl ?_
  rintro v36 w36 ⟨⟨bz2, rfl, hbz2⟩, hE36⟩
  have hX := hX.ext hE36
  have hCX := hCX.ext hE36
  have hb := hb.ext hE36
  have hg := hg.ext hE36
  refine p1 (x_pick_t rfl (by conv => lhs; whnf)) ?_
  refine p1b (x_move (by conv => lhs; whnf)) (fun hb9_10 => ?_) (fun hb9_10 => ?_)
  ·try simp only [dA, dB, dC, dD, dE, dF, dG, Int.not_lt, Int.not_le] at hb9_10
   refine gM 77 ?_
   refine Eng.g1 77 rfl rfl (x_nilCheck rfl) ?_
   refine Eng.g1 77 rfl rfl (x_fieldAddr fo91_0 sz34 rfl) ?_
   refine Eng.g1 77 rfl rfl (x_load1 un34 rfl (hb.cell (rfl))) ?_
   refine gM 77 ?_
   refine g_drop 77 rfl rfl ?_
   have hXs := hX.size
   refine o_call Tryz.func95 fn95 fb95 (disk_Remove gd _ _ _ hCX.d hGd.ok (Nat.lt_of_le_of_lt hGd.steps (by omega)) hGd.left (nSeg (C.seg + 1)) (nSeg_size _)) rfl ?_
   rintro v37 w37 ⟨rfl, hD2, hM2⟩
   have hX := hX.stepE hM2 (sub_old hCX)
   have hg := hg.modS hM2 (fun k hk => (hCX.sub k hk).elim (hS k) fun q => Nat.le_trans hgs q)
   have hCX := hCX.stepD hXs hM2 hD2
   have hb : Blk w37 g (stoV gd C pi ni ci r nx) tSto := hCX.b
   have hGd := good_remove hGd (nSeg (C.seg + 1))
   refine Eng.g1 77 rfl rfl (x_neq rfl rfl) ?_
   refine p1 (x_pick_t rfl (by conv => lhs; whnf)) ?_
   refine r_nil (t_n ?_)
   first | refine c_dec rfl (fun hc85 => ?_) (fun hc85 => ?_) | refine c_if rfl (fun hc85 => ?_) (fun hc85 => ?_)
   ·try simp only [dA, dB, dC, dD, dE, dF, dG, Int.not_lt, Int.not_le] at hc85
    have hq := undoC_badR hne (st3_yes hU3 (hbz2.1 hb9_10)) hc85
    refine r_plain ?_
    refine pA ?_
    refine r_nil (t_n (c_seq (c_block (c_seq (r_plain ?_)))))
    refine pM ?_
    refine p1 ((x_eql rfl rfl).cast (congrArg Value.bool (decide_eq_true rfl))) ?_
    refine pA ?_
    refine r_nil (t_n ?_)
    refine c_t rfl ?_
    refine r_plain ?_
    refine pM ?_
    refine p1 (x_nilCheck rfl) ?_
    refine p1 (x_fieldAddr fo91_6 sz4 rfl) ?_
    refine o_store1 rfl (by conv => lhs; whnf) rfl rfl sz4 hb (by show _ < 7; omega) ?_
    intro w38 hP38
    have hX := hX.put hP38 (⟨.inl hsg, by decide⟩)
    have hb := hP38.blk
    try simp only [List.setIfInBounds_toArray, List.set_cons_zero, List.set_cons_succ] at hb
    have hCY := CstX.laid (C' := { ({ C with D := _ } : CS) with dead := true }) hCX hP38 rfl rfl (hCX.i.one hP38.one (by decide)) (.inl ⟨rfl, rfl⟩)
    refine r_nil (b_n (t_n (c_seq (r_plain ?_))))
    refine pM ?_
    refine pA ?_
    refine r_nil (t_n (c_ret ?_))
    refine eR1 ?_
    first
      | (rw [hq]; exact ⟨rfl, hCY.done, hX⟩)
      | (rw [hq]; exact ⟨rfl, hCX.done, hX⟩)
   try simp only [dA, dB, dC, dD, dE, dF, dG, Int.not_lt, Int.not_le] at hc85
   try have hq := undoC_goodR hne (st3_yes hU3 (hbz2.1 hb9_10)) (by omega)
   refine c_skip (t_n (c_seq (c_block (c_seq (r_plain ?_)))))
   refine pM ?_
   refine p1 ((x_eql rfl rfl).cast (congrArg Value.bool (decide_eq_false hne))) ?_
   refine pA ?_
   refine r_nil (t_n ?_)
   refine c_f rfl ?_
   refine c_seq (r_plain ?_)
   refine pM ?_
   refine pA ?_
   refine r_nil (t_n ?_)
   refine c_t (rfl) ?_
   refine r_plain ?_
   refine pM ?_
   refine p1 (x_nilCheck rfl) ?_
   refine p1 (x_fieldAddr fo91_5 sz89 rfl) ?_
   refine o_store1 rfl (by conv => lhs; whnf) rfl rfl sz89 hb (by show _ < 7; omega) ?_
   intro w39 hP39
   have hX := hX.put hP39 (⟨.inl hsg, by decide⟩)
   have hb := hP39.blk
   try simp only [List.setIfInBounds_toArray, List.set_cons_zero, List.set_cons_succ] at hb
   have hCY := CstX.laid (C' := { ({ C with D := _ } : CS) with next := none }) hCX hP39 rfl rfl (hCX.i.one hP39.one (by decide)) (.inr ⟨rfl, rfl⟩)
   refine r_nil (b_n (t_n (c_seq (r_plain ?_))))
   refine pM ?_
   refine pA ?_
   refine r_nil (t_n (c_ret ?_))
   refine eR1 ?_
   first
     | (rw [hq]; exact ⟨rfl, hCY.done, hX⟩)
     | (rw [hq]; exact ⟨rfl, hCX.done, hX⟩)
  try simp only [dA, dB, dC, dD, dE, dF, dG, Int.not_lt, Int.not_le] at hb9_10
  have hq := undoC_goodR hne (st3_no hU3 (fun h => by have := hbz2.2 h; simp_all)) rfl
  refine gF 77 ?_
  refine gF 77 ?_
  refine gF 77 ?_
  refine gF 77 ?_
  refine gF 77 ?_
  refine gF 77 ?_
  refine gF 77 ?_
  refine p1 (x_pick_f rfl (by conv => lhs; whnf)) ?_
  refine r_nil (t_n ?_)
  refine c_f rfl ?_
  try have hq := undoC_goodR hne (st3_yes hU3 (hbz2.1 hb9_10)) (by omega)
  refine c_skip (t_n (c_seq (c_block (c_seq (r_plain ?_)))))
  refine pM ?_
  refine p1 ((x_eql rfl rfl).cast (congrArg Value.bool (decide_eq_false hne))) ?_
  refine pA ?_
  refine r_nil (t_n ?_)
  refine c_f rfl ?_
  refine c_seq (r_plain ?_)
  refine pM ?_
  refine pA ?_
  refine r_nil (t_n ?_)
  refine c_t (rfl) ?_
  refine r_plain ?_
  refine pM ?_
  refine p1 (x_nilCheck rfl) ?_
  refine p1 (x_fieldAddr fo91_5 sz89 rfl) ?_
  refine o_store1 rfl (by conv => lhs; whnf) rfl rfl sz89 hb (by show _ < 7; omega) ?_
  intro w40 hP40
  have hX := hX.put hP40 (⟨.inl hsg, by decide⟩)
  have hb := hP40.blk
  try simp only [List.setIfInBounds_toArray, List.set_cons_zero, List.set_cons_succ] at hb
  have hCY := CstX.laid (C' := { ({ C with D := _ } : CS) with next := none }) hCX hP40 rfl rfl (hCX.i.one hP40.one (by decide)) (.inr ⟨rfl, rfl⟩)
  refine r_nil (b_n (t_n (c_seq (r_plain ?_))))
  refine pM ?_
  refine pA ?_
  refine r_nil (t_n (c_ret ?_))
  refine eR1 ?_
  first
    | (rw [hq]; exact ⟨rfl, hCY.done, hX⟩)
    | (rw [hq]; exact ⟨rfl, hCX.done, hX⟩)
 try simp only [dA, dB, dC, dD, dE, dF, dG, Int.not_lt, Int.not_le] at hc11
 exact absurd hc11 (by simpa using hne)
theorem store_undo_false (g gd r : Nat) (S Sd : Nat → Prop) (μ : Hash → Option R3) (pi nx : Option Addr) (ni ci : Nat) (C : CS) (k : Nat) (w : World) (hCX : CstX S Sd w g gd r μ pi ni ci nx C) (hn : CN C k) (hS : ∀ j, S j → 6 ≤ j) (hg : Gt w) (hk : k < 4611686018427300000) (e : Int) (hne : e ≠ 20) :
    Ret Tryz.prog 57 [.pointer (some ⟨g, 0, none⟩), .int .i64 e, .bool false] w (fun v w' => v = .int .i64 (undoC C e false).2 ∧ Cst (grow S w w') w' g gd (undoC C e false).1 ∧ ModS S EC w w') := by
 have hgs := hg.size
 have hsg := hCX.sg
 have hGd := hn.good
 have hhi := hn.hi
 have hsz := hn.sz
 have hCX := hCX.start
 have hb := hCX.b
 have hX := ModS.refl S EC w
 refine eN 98 Tryz.func57 ?_
 refine c_seq (r_plain ?_)
 refine pA ?_
 refine r_nil (t_n (c_seq (c_seq (r_plain ?_))))
 refine pM ?_
 refine p1 (x_neq rfl rfl) ?_
 refine r_nil (t_n ?_)
 first | refine c_dec rfl (fun hc11 => ?_) (fun hc11 => ?_) | refine c_if rfl (fun hc11 => ?_) (fun hc11 => ?_)
 ·try simp only [dA, dB, dC, dD, dE, dF, dG, Int.not_lt, Int.not_le] at hc11
  refine c_seq (c_seq ?_)
  refine r_held (fun w1 w2 => Ext w1 w2) mixed ?_
  intro w1 hE1
  have hX := hX.ext hE1
  have hCX := hCX.ext hE1
  have hb := hb.ext hE1
  have hg := hg.ext hE1
  have hSr2 : (fun w1 w2 => Ext w1 w2) w1 w1 := Ext.refl w1
  refine hT 0 rfl hSr2 (fun wS hSS => by (exact (x_move (by conv => lhs; whnf)))) ?_
  refine hT 1 rfl hSr2 (fun wS hSS => by (exact (x_nilCheck rfl))) ?_
  refine hT 2 rfl hSr2 (fun wS hSS => by (exact (x_fieldAddr fo91_0 sz34 rfl))) ?_
  refine hT 3 rfl hSr2 (fun wS hSS => by (have hb := hb.ext hSS; exact (x_load1 un34 rfl (hb.cell (rfl))))) ?_
  refine hT 4 rfl hSr2 (fun wS hSS => by (exact (x_move (by conv => lhs; whnf)))) ?_
  refine hT 5 rfl hSr2 (fun wS hSS => by (exact (x_nilCheck rfl))) ?_
  refine hT 6 rfl hSr2 (fun wS hSS => by (exact (x_fieldAddr fo91_1 sz3 rfl))) ?_
  refine hT 7 rfl hSr2 (fun wS hSS => by (have hb := hb.ext hSS; exact (x_load1 un3 rfl (hb.cell (rfl))))) ?_
  refine h1L 8 (fun Q8 hQ8 => ?_)
  refine o_call Tryz.func49 fn49 fb49 (segment_Name (C.seg : Int) _ hg.l) rfl ?_
  rintro v2 w2 ⟨rfl, hE2⟩
  have hX := hX.ext hE2
  have hCX := hCX.ext hE2
  have hb := hb.ext hE2
  have hg := hg.ext hE2
  have hSr2 := hSr2.ext hE2
  refine hop_end hQ8 ⟨hSr2, ?_⟩
  refine h1L 9 (fun Q9 hQ9 => ?_)
  refine o_call Tryz.func37 fn37 fb37 (disk_Read gd _ C.D _ hCX.d hn.good.ok (nSeg C.seg) (nSeg_size _)) rfl ?_
  rintro v3 w3 ⟨⟨qb, nb, cb, rfl, hO⟩, hE3⟩
  have hX := hX.ext hE3
  have hCX := hCX.ext hE3
  have hb := hb.ext hE3
  have hg := hg.ext hE3
  have hSr2 := hSr2.ext hE3
  have hOl := hO.len
  have hOc := hO.sl.cap
  have hOf := hO.sl.fit
  refine hop_end hQ9 ⟨hSr2, ?_⟩
  refine hT 10 rfl hSr2 (fun wS hSS => by (exact (x_move (by conv => lhs; whnf)))) ?_
  refine hT 11 rfl hSr2 (fun wS hSS => by (exact (x_extract rfl rfl))) ?_
  refine hT 12 rfl hSr2 (fun wS hSS => by (exact (x_extract rfl rfl))) ?_
  refine hT 13 rfl hSr2 (fun wS hSS => by (exact (x_assign (by conv => lhs; whnf)))) ?_
  refine hT 14 rfl hSr2 (fun wS hSS => by (exact (x_assign (by conv => lhs; whnf)))) ?_
  refine h_done (by kernel_rfl) ?_
  refine t_n (c_seq (r_plain ?_))
  refine pM ?_
  refine p1 (x_len_slice u23 rfl) ?_
  refine pM ?_
  refine p1 (x_nilCheck rfl) ?_
  refine p1 (x_fieldAddr fo91_2 sz3 rfl) ?_
  refine p1 (x_load1 un3 rfl (hb.cell (rfl))) ?_
  refine p1 (x_gtr rfl rfl) ?_
  refine r_nil (t_n ?_)
  first | refine c_dec rfl (fun hc31 => ?_) (fun hc31 => ?_) | refine c_if rfl (fun hc31 => ?_) (fun hc31 => ?_)
  ·try simp only [dA, dB, dC, dD, dE, dF, dG, Int.not_lt, Int.not_le] at hc31
   have hlt := (by omega : C.size < (readD C.D (nSeg C.seg)).1.length)
   refine c_seq ?_
   refine r_held (fun w1 w2 => ModS (fun _ => True) ED w1 w2) mixed ?_
   intro w4 hE4
   have hX := hX.ext hE4
   have hCX := hCX.ext hE4
   have hb := hb.ext hE4
   have hg := hg.ext hE4
   have hSr4 : (fun w1 w2 => ModS (fun _ => True) ED w1 w2) w4 w4 := ModS.refl (fun _ => True) ED _
   refine hT 0 rfl hSr4 (fun wS hSS => by (exact (x_move (by conv => lhs; whnf)))) ?_
   refine hT 1 rfl hSr4 (fun wS hSS => by (exact (x_nilCheck rfl))) ?_
   refine hT 2 rfl hSr4 (fun wS hSS => by (exact (x_fieldAddr fo91_0 sz34 rfl))) ?_
   refine hT 3 rfl hSr4 (fun wS hSS => by (have hb := hb.modS hSS (.inr (by decide)); exact (x_load1 un34 rfl (hb.cell (rfl))))) ?_
   refine hT 4 rfl hSr4 (fun wS hSS => by (exact (x_move (by conv => lhs; whnf)))) ?_
   refine hT 5 rfl hSr4 (fun wS hSS => by (exact (x_nilCheck rfl))) ?_
   refine hT 6 rfl hSr4 (fun wS hSS => by (exact (x_fieldAddr fo91_1 sz3 rfl))) ?_
   refine hT 7 rfl hSr4 (fun wS hSS => by (have hb := hb.modS hSS (.inr (by decide)); exact (x_load1 un3 rfl (hb.cell (rfl))))) ?_
   refine hT 9 rfl hSr4 (fun wS hSS => by (exact (x_move (by conv => lhs; whnf)))) ?_
   refine hT 10 rfl hSr4 (fun wS hSS => by (exact (x_nilCheck rfl))) ?_
   refine hT 11 rfl hSr4 (fun wS hSS => by (exact (x_fieldAddr fo91_2 sz3 rfl))) ?_
   refine hT 12 rfl hSr4 (fun wS hSS => by (have hb := hb.modS hSS (.inr (by decide)); exact (x_load1 un3 rfl (hb.cell (rfl))))) ?_
   refine h1L 8 (fun Q8 hQ8 => ?_)
   refine o_call Tryz.func49 fn49 fb49 (segment_Name (C.seg : Int) _ hg.l) rfl ?_
   rintro v5 w5 ⟨rfl, hE5⟩
   have hX := hX.ext hE5
   have hCX := hCX.ext hE5
   have hb := hb.ext hE5
   have hg := hg.ext hE5
   have hSr4 := hSr4.ext hE5
   refine hop_end hQ8 ⟨hSr4, ?_⟩
   refine h1L 13 (fun Q13 hQ13 => ?_)
   have hXs := hX.size
   refine o_call Tryz.func94 fn94 fb94 (disk_Cut gd _ _ _ hCX.d hGd.ok (Nat.lt_of_le_of_lt hGd.steps (by omega)) hGd.left (nSeg C.seg) (nSeg_size _) (C.size : Int) (by omega) (by omega)) rfl ?_
   rintro v6 w6 ⟨rfl, hD2, hM2⟩
   have hX := hX.stepE hM2 (sub_old hCX)
   have hg := hg.modS hM2 (fun k hk => (hCX.sub k hk).elim (hS k) fun q => Nat.le_trans hgs q)
   have hCX := hCX.stepD hXs hM2 hD2
   have hb : Blk w6 g (stoV gd C pi ni ci r nx) tSto := hCX.b
   have hGd := good_cut hGd (nSeg C.seg) (C.size : Int)
   have hSr4 := hSr4.trans (hM2.mono fun _ _ _ => trivial) (fun _ _ h => h)
   refine hop_end hQ13 ⟨hSr4, ?_⟩
   refine hT 14 rfl hSr4 (fun wS hSS => by (exact (x_neq rfl rfl))) ?_
   refine h_done (by kernel_rfl) ?_
   refine t_n ?_
   first | refine c_dec rfl (fun hc46 => ?_) (fun hc46 => ?_) | refine c_if rfl (fun hc46 => ?_) (fun hc46 => ?_)
   ·try simp only [dA, dB, dC, dD, dE, dF, dG, Int.not_lt, Int.not_le] at hc46
    have hq := undoC_badR hne (st1_err (step := false) hlt hc46) hc46
    refine r_plain ?_
    refine pA ?_
    refine r_nil (t_n (c_seq (c_seq (r_plain ?_))))
    refine pM ?_
    refine p1 ((x_neq rfl rfl).cast (congrArg Value.bool (decide_eq_false (by simp)))) ?_
    refine pM ?_
    refine gF 49 ?_
    refine gF 49 ?_
    refine p1 (x_pick_f rfl (by conv => lhs; whnf)) ?_
    refine pM ?_
    refine gF 53 ?_
    refine gF 53 ?_
    refine gF 53 ?_
    refine gF 53 ?_
    refine gF 53 ?_
    refine gF 53 ?_
    refine p1 (x_pick_f rfl (by conv => lhs; whnf)) ?_
    refine r_nil (t_n ?_)
    refine c_f rfl ?_
    try have hU3 := st2_ok hU (hbz.1 hb6_6) (by omega)
    refine c_skip (t_n (c_seq (r_plain ?_)))
    refine pM ?_
    refine p1 (x_nilCheck rfl) ?_
    refine p1 (x_fieldAddr fo91_1 sz3 rfl) ?_
    refine p1 (x_load1 un3 rfl (hb.cell (rfl))) ?_
    refine p1 ((x_add rfl rfl (fits_i64 (by omega) (by omega))).cast (congrArg (Value.int .i64) (by omega : _ = ((C.seg + 1 : Nat) : Int)))) ?_
    refine o_call Tryz.func49 fn49 fb49 (segment_Name ((C.seg + 1 : Nat) : Int) _ hg.l) rfl ?_
    rintro v7 w7 ⟨rfl, hE7⟩
    have hX := hX.ext hE7
    have hCX := hCX.ext hE7
    have hb := hb.ext hE7
    have hg := hg.ext hE7
    refine pA ?_
    refine r_nil (t_n (c_seq (r_plain ?_)))
    refine pM ?_
    refine p1 ((x_neq rfl rfl).cast (congrArg Value.bool (decide_eq_false (by simp)))) ?_
    refine pM ?_
    refine gF 69 ?_
    refine p1 (x_pick_f rfl (by conv => lhs; whnf)) ?_
    refine pM ?_
    refine gF 72 ?_
    refine gF 72 ?_
    refine gF 72 ?_
    refine p1 (x_pick_f rfl (by conv => lhs; whnf)) ?_
    refine pM ?_
    refine gF 77 ?_
    refine gF 77 ?_
    refine gF 77 ?_
    refine gF 77 ?_
    refine gF 77 ?_
    refine gF 77 ?_
    refine gF 77 ?_
    refine p1 (x_pick_f rfl (by conv => lhs; whnf)) ?_
    refine r_nil (t_n ?_)
    refine c_f rfl ?_
    try have hq := undoC_goodR hne (st3_f hU3) rfl
    refine c_skip (t_n (c_seq (c_block (c_seq (r_plain ?_)))))
    refine pM ?_
    refine p1 ((x_eql rfl rfl).cast (congrArg Value.bool (decide_eq_true rfl))) ?_
    refine pA ?_
    refine r_nil (t_n ?_)
    refine c_t rfl ?_
    refine r_plain ?_
    refine pM ?_
    refine p1 (x_nilCheck rfl) ?_
    refine p1 (x_fieldAddr fo91_6 sz4 rfl) ?_
    refine o_store1 rfl (by conv => lhs; whnf) rfl rfl sz4 hb (by show _ < 7; omega) ?_
    intro w8 hP8
    have hX := hX.put hP8 (⟨.inl hsg, by decide⟩)
    have hb := hP8.blk
    try simp only [List.setIfInBounds_toArray, List.set_cons_zero, List.set_cons_succ] at hb
    have hCY := CstX.laid (C' := { ({ C with D := _ } : CS) with dead := true }) hCX hP8 rfl rfl (hCX.i.one hP8.one (by decide)) (.inl ⟨rfl, rfl⟩)
    refine r_nil (b_n (t_n (c_seq (r_plain ?_))))
    refine pM ?_
    refine pA ?_
    refine r_nil (t_n (c_ret ?_))
    refine eR1 ?_
    first
      | (rw [hq]; exact ⟨rfl, hCY.done, hX⟩)
      | (rw [hq]; exact ⟨rfl, hCX.done, hX⟩)
   try simp only [dA, dB, dC, dD, dE, dF, dG, Int.not_lt, Int.not_le] at hc46
   have hU := st1_ok (step := false) hlt (by omega)
   refine c_skip (t_n (c_seq (c_seq (r_plain ?_))))
   refine pM ?_
   refine p1 ((x_neq rfl rfl).cast (congrArg Value.bool (decide_eq_true hne))) ?_
   refine pM ?_
   refine gM 49 ?_
   refine g_drop 49 rfl rfl ?_
   refine o_call Tryz.func105 fn105 fb105 (store_there g gd r _ _ μ pi nx ni ci _ _ hCX hGd.ok nNew) rfl ?_
   rintro v9 w9 ⟨⟨bz, rfl, hbz⟩, hE9⟩
   have hX := hX.ext hE9
   have hCX := hCX.ext hE9
   have hb := hb.ext hE9
   have hg := hg.ext hE9
   refine p1 (x_pick_t rfl (by conv => lhs; whnf)) ?_
   refine p1b (x_move (by conv => lhs; whnf)) (fun hb6_6 => ?_) (fun hb6_6 => ?_)
   ·try simp only [dA, dB, dC, dD, dE, dF, dG, Int.not_lt, Int.not_le] at hb6_6
    refine gM 53 ?_
    refine Eng.g1 53 rfl rfl (x_nilCheck rfl) ?_
    refine Eng.g1 53 rfl rfl (x_fieldAddr fo91_0 sz34 rfl) ?_
    refine Eng.g1 53 rfl rfl (x_load1 un34 rfl (hb.cell (rfl))) ?_
    refine g_drop 53 rfl rfl ?_
    have hXs := hX.size
    refine o_call Tryz.func95 fn95 fb95 (disk_Remove gd _ _ _ hCX.d hGd.ok (Nat.lt_of_le_of_lt hGd.steps (by omega)) hGd.left nNew (by decide)) rfl ?_
    rintro v10 w10 ⟨rfl, hD2, hM2⟩
    have hX := hX.stepE hM2 (sub_old hCX)
    have hg := hg.modS hM2 (fun k hk => (hCX.sub k hk).elim (hS k) fun q => Nat.le_trans hgs q)
    have hCX := hCX.stepD hXs hM2 hD2
    have hb : Blk w10 g (stoV gd C pi ni ci r nx) tSto := hCX.b
    have hGd := good_remove hGd nNew
    refine Eng.g1 53 rfl rfl (x_neq rfl rfl) ?_
    refine p1 (x_pick_t rfl (by conv => lhs; whnf)) ?_
    refine r_nil (t_n ?_)
    first | refine c_dec rfl (fun hc60 => ?_) (fun hc60 => ?_) | refine c_if rfl (fun hc60 => ?_) (fun hc60 => ?_)
    ·try simp only [dA, dB, dC, dD, dE, dF, dG, Int.not_lt, Int.not_le] at hc60
     have hq := undoC_badR hne (st2_err hU (hbz.1 hb6_6) hc60) hc60
     refine r_plain ?_
     refine pA ?_
     refine r_nil (t_n (c_seq (r_plain ?_)))
     refine pM ?_
     refine p1 (x_nilCheck rfl) ?_
     refine p1 (x_fieldAddr fo91_1 sz3 rfl) ?_
     refine p1 (x_load1 un3 rfl (hb.cell (rfl))) ?_
     refine p1 ((x_add rfl rfl (fits_i64 (by omega) (by omega))).cast (congrArg (Value.int .i64) (by omega : _ = ((C.seg + 1 : Nat) : Int)))) ?_
     refine o_call Tryz.func49 fn49 fb49 (segment_Name ((C.seg + 1 : Nat) : Int) _ hg.l) rfl ?_
     rintro v11 w11 ⟨rfl, hE11⟩
     have hX := hX.ext hE11
     have hCX := hCX.ext hE11
     have hb := hb.ext hE11
     have hg := hg.ext hE11
     refine pA ?_
     refine r_nil (t_n (c_seq (r_plain ?_)))
     refine pM ?_
     refine p1 ((x_neq rfl rfl).cast (congrArg Value.bool (decide_eq_false (by simp)))) ?_
     refine pM ?_
     refine gF 69 ?_
     refine p1 (x_pick_f rfl (by conv => lhs; whnf)) ?_
     refine pM ?_
     refine gF 72 ?_
     refine gF 72 ?_
     refine gF 72 ?_
     refine p1 (x_pick_f rfl (by conv => lhs; whnf)) ?_
     refine pM ?_
     refine gF 77 ?_
     refine gF 77 ?_
     refine gF 77 ?_
     refine gF 77 ?_
     refine gF 77 ?_
     refine gF 77 ?_
     refine gF 77 ?_
     refine p1 (x_pick_f rfl (by conv => lhs; whnf)) ?_
     refine r_nil (t_n ?_)
     refine c_f rfl ?_
     try have hq := undoC_goodR hne (st3_f hU3) rfl
     refine c_skip (t_n (c_seq (c_block (c_seq (r_plain ?_)))))
     refine pM ?_
     refine p1 ((x_eql rfl rfl).cast (congrArg Value.bool (decide_eq_true rfl))) ?_
     refine pA ?_
     refine r_nil (t_n ?_)
     refine c_t rfl ?_
     refine r_plain ?_
     refine pM ?_
     refine p1 (x_nilCheck rfl) ?_
     refine p1 (x_fieldAddr fo91_6 sz4 rfl) ?_
     refine o_store1 rfl (by conv => lhs; whnf) rfl rfl sz4 hb (by show _ < 7; omega) ?_
     intro w12 hP12
     have hX := hX.put hP12 (⟨.inl hsg, by decide⟩)
     have hb := hP12.blk
     try simp only [List.setIfInBounds_toArray, List.set_cons_zero, List.set_cons_succ] at hb
     have hCY := CstX.laid (C' := { ({ C with D := _ } : CS) with dead := true }) hCX hP12 rfl rfl (hCX.i.one hP12.one (by decide)) (.inl ⟨rfl, rfl⟩)
     refine r_nil (b_n (t_n (c_seq (r_plain ?_))))
     refine pM ?_
     refine pA ?_
     refine r_nil (t_n (c_ret ?_))
     refine eR1 ?_
     first
       | (rw [hq]; exact ⟨rfl, hCY.done, hX⟩)
       | (rw [hq]; exact ⟨rfl, hCX.done, hX⟩)
    try simp only [dA, dB, dC, dD, dE, dF, dG, Int.not_lt, Int.not_le] at hc60
    try have hU3 := st2_ok hU (hbz.1 hb6_6) (by omega)
    refine c_skip (t_n (c_seq (r_plain ?_)))
    refine pM ?_
    refine p1 (x_nilCheck rfl) ?_
    refine p1 (x_fieldAddr fo91_1 sz3 rfl) ?_
    refine p1 (x_load1 un3 rfl (hb.cell (rfl))) ?_
    refine p1 ((x_add rfl rfl (fits_i64 (by omega) (by omega))).cast (congrArg (Value.int .i64) (by omega : _ = ((C.seg + 1 : Nat) : Int)))) ?_
    refine o_call Tryz.func49 fn49 fb49 (segment_Name ((C.seg + 1 : Nat) : Int) _ hg.l) rfl ?_
    rintro v13 w13 ⟨rfl, hE13⟩
    have hX := hX.ext hE13
    have hCX := hCX.ext hE13
    have hb := hb.ext hE13
    have hg := hg.ext hE13
    refine pA ?_
    refine r_nil (t_n (c_seq (r_plain ?_)))
    refine pM ?_
    refine p1 ((x_neq rfl rfl).cast (congrArg Value.bool (decide_eq_true hne))) ?_
    refine pM ?_
    refine gM 69 ?_
    refine p1 (x_pick_t rfl (by conv => lhs; whnf)) ?_
    refine pM ?_
    refine gF 72 ?_
    refine gF 72 ?_
    refine gF 72 ?_
    refine p1 (x_pick_f rfl (by conv => lhs; whnf)) ?_
    refine pM ?_
    refine gF 77 ?_
    refine gF 77 ?_
    refine gF 77 ?_
    refine gF 77 ?_
    refine gF 77 ?_
    refine gF 77 ?_
    refine gF 77 ?_
    refine p1 (x_pick_f rfl (by conv => lhs; whnf)) ?_
    refine r_nil (t_n ?_)
    refine c_f rfl ?_
    try have hq := undoC_goodR hne (st3_f hU3) rfl
    refine c_skip (t_n (c_seq (c_block (c_seq (r_plain ?_)))))
    refine pM ?_
    refine p1 ((x_eql rfl rfl).cast (congrArg Value.bool (decide_eq_false hne))) ?_
    refine pA ?_
    refine r_nil (t_n ?_)
    refine c_f rfl ?_
    refine c_seq (r_plain ?_)
    refine pM ?_
    refine pA ?_
    refine r_nil (t_n ?_)
    refine c_f (rfl) ?_
    refine c_skip (b_n (t_n (c_seq (r_plain ?_))))
    refine pM ?_
    refine pA ?_
    refine r_nil (t_n (c_ret ?_))
    refine eR1 ?_
    first
      | (rw [hq]; exact ⟨rfl, hCY.done, hX⟩)
      | (rw [hq]; exact ⟨rfl, hCX.done, hX⟩)
   try simp only [dA, dB, dC, dD, dE, dF, dG, Int.not_lt, Int.not_le] at hb6_6
   have hU3 := st2_no hU (fun h => by have := hbz.2 h; simp_all)
   refine gF 53 ?_
   refine gF 53 ?_
   refine gF 53 ?_
   refine gF 53 ?_
   refine gF 53 ?_
   refine gF 53 ?_
   refine p1 (x_pick_f rfl (by conv => lhs; whnf)) ?_
   refine r_nil (t_n ?_)
   refine c_f rfl ?_
   try have hU3 := st2_ok hU (hbz.1 hb6_6) (by omega)
   refine c_skip (t_n (c_seq (r_plain ?_)))
   refine pM ?_
   refine p1 (x_nilCheck rfl) ?_
   refine p1 (x_fieldAddr fo91_1 sz3 rfl) ?_
   refine p1 (x_load1 un3 rfl (hb.cell (rfl))) ?_
   refine p1 ((x_add rfl rfl (fits_i64 (by omega) (by omega))).cast (congrArg (Value.int .i64) (by omega : _ = ((C.seg + 1 : Nat) : Int)))) ?_
   refine o_call Tryz.func49 fn49 fb49 (segment_Name ((C.seg + 1 : Nat) : Int) _ hg.l) rfl ?_
   rintro v14 w14 ⟨rfl, hE14⟩
   have hX := hX.ext hE14
   have hCX := hCX.ext hE14
   have hb := hb.ext hE14
   have hg := hg.ext hE14
   refine pA ?_
   refine r_nil (t_n (c_seq (r_plain ?_)))
   refine pM ?_
   refine p1 ((x_neq rfl rfl).cast (congrArg Value.bool (decide_eq_true hne))) ?_
   refine pM ?_
   refine gM 69 ?_
   refine p1 (x_pick_t rfl (by conv => lhs; whnf)) ?_
   refine pM ?_
   refine gF 72 ?_
   refine gF 72 ?_
   refine gF 72 ?_
   refine p1 (x_pick_f rfl (by conv => lhs; whnf)) ?_
   refine pM ?_
   refine gF 77 ?_
   refine gF 77 ?_
   refine gF 77 ?_
   refine gF 77 ?_
   refine gF 77 ?_
   refine gF 77 ?_
   refine gF 77 ?_
   refine p1 (x_pick_f rfl (by conv => lhs; whnf)) ?_
   refine r_nil (t_n ?_)
   refine c_f rfl ?_
   try have hq := undoC_goodR hne (st3_f hU3) rfl
   refine c_skip (t_n (c_seq (c_block (c_seq (r_plain ?_)))))
   refine pM ?_
   refine p1 ((x_eql rfl rfl).cast (congrArg Value.bool (decide_eq_false hne))) ?_
   refine pA ?_
   refine r_nil (t_n ?_)
   refine c_f rfl ?_
   refine c_seq (r_plain ?_)
   refine pM ?_
   refine pA ?_
   refine r_nil (t_n ?_)
   refine c_f (rfl) ?_
   refine c_skip (b_n (t_n (c_seq (r_plain ?_))))
   refine pM ?_
   refine pA ?_
   refine r_nil (t_n (c_ret ?_))
   refine eR1 ?_
   first
     | (rw [hq]; exact ⟨rfl, hCY.done, hX⟩)
     | (rw [hq]; exact ⟨rfl, hCX.done, hX⟩)
  try simp only [dA, dB, dC, dD, dE, dF, dG, Int.not_lt, Int.not_le] at hc31
  have hU := st1_no (D := C.D) (seg := C.seg) (size := C.size) (step := false) (by omega)
  refine c_skip (t_n (c_seq (c_seq (r_plain ?_))))
  refine pM ?_
  refine p1 ((x_neq rfl rfl).cast (congrArg Value.bool (decide_eq_true hne))) ?_
  refine pM ?_
  refine gM 49 ?_
  refine g_drop 49 rfl rfl ?_
  refine o_call Tryz.func105 fn105 fb105 (store_there g gd r _ _ μ pi nx ni ci _ _ hCX hGd.ok nNew) rfl ?_
  rintro v15 w15 ⟨⟨bz, rfl, hbz⟩, hE15⟩
  have hX := hX.ext hE15
  have hCX := hCX.ext hE15
  have hb := hb.ext hE15
  have hg := hg.ext hE15
  refine p1 (x_pick_t rfl (by conv => lhs; whnf)) ?_
  refine p1b (x_move (by conv => lhs; whnf)) (fun hb6_6 => ?_) (fun hb6_6 => ?_)
  ·try simp only [dA, dB, dC, dD, dE, dF, dG, Int.not_lt, Int.not_le] at hb6_6
   refine gM 53 ?_
   refine Eng.g1 53 rfl rfl (x_nilCheck rfl) ?_
   refine Eng.g1 53 rfl rfl (x_fieldAddr fo91_0 sz34 rfl) ?_
   refine Eng.g1 53 rfl rfl (x_load1 un34 rfl (hb.cell (rfl))) ?_
   refine g_drop 53 rfl rfl ?_
   have hXs := hX.size
   refine o_call Tryz.func95 fn95 fb95 (disk_Remove gd _ _ _ hCX.d hGd.ok (Nat.lt_of_le_of_lt hGd.steps (by omega)) hGd.left nNew (by decide)) rfl ?_
   rintro v16 w16 ⟨rfl, hD2, hM2⟩
   have hX := hX.stepE hM2 (sub_old hCX)
   have hg := hg.modS hM2 (fun k hk => (hCX.sub k hk).elim (hS k) fun q => Nat.le_trans hgs q)
   have hCX := hCX.stepD hXs hM2 hD2
   have hb : Blk w16 g (stoV gd C pi ni ci r nx) tSto := hCX.b
   have hGd := good_remove hGd nNew
   refine Eng.g1 53 rfl rfl (x_neq rfl rfl) ?_
   refine p1 (x_pick_t rfl (by conv => lhs; whnf)) ?_
   refine r_nil (t_n ?_)
   first | refine c_dec rfl (fun hc60 => ?_) (fun hc60 => ?_) | refine c_if rfl (fun hc60 => ?_) (fun hc60 => ?_)
   ·try simp only [dA, dB, dC, dD, dE, dF, dG, Int.not_lt, Int.not_le] at hc60
    have hq := undoC_badR hne (st2_err hU (hbz.1 hb6_6) hc60) hc60
    refine r_plain ?_
    refine pA ?_
    refine r_nil (t_n (c_seq (r_plain ?_)))
    refine pM ?_
    refine p1 (x_nilCheck rfl) ?_
    refine p1 (x_fieldAddr fo91_1 sz3 rfl) ?_
    refine p1 (x_load1 un3 rfl (hb.cell (rfl))) ?_
    refine p1 ((x_add rfl rfl (fits_i64 (by omega) (by omega))).cast (congrArg (Value.int .i64) (by omega : _ = ((C.seg + 1 : Nat) : Int)))) ?_
    refine o_call Tryz.func49 fn49 fb49 (segment_Name ((C.seg + 1 : Nat) : Int) _ hg.l) rfl ?_
    rintro v17 w17 ⟨rfl, hE17⟩
    have hX := hX.ext hE17
    have hCX := hCX.ext hE17
    have hb := hb.ext hE17
    have hg := hg.ext hE17
    refine pA ?_
    refine r_nil (t_n (c_seq (r_plain ?_)))
    refine pM ?_
    refine p1 ((x_neq rfl rfl).cast (congrArg Value.bool (decide_eq_false (by simp)))) ?_
    refine pM ?_
    refine gF 69 ?_
    refine p1 (x_pick_f rfl (by conv => lhs; whnf)) ?_
    refine pM ?_
    refine gF 72 ?_
    refine gF 72 ?_
    refine gF 72 ?_
    refine p1 (x_pick_f rfl (by conv => lhs; whnf)) ?_
    refine pM ?_
    refine gF 77 ?_
    refine gF 77 ?_
    refine gF 77 ?_
    refine gF 77 ?_
    refine gF 77 ?_
    refine gF 77 ?_
    refine gF 77 ?_
    refine p1 (x_pick_f rfl (by conv => lhs; whnf)) ?_
    refine r_nil (t_n ?_)
    refine c_f rfl ?_
    try have hq := undoC_goodR hne (st3_f hU3) rfl
    refine c_skip (t_n (c_seq (c_block (c_seq (r_plain ?_)))))
    refine pM ?_
    refine p1 ((x_eql rfl rfl).cast (congrArg Value.bool (decide_eq_true rfl))) ?_
    refine pA ?_
    refine r_nil (t_n ?_)
    refine c_t rfl ?_
    refine r_plain ?_
    refine pM ?_
    refine p1 (x_nilCheck rfl) ?_
    refine p1 (x_fieldAddr fo91_6 sz4 rfl) ?_
    refine o_store1 rfl (by conv => lhs; whnf) rfl rfl sz4 hb (by show _ < 7; omega) ?_
    intro w18 hP18
    have hX := hX.put hP18 (⟨.inl hsg, by decide⟩)
    have hb := hP18.blk
    try simp only [List.setIfInBounds_toArray, List.set_cons_zero, List.set_cons_succ] at hb
    have hCY := CstX.laid (C' := { ({ C with D := _ } : CS) with dead := true }) hCX hP18 rfl rfl (hCX.i.one hP18.one (by decide)) (.inl ⟨rfl, rfl⟩)
    refine r_nil (b_n (t_n (c_seq (r_plain ?_))))
    refine pM ?_
    refine pA ?_
    refine r_nil (t_n (c_ret ?_))
    refine eR1 ?_
    first
      | (rw [hq]; exact ⟨rfl, hCY.done, hX⟩)
      | (rw [hq]; exact ⟨rfl, hCX.done, hX⟩)
   try simp only [dA, dB, dC, dD, dE, dF, dG, Int.not_lt, Int.not_le] at hc60
   try have hU3 := st2_ok hU (hbz.1 hb6_6) (by omega)
   refine c_skip (t_n (c_seq (r_plain ?_)))
   refine pM ?_
   refine p1 (x_nilCheck rfl) ?_
   refine p1 (x_fieldAddr fo91_1 sz3 rfl) ?_
   refine p1 (x_load1 un3 rfl (hb.cell (rfl))) ?_
   refine p1 ((x_add rfl rfl (fits_i64 (by omega) (by omega))).cast (congrArg (Value.int .i64) (by omega : _ = ((C.seg + 1 : Nat) : Int)))) ?_
   refine o_call Tryz.func49 fn49 fb49 (segment_Name ((C.seg + 1 : Nat) : Int) _ hg.l) rfl ?_
   rintro v19 w19 ⟨rfl, hE19⟩
   have hX := hX.ext hE19
   have hCX := hCX.ext hE19
   have hb := hb.ext hE19
   have hg := hg.ext hE19
   refine pA ?_
   refine r_nil (t_n (c_seq (r_plain ?_)))
   refine pM ?_
   refine p1 ((x_neq rfl rfl).cast (congrArg Value.bool (decide_eq_true hne))) ?_
   refine pM ?_
   refine gM 69 ?_
   refine p1 (x_pick_t rfl (by conv => lhs; whnf)) ?_
   refine pM ?_
   refine gF 72 ?_
   refine gF 72 ?_
   refine gF 72 ?_
   refine p1 (x_pick_f rfl (by conv => lhs; whnf)) ?_
   refine pM ?_
   refine gF 77 ?_
   refine gF 77 ?_
   refine gF 77 ?_
   refine gF 77 ?_
   refine gF 77 ?_
   refine gF 77 ?_
   refine gF 77 ?_
   refine p1 (x_pick_f rfl (by conv => lhs; whnf)) ?_
   refine r_nil (t_n ?_)
   refine c_f rfl ?_
   try have hq := undoC_goodR hne (st3_f hU3) rfl
   refine c_skip (t_n (c_seq (c_block (c_seq (r_plain ?_)))))
   refine pM ?_
   refine p1 ((x_eql rfl rfl).cast (congrArg Value.bool (decide_eq_false hne))) ?_
   refine pA ?_
   refine r_nil (t_n ?_)
   refine c_f rfl ?_
   refine c_seq (r_plain ?_)
   refine pM ?_
   refine pA ?_
   refine r_nil (t_n ?_)
   refine c_f (rfl) ?_
   refine c_skip (b_n (t_n (c_seq (r_plain ?_))))
   refine pM ?_
   refine pA ?_
   refine r_nil (t_n (c_ret ?_))
   refine eR1 ?_
   first
     | (rw [hq]; exact ⟨rfl, hCY.done, hX⟩)
     | (rw [hq]; exact ⟨rfl, hCX.done, hX⟩)
  try simp only [dA, dB, dC, dD, dE, dF, dG, Int.not_lt, Int.not_le] at hb6_6
  have hU3 := st2_no hU (fun h => by have := hbz.2 h; simp_all)
  refine gF 53 ?_
  refine gF 53 ?_
  refine gF 53 ?_
  refine gF 53 ?_
  refine gF 53 ?_
  refine gF 53 ?_
  refine p1 (x_pick_f rfl (by conv => lhs; whnf)) ?_
  refine r_nil (t_n ?_)
  refine c_f rfl ?_
  try have hU3 := st2_ok hU (hbz.1 hb6_6) (by omega)
  refine c_skip (t_n (c_seq (r_plain ?_)))
  refine pM ?_
  refine p1 (x_nilCheck rfl) ?_
  refine p1 (x_fieldAddr fo91_1 sz3 rfl) ?_
  refine p1 (x_load1 un3 rfl (hb.cell (rfl))) ?_
  refine p1 ((x_add rfl rfl (fits_i64 (by omega) (by omega))).cast (congrArg (Value.int .i64) (by omega : _ = ((C.seg + 1 : Nat) : Int)))) ?_
  refine o_call Tryz.func49 fn49 fb49 (segment_Name ((C.seg + 1 : Nat) : Int) _ hg.l) rfl ?_
  rintro v20 w20 ⟨rfl, hE20⟩
  have hX := hX.ext hE20
  have hCX := hCX.ext hE20
  have hb := hb.ext hE20
  have hg := hg.ext hE20
  refine pA ?_
  refine r_nil (t_n (c_seq (r_plain ?_)))
  refine pM ?_
  refine p1 ((x_neq rfl rfl).cast (congrArg Value.bool (decide_eq_true hne))) ?_
  refine pM ?_
  refine gM 69 ?_
  refine p1 (x_pick_t rfl (by conv => lhs; whnf)) ?_
  refine pM ?_
  refine gF 72 ?_
  refine gF 72 ?_
  refine gF 72 ?_
  refine p1 (x_pick_f rfl (by conv => lhs; whnf)) ?_
  refine pM ?_
  refine gF 77 ?_
  refine gF 77 ?_
  refine gF 77 ?_
  refine gF 77 ?_
  refine gF 77 ?_
  refine gF 77 ?_
  refine gF 77 ?_
  refine p1 (x_pick_f rfl (by conv => lhs; whnf)) ?_
  refine r_nil (t_n ?_)
  refine c_f rfl ?_
  try have hq := undoC_goodR hne (st3_f hU3) rfl
  refine c_skip (t_n (c_seq (c_block (c_seq (r_plain ?_)))))
  refine pM ?_
  refine p1 ((x_eql rfl rfl).cast (congrArg Value.bool (decide_eq_false hne))) ?_
  refine pA ?_
  refine r_nil (t_n ?_)
  refine c_f rfl ?_
  refine c_seq (r_plain ?_)
  refine pM ?_
  refine pA ?_
  refine r_nil (t_n ?_)
  refine c_f (rfl) ?_
  refine c_skip (b_n (t_n (c_seq (r_plain ?_))))
  refine pM ?_
  refine pA ?_
  refine r_nil (t_n (c_ret ?_))
  refine eR1 ?_
  first
    | (rw [hq]; exact ⟨rfl, hCY.done, hX⟩)
    | (rw [hq]; exact ⟨rfl, hCX.done, hX⟩)
 try simp only [dA, dB, dC, dD, dE, dF, dG, Int.not_lt, Int.not_le] at hc11
 exact absurd hc11 (by simpa using hne)
theorem store_undo (g gd r : Nat) (S Sd : Nat → Prop) (μ : Hash → Option R3) (pi nx : Option Addr) (ni ci : Nat) (C : CS) (k : Nat) (w : World) (hCX : CstX S Sd w g gd r μ pi ni ci nx C) (hn : CN C k) (hS : ∀ j, S j → 6 ≤ j) (hg : Gt w) (hk : k < 4611686018427300000) (e : Int) (st : Bool) :
    Ret Tryz.prog 57 [.pointer (some ⟨g, 0, none⟩), .int .i64 e, .bool st] w (fun v w' => v = .int .i64 (undoC C e st).2 ∧ Cst (grow S w w') w' g gd (undoC C e st).1 ∧ ModS S EC w w') := by
  by_cases he : e = 20
  · subst he; exact store_undo20 g gd r S Sd μ pi nx ni ci C k w hCX hn hS hg hk st
  · cases st with
    | true => exact store_undo_true g gd r S Sd μ pi nx ni ci C k w hCX hn hS hg hk e he
    | false => exact store_undo_false g gd r S Sd μ pi nx ni ci C k w hCX hn hS hg hk e he
end Go.Proofs.Eng
end
section
set_option maxRecDepth 100000
set_option maxHeartbeats 4000000
namespace Go.Proofs.Eng
open Go.RowKit
open Extern.Stop (cell)
theorem fb103 : Tryz.f103.body.isNone = false := by kernel_rfl
theorem fb52 : Tryz.f52.body.isNone = false := by kernel_rfl
theorem fb53 : Tryz.f53.body.isNone = false := by kernel_rfl
theorem fb54 : Tryz.f54.body.isNone = false := by kernel_rfl
theorem fb55 : Tryz.f55.body.isNone = false := by kernel_rfl
theorem fb56 : Tryz.f56.body.isNone = false := by kernel_rfl
theorem fb57 : Tryz.f57.body.isNone = false := by kernel_rfl
theorem fb59 : Tryz.f59.body.isNone = false := by kernel_rfl
theorem fn103 : ngB Tryz.f103 = false := by kernel_rfl
theorem fn52 : ngB Tryz.f52 = false := by kernel_rfl
theorem fn53 : ngB Tryz.f53 = false := by kernel_rfl
theorem fn54 : ngB Tryz.f54 = false := by kernel_rfl
theorem fn55 : ngB Tryz.f55 = false := by kernel_rfl
theorem fn56 : ngB Tryz.f56 = false := by kernel_rfl
theorem fn57 : ngB Tryz.f57 = false := by kernel_rfl
theorem fn59 : ngB Tryz.f59 = false := by kernel_rfl
theorem zr9 : (Tryz.prog.info? 9).map (·.zero) = some (some (.string ByteArray.empty)) := by kernel_rfl
end Go.Proofs.Eng
end
section
set_option maxRecDepth 100000
set_option maxHeartbeats 4000000
namespace Go.Proofs.Eng
open Go.RowKit
open Extern.Stop (cell)
theorem put_1 (p : Option Addr) (n c : Nat) (w : World) :
    Ret Tryz.prog 53 [.slice p n c] w (fun v w' => v = .bool (decide (1048576 < n)) ∧ Ext w w') := by
 have hX := Ext.refl w
 refine eN 6 Tryz.func53 ?_
 refine c_seq (r_plain ?_)
 refine pA (r_nil (t_n (c_seq (r_plain ?_))))
 refine pM ?_
 refine p1 (x_len_slice u23 rfl) ?_
 refine p1 (x_gtr rfl rfl) ?_
 refine pA (r_nil (t_n (c_ret ?_)))
 refine eR1 ?_
 exact ⟨congrArg Value.bool (decide_eq_decide.2 (by omega)), hX⟩
theorem index_func (xss : List By) (B : Nat) (p : Option Addr) (n c : Nat) (w : World) (hl : Sl (kSl kByte 5) 23 B w p n c xss) :
    Ret Tryz.prog 103 [.slice p n c, .func (.func 53) #[] #[]] w (fun v w' => (∃ i : Int, v = .int .i64 i ∧ (0 ≤ i ↔ ∃ x ∈ xss, 1048576 < x.length)) ∧ Ext w w') := by
 have hX := Ext.refl w
 refine eN 19 Tryz.func103 ?_
 refine c_seq (r_plain ?_)
 refine pA (r_nil (t_n (c_seq (c_seq (r_plain ?_)))))
 refine pM ?_
 refine p1 (x_len_slice u22 rfl) ?_
 refine pM (r_nil (t_n (c_block ?_)))
 have hWL0 := Ext.refl w
 have hlen := hl.len
 have hcap := hl.cap
 have hfit := hl.fit
 refine c_loop (ι := Nat) [4, 5, 8, 9, 10, 11, 12, 13, 14, 15, 16, 17, 18] (fun k => [(8, .int .i64 (k : Int))]) (fun k w' => Ext w w' ∧ (k ≤ n ∧ ∀ i, i < k → (xss.getD i []).length ≤ 1048576)) (fun k => n - k) (0) ⟨rfl, trivial⟩ ⟨Ext.refl _, by omega, fun i hi => by omega⟩ ?_
 rintro k GL0 w1 ⟨hE1, hk, hL⟩
 have hX := hX.ext hE1
 have hWL0 := hE1
 refine c_seq (r_plain ?_)
 refine p1 (x_lss rfl rfl) ?_
 refine r_nil (t_n (c_seq ?_))
 first | refine c_dec rfl (fun hc9 => ?_) (fun hc9 => ?_) | refine c_if rfl (fun hc9 => ?_) (fun hc9 => ?_)
 ·refine c_skip (t_n (c_seq (c_block (c_seq (r_plain ?_)))))
  refine pM (pA (r_nil (t_n (c_seq ?_))))
  obtain ⟨qk, mk, ck, hck, hrow⟩ := (hl.ext hX).slAt k (by omega)
  have hrl := hrow.len
  refine r_plain ?_
  refine pM (pM (pM ?_))
  refine p1 (x_ixs0 (i := k) u22 sz23 rfl rfl ((hl.ext hX).adr kSl_pos (by omega)) (by omega)) ?_
  refine p1 (x_load1 un23 rfl hck) ?_
  refine o_callv (fs := []) (cs := []) rfl Tryz.func53 fn53 fb53 rfl rfl (put_1 _ _ _ _) ?_
  rintro v2 w2 ⟨rfl, hE2⟩
  have hX := hX.ext hE2
  have hWL0 := hWL0.ext hE2
  refine r_nil (t_n ?_)
  first | refine c_dec rfl (fun hc16 => ?_) (fun hc16 => ?_) | refine c_if rfl (fun hc16 => ?_) (fun hc16 => ?_)
  ·have hex : ∃ x ∈ xss, 1048576 < x.length := ⟨_, mem_of_getD (z := []) (i := k) (by omega) rfl, by omega⟩
   refine c_seq (r_plain ?_)
   refine pM (pA (r_nil (t_n (c_ret (b_r (t_r (t_r (b_r (t_r ?_)))))))))
   refine eR1 ?_
   first
     | exact ⟨⟨_, rfl, ⟨fun _ => hex, fun _ => by omega⟩⟩, hX⟩
     | exact ⟨⟨_, rfl, ⟨fun h => absurd h (by omega), fun ⟨x, hx, h⟩ => by
         obtain ⟨i, hi, e⟩ := List.mem_iff_getElem.1 hx
         have := hL i (by omega)
         rw [List.getD_eq_getElem?_getD, List.getElem?_eq_getElem hi, Option.getD_some, e] at this
         omega⟩⟩, hX⟩
  refine c_skip (b_n (t_n (r_plain ?_)))
  refine p1 (x_add rfl rfl (fits_i64 (by omega) (by omega))) ?_
  refine pM (r_nil ?_)
  refine t_n (aK (k + 1) ⟨rfl, trivial⟩ ?_)
  exact ⟨⟨hWL0, by omega, fun i hi => if h : i < k then hL i h else by rw [show i = k from by omega]; omega⟩, by first | (dsimp only; omega) | ((show _ < _); omega)⟩
 refine c_exit (t_e (t_e (b_hit (t_n (c_seq (r_plain ?_))))))
 refine pA (r_nil (t_n (c_ret ?_)))
 refine eR1 ?_
 first
   | exact ⟨⟨_, rfl, ⟨fun _ => hex, fun _ => by omega⟩⟩, hX⟩
   | exact ⟨⟨_, rfl, ⟨fun h => absurd h (by omega), fun ⟨x, hx, h⟩ => by
       obtain ⟨i, hi, e⟩ := List.mem_iff_getElem.1 hx
       have := hL i (by omega)
       rw [List.getD_eq_getElem?_getD, List.getElem?_eq_getElem hi, Option.getD_some, e] at this
       omega⟩⟩, hX⟩
theorem contains_func (xss : List By) (B : Nat) (p : Option Addr) (n c : Nat) (w : World) (hl : Sl (kSl kByte 5) 23 B w p n c xss) :
    Ret Tryz.prog 52 [.slice p n c, .func (.func 53) #[] #[]] w (fun v w' => v = .bool (decide (∃ x ∈ xss, 1048576 < x.length)) ∧ Ext w w') := by
 have hX := Ext.refl w
 refine eN 9 Tryz.func52 ?_
 refine c_seq (r_plain ?_)
 refine pA (r_nil (t_n (c_seq (r_plain ?_))))
 refine pM (pM ?_)
 refine o_call Tryz.func103 fn103 fb103 (index_func xss B _ _ _ _ (hl.ext hX)) rfl ?_
 rintro v1 w1 ⟨⟨i, rfl, hi⟩, hE1⟩
 have hX := hX.ext hE1
 refine p1 (x_geq rfl rfl) ?_
 refine pA (r_nil (t_n (c_ret ?_)))
 refine eR1 ?_
 exact ⟨congrArg Value.bool (decide_eq_decide.2 hi), hX⟩
theorem put_2 (gd : Nat) (S : Nat → Prop) (D : DS) (w : World) (hD : Dsk S w gd D) (hok : DOk D) (hst : D.steps < 4611686018427387904) (hle : D.left ≤ 9223372036854775807) (hnm : ∀ x ∈ D.l, namedD x.1 = true) (b0 b1 gs : Nat) (cs : Array Value) (nm : ByteArray) (hnz : nm.size ≤ 9223372036854775807) (hb0 : Blk w b0 #[.pointer (some ⟨gs, 0, none⟩)] 30) (hs : Blk w gs cs 91) (hs0 : cs[0]? = some (.pointer (some ⟨gd, 0, none⟩))) (hb1 : Blk w b1 #[.string nm] 9) (b2 e B : Nat) (p : Option Addr) (n c : Nat) (ys : By) (hb2 : Blk w b2 #[.slice p n c] 23) (hl : Sl kByte e B w p n c ys) :
    Ret Tryz.prog 55 [.pointer (some ⟨b0, 0, none⟩), .pointer (some ⟨b1, 0, none⟩), .pointer (some ⟨b2, 0, none⟩)] w (fun v w' => v = .int .i64 (appendD D nm ys).2 ∧ Dsk (grow S w w') w' gd (appendD D nm ys).1 ∧ ModS S ED w w') := by
 have hX := Ext.refl w
 refine eN 11 Tryz.func55 ?_
 refine c_seq (r_plain ?_)
 refine pA (r_nil (t_n (c_seq ?_)))
 refine r_tail 6 mixed (by kernel_rfl) ?_
 intro w1 hE1
 have hX := hX.ext hE1
 have hD := hD.ext hE1
 have hb0 := hb0.ext hE1
 have hb1 := hb1.ext hE1
 have hs := hs.ext hE1
 have hb2 := hb2.ext hE1
 have hl := hl.ext hE1
 refine s1 (x_load1 un30 rfl (hb0.cell (rfl))) ?_
 refine s1 (x_nilCheck rfl) ?_
 refine s1 (x_fieldAddr fo91_0 sz34 rfl) ?_
 refine s1 (x_load1 un34 rfl (hs.cell (hs0))) ?_
 refine s1 (x_load1 un9 rfl (hb1.cell (rfl))) ?_
 refine s1 (x_load1 un23 rfl (hb2.cell (rfl))) ?_
 refine s_nil ?_
 have hXs := hX.size
 refine o_call Tryz.func19 fn19 fb19 (disk_Append gd S D _ hD hok hst hle nm hnz e B _ _ _ _ hl) rfl ?_
 rintro v2 w2 ⟨rfl, hD2, hM2⟩
 refine pA (r_nil (t_n (c_ret ?_)))
 refine eR1 ?_
 exact ⟨rfl, hD2.wide hXs, (ModS.ofExt hX).trans hM2 (fun _ _ h => h)⟩
theorem put_3 (gd : Nat) (S : Nat → Prop) (D : DS) (w : World) (hD : Dsk S w gd D) (hok : DOk D) (hst : D.steps < 4611686018427387904) (hle : D.left ≤ 9223372036854775807) (hnm : ∀ x ∈ D.l, namedD x.1 = true) (b0 b1 gs : Nat) (cs : Array Value) (nm : ByteArray) (hnz : nm.size ≤ 9223372036854775807) (hb0 : Blk w b0 #[.pointer (some ⟨gs, 0, none⟩)] 30) (hs : Blk w gs cs 91) (hs0 : cs[0]? = some (.pointer (some ⟨gd, 0, none⟩))) (hb1 : Blk w b1 #[.string nm] 9) :
    Ret Tryz.prog 56 [.pointer (some ⟨b0, 0, none⟩), .pointer (some ⟨b1, 0, none⟩)] w (fun v w' => v = .int .i64 (syncD D nm).2 ∧ Dsk (grow S w w') w' gd (syncD D nm).1 ∧ ModS S ED w w') := by
 have hX := Ext.refl w
 refine eN 9 Tryz.func56 ?_
 refine c_seq (r_plain ?_)
 refine pA (r_nil (t_n (c_seq ?_)))
 refine r_tail 5 mixed (by kernel_rfl) ?_
 intro w1 hE1
 have hX := hX.ext hE1
 have hD := hD.ext hE1
 have hb0 := hb0.ext hE1
 have hb1 := hb1.ext hE1
 have hs := hs.ext hE1
 refine s1 (x_load1 un30 rfl (hb0.cell (rfl))) ?_
 refine s1 (x_nilCheck rfl) ?_
 refine s1 (x_fieldAddr fo91_0 sz34 rfl) ?_
 refine s1 (x_load1 un34 rfl (hs.cell (hs0))) ?_
 refine s1 (x_load1 un9 rfl (hb1.cell (rfl))) ?_
 refine s_nil ?_
 have hXs := hX.size
 refine o_call Tryz.func20 fn20 fb20 (disk_Sync gd S D _ hD hok hst hle nm hnz) rfl ?_
 rintro v2 w2 ⟨rfl, hD2, hM2⟩
 refine pA (r_nil (t_n (c_ret ?_)))
 refine eR1 ?_
 exact ⟨rfl, hD2.wide hXs, (ModS.ofExt hX).trans hM2 (fun _ _ h => h)⟩
theorem store_Put (g gd r : Nat) (S Sd : Nat → Prop) (μ : Hash → Option R3) (pi nx : Option Addr) (ni ci : Nat) (C : CS) (k_ : Nat) (w : World) (hCX : CstX S Sd w g gd r μ pi ni ci nx C) (hn : CN C k_) (hS : ∀ j, S j → 6 ≤ j) (hg : Gt w) (hk : k_ < 4611686018427200000) (xss : List By) (B : Nat) (p : Option Addr) (n c : Nat) (hl : Sl (kSl kByte 5) 23 B w p n c xss) (hBw : B ≤ w.heap.size) (hn2 : n ≤ 100000) (ix : By) (q : Option Addr) (m c2 : Nat) (hix : Out S w q m c2 ix) :
    Ret Tryz.prog 14 [.pointer (some ⟨g, 0, none⟩), .slice p n c, .slice q m c2] w (fun v w' => v = .int .i64 (putC C xss ix).2 ∧ Cst (grow S w w') w' g gd (putC C xss ix).1 ∧ ModS S EC w w') := by
 have hgs := hg.size
 have hsg := hCX.sg
 have hGd := hn.good
 have hhi := hn.hi
 have hsz := hn.sz
 obtain ⟨Sd, hSd, hCX0⟩ : ∃ Sd', (∀ j, Sd' j → j < w.heap.size) ∧ CstX S Sd' w g gd r μ pi ni ci nx C := ⟨_, fun j h => h.2, hCX.mono fun _ _ h => h⟩
 have hg0 := hg
 have hb := hCX0.b
 have hbl := hb.lt
 have hrl_ := hCX0.m.lt
 have hg6 := hS _ hsg
 have hX := Ext.refl w
 refine eN 127 Tryz.func14 ?_
 refine c_seq (r_plain ?_)
 have hz3 := hX.size
 refine o_box1 (by conv => lhs; whnf) rfl ?_
 intro w1 g3 hN3
 have hE1 := hN3.ext
 have hX := hX.ext hE1
 have hb := hb.ext hE1
 have hB3 := hN3.blk
 have hq3 := hN3.g_eq
 refine pA ?_
 refine r_nil (t_n (c_seq (c_block (c_seq (r_plain ?_)))))
 refine p1 (x_load1 un30 rfl (hB3.cell (rfl))) ?_
 refine p1 ((x_eql_ptrnil u30 rfl rfl).cast (congrArg _ (decide_eq_false (by simp)))) ?_
 refine pA ?_
 refine r_nil (t_n ?_)
 refine c_f (rfl) ?_
 refine c_seq (r_plain ?_)
 refine p1 (x_load1 un30 rfl (hB3.cell (rfl))) ?_
 refine p1 (x_nilCheck rfl) ?_
 refine p1 (x_fieldAddr fo91_6 sz4 rfl) ?_
 refine p1 (x_load1 un4 rfl (hb.cell (rfl))) ?_
 refine pA ?_
 refine r_nil (t_n ?_)
 first | refine c_dec rfl (fun hc19 => ?_) (fun hc19 => ?_) | refine c_if rfl (fun hc19 => ?_) (fun hc19 => ?_)
 ·try simp only [dA, dB, dC, dD, dE, dF, dG, Int.not_lt, Int.not_le] at hc19
  have hp : putC C xss ix = (C, 20) := by unfold putC; rw [if_pos hc19]
  refine c_seq (r_plain ?_)
  refine pA ?_
  refine r_nil (t_n (c_ret (b_r (t_r ?_))))
  refine eR1 ?_
  first
    | exact absurd hpf2 hc83
    | (rw [hp]; exact ⟨rfl, (hCX0.start.ext hX).done, ModS.ofExt hX⟩)
    | (rw [hpm, hput, if_pos hc103]; exact ⟨rfl, hCU.mono (fun j hj h => h.elim (fun a => a.imp id fun b => ⟨b, hj⟩) (fun ⟨a, _⟩ => .inr ⟨by omega, hj⟩)), hX⟩)
    | (rw [hpm, hput, if_neg hc103, hOl]; exact ⟨rfl, hCX.done, hX⟩)
 try simp only [dA, dB, dC, dD, dE, dF, dG, Int.not_lt, Int.not_le] at hc19
 refine c_seq ?_
 have hWr5 := Ext.refl w1
 refine c_cut (ι := Unit) [24, 25, 26, 27, 28, 29, 30, 31] (fun _ => [(24, .bool (decide (524288 < ix.length ∨ ∃ x ∈ xss, 1048576 < x.length)))]) (fun _ w' => Ext w1 w') ?_ ?_
 ·skip
  refine r_plain ?_
  refine pM ?_
  refine p1 (x_len_slice u23 rfl) ?_
  refine p1 (x_gtr rfl rfl) ?_
  refine p1b (x_move (by conv => lhs; whnf)) (fun hb5_3 => ?_) (fun hb5_3 => ?_)
  ·try simp only [dA, dB, dC, dD, dE, dF, dG, Int.not_lt, Int.not_le] at hb5_3
   refine gF 28 ?_
   refine gF 28 ?_
   refine p1 (x_pick_t rfl (by conv => lhs; whnf)) ?_
   refine pA ?_
   refine r_nil ?_
   refine t_n (aK () ⟨congrArg Value.bool (by have hixl := hix.len; first | exact (decide_eq_true (.inl (by omega))).symm | exact decide_eq_decide.2 ⟨.inr, fun h => h.resolve_left (by omega)⟩ | exact (decide_eq_false (by omega)).symm), trivial⟩ hWr5)
  try simp only [dA, dB, dC, dD, dE, dF, dG, Int.not_lt, Int.not_le] at hb5_3
  refine gM 28 ?_
  refine g_drop 28 rfl rfl ?_
  refine o_call Tryz.func52 fn52 fb52 (contains_func xss B _ _ _ _ (hl.ext hX)) rfl ?_
  rintro v3 w3 ⟨rfl, hE3⟩
  have hX := hX.ext hE3
  have hb := hb.ext hE3
  have hB3 := hB3.ext hE3
  have hWr5 := hWr5.ext hE3
  refine p1 (x_pick_f rfl (by conv => lhs; whnf)) ?_
  refine pA ?_
  refine r_nil ?_
  refine t_n (aK () ⟨congrArg Value.bool (by have hixl := hix.len; first | exact (decide_eq_true (.inl (by omega))).symm | exact decide_eq_decide.2 ⟨.inr, fun h => h.resolve_left (by omega)⟩ | exact (decide_eq_false (by omega)).symm), trivial⟩ hWr5)
 rintro _ Gr5 w2 hE2
 have hX := hX.ext hE2
 have hb := hb.ext hE2
 have hB3 := hB3.ext hE2
 refine t_n ?_
 first | refine c_dec rfl (fun hc24 => ?_) (fun hc24 => ?_) | refine c_if rfl (fun hc24 => ?_) (fun hc24 => ?_)
 ·try simp only [dA, dB, dC, dD, dE, dF, dG, Int.not_lt, Int.not_le] at hc24
  have hp : putC C xss ix = (C, 5) := by unfold putC; rw [if_neg (by rw [hc19]; simp), if_pos hc24]
  refine c_seq (r_plain ?_)
  refine pA ?_
  refine r_nil (t_n (c_ret (b_r (t_r ?_))))
  refine eR1 ?_
  first
    | exact absurd hpf2 hc83
    | (rw [hp]; exact ⟨rfl, (hCX0.start.ext hX).done, ModS.ofExt hX⟩)
    | (rw [hpm, hput, if_pos hc103]; exact ⟨rfl, hCU.mono (fun j hj h => h.elim (fun a => a.imp id fun b => ⟨b, hj⟩) (fun ⟨a, _⟩ => .inr ⟨by omega, hj⟩)), hX⟩)
    | (rw [hpm, hput, if_neg hc103, hOl]; exact ⟨rfl, hCX.done, hX⟩)
 try simp only [dA, dB, dC, dD, dE, dF, dG, Int.not_lt, Int.not_le] at hc24
 have hpm := putC_main (C := C) (cs := xss) (ix := ix) (by rw [hc19]; simp) hc24
 have hle : ∀ x ∈ xss, x.length ≤ 1048576 := fun x hx => Nat.le_of_not_lt fun h => hc24 (.inr ⟨x, hx, h⟩)
 have hixl := hix.len
 have hix5 : ix.length ≤ 524288 := Nat.le_of_not_lt fun h => hc24 (.inl h)
 have hlen := hl.len
 have hcap := hl.cap
 have hfit := hl.fit
 refine c_skip (b_n (t_n (c_seq (r_plain ?_))))
 have hXs := hX.size
 refine o_makeMap0 (κ := Hash) (ν := R3) ?_
 intro w4 g32 hE4 hK32
 have hX := hX.ext hE4
 have hb := hb.ext hE4
 have hB3 := hB3.ext hE4
 have hMf := hK32 kkHash vCh 0 w.heap.size (hXs)
 have hgl0 := hMf.low
 refine pA ?_
 refine r_nil (t_n (c_seq (r_plain ?_)))
 refine pA ?_
 refine r_nil (t_n (c_seq (c_seq (r_plain ?_))))
 refine pM ?_
 refine p1 (x_len_slice u22 rfl) ?_
 refine pM ?_
 refine r_nil (t_n (c_block ?_))
 refine c_loop (ι := Nat × Option Addr × Nat × Nat) [8, 10, 11, 12, 35, 36, 37, 38, 39, 40, 41, 42, 43, 44, 45, 46, 47, 48, 49, 50, 51, 52, 53, 54, 55, 56, 57, 58, 59, 60, 61, 62, 63, 64] (fun (k, ql, ml, cl) => [(8, .slice ql ml cl), (35, .int .i64 (k : Int))]) (fun (k, ql, ml, cl) w' => Ext w w' ∧ (k ≤ n ∧ (∃ μf, Mp kkHash vCh 0 w.heap.size w' g32 μf ∧ Chs Sd w' μf (freshL C.L (xss.take k))) ∧ Own (kOb w.heap.size) 23 0 w.heap.size w' ql ml cl (freshL C.L (xss.take k)) ∧ Blk w' g3 #[.pointer (some ⟨g, 0, none⟩)] 30)) (fun (k, ql, ml, cl) => n - k) ((0, none, 0, 0)) ⟨rfl, rfl, trivial⟩ ⟨hX, Nat.zero_le _, ⟨_, hMf, by rw [List.take_zero]; exact Chs.none_ Sd _⟩, by rw [List.take_zero]; exact Own.nil _ _ _ _ _, hB3⟩ ?_
 rintro ⟨k, ql, ml, cl⟩ GL1 w5 ⟨hE5, hk, ⟨μf, hMf, hCf⟩, hLo, hB3⟩
 have hX := hE5
 have hCX := hCX0.ext hX
 have hM := hCX.m
 have hC := hCX.c
 have hb := hCX.b
 have hg := hg0.ext hX
 have hmll := hLo.len
 have hml := freshL_len (xss.take k) C.L
 rw [List.length_take] at hml
 refine c_seq (r_plain ?_)
 refine p1 (x_lss rfl rfl) ?_
 refine r_nil (t_n (c_seq ?_))
 first | refine c_dec rfl (fun hc36 => ?_) (fun hc36 => ?_) | refine c_if rfl (fun hc36 => ?_) (fun hc36 => ?_)
 ·try simp only [dA, dB, dC, dD, dE, dF, dG, Int.not_lt, Int.not_le] at hc36
  refine c_skip (t_n (c_seq (c_block (c_seq ?_))))
  obtain ⟨qk, mk, ck, hck, hrow0⟩ := hl.slAt k (by omega)
  have hlek := hle _ (mem_of_getD (z := []) (xs := xss) (i := k) (by omega) rfl)
  have hrl0 := hrow0.len
  refine r_plain ?_
  refine p1 (x_ixs0 (i := k) u22 sz23 rfl rfl ((hl.ext hX).adr kSl_pos (by omega)) (by omega)) ?_
  refine p1 (x_load1 un23 rfl (hX.cell hck)) ?_
  refine pA ?_
  refine r_nil (t_n (c_seq (r_plain ?_)))
  refine pM ?_
  have hXs := hX.size
  refine o_call Tryz.func34 fn34 fb34 (sha_Sum (xss.getD k []) _ _ _ _ _ (hrow0.ext hX) (by omega) (by omega) hg.r hg.b (by have := hg.size; omega)) rfl ?_
  rintro v6 w6 ⟨rfl, hE6⟩
  have hX := hX.ext hE6
  have hCX := hCX.ext hE6
  have hM := hM.ext hE6
  have hC := hC.ext hE6
  have hb := hb.ext hE6
  have hg := hg.ext hE6
  have hMf := hMf.ext hE6
  have hCf := hCf.ext hE6
  have hLo := hLo.ext hE6
  have hB3 := hB3.ext hE6
  have hz11 := hX.size
  have hl11_3 := hB3.lt
  refine o_alloc zr64 ?_
  intro w7 g11 hN11
  have hE7 := hN11.ext
  have hX := hX.ext hE7
  have hCX := hCX.ext hE7
  have hM := hM.ext hE7
  have hC := hC.ext hE7
  have hb := hb.ext hE7
  have hg := hg.ext hE7
  have hMf := hMf.ext hE7
  have hCf := hCf.ext hE7
  have hLo := hLo.ext hE7
  have hB3 := hB3.ext hE7
  have hB11 := hN11.blk
  have hq11 := hN11.g_eq
  refine o_storeAll rfl rfl (kHash_one _) (hv_sz sz64 _) hB11 (hv_size _) ?_
  intro w8 hP8
  have hX := hX.put hP8 (by omega)
  have hCX := hCX0.ext hX
  have hM := (hCX0.ext hX).m
  have hC := (hCX0.ext hX).c
  have hb := (hCX0.ext hX).b
  have hg := hg.put hP8 (by omega)
  have hMf := hMf.mod (hP8.mod 0 (Nat.zero_le _)) (Nat.zero_le _) (by decide)
  have hCf := hCf.mod (hP8.mod 0 (Nat.zero_le _)) (Nat.zero_le _) (by decide)
  have hLo := hLo.mod (hP8.mod 0 (Nat.zero_le _)) (Nat.zero_le _) (by simp [kOb])
  have hB3 := hP8.keep hB3 (by omega)
  have hB11 := hP8.blk
  refine r_nil (t_n (c_seq ?_))
  refine r_still mixed (by kernel_rfl) ?_
  intro w9 hE9
  have hX := hX.ext hE9
  have hCX := hCX.ext hE9
  have hM := hM.ext hE9
  have hC := hC.ext hE9
  have hb := hb.ext hE9
  have hg := hg.ext hE9
  have hMf := hMf.ext hE9
  have hCf := hCf.ext hE9
  have hLo := hLo.ext hE9
  have hB3 := hB3.ext hE9
  have hB11 := hB11.ext hE9
  refine s1 (x_load1 un30 rfl (hB3.cell (rfl))) ?_
  refine s1 (x_nilCheck rfl) ?_
  refine s1 (x_fieldAddr fo91_4 sz88 rfl) ?_
  refine s1 (x_load1 un88 rfl (hb.cell (rfl))) ?_
  refine s1 (x_loadB ua64 rfl hB11 (hv_sz sz64 _)) ?_
  obtain ⟨⟨p0, n0, c0⟩, hr0⟩ : ∃ x : R3, x = (μ (shaF (xss.getD k []))).getD r30 := ⟨_, rfl⟩
  obtain ⟨hC0a, hC0b⟩ := hC.get (shaF (xss.getD k []))
  rw [← hr0] at hC0a hC0b
  simp only at hC0a hC0b
  refine s1 (((lookC u88 zr23 (keyOk_hash u64 u5 sz5) hM (shaF (xss.getD k [])) rfl rfl)).cast (by rw [← hr0]; rfl : r3V _ = Value.slice p0 n0 c0)) ?_
  refine s1 (x_eql_slnil u23 rfl rfl) ?_
  refine s1b (x_move (by conv => lhs; whnf)) (fun hb13_7 => ?_) (fun hb13_7 => ?_)
  ·try simp only [dA, dB, dC, dD, dE, dF, dG, Int.not_lt, Int.not_le] at hb13_7
   refine sg1 48 rfl rfl (x_move (by conv => lhs; whnf)) ?_
   refine sg1 48 rfl rfl (x_loadB ua64 rfl hB11 (hv_sz sz64 _)) ?_
   obtain ⟨⟨p9, n9, c9⟩, hr9⟩ : ∃ x : R3, x = (μf (shaF (xss.getD k []))).getD r30 := ⟨_, rfl⟩
   obtain ⟨hC9a, hC9b⟩ := hCf.get (shaF (xss.getD k []))
   rw [← hr9] at hC9a hC9b
   simp only at hC9a hC9b
   refine sg1 48 rfl rfl (((lookC u88 zr23 (keyOk_hash u64 u5 sz5) (hMf.lower (Nat.zero_le _)) (shaF (xss.getD k [])) rfl rfl)).cast (by rw [← hr9]; rfl : r3V _ = Value.slice p9 n9 c9)) ?_
   refine sg1 48 rfl rfl (x_eql_slnil u23 rfl rfl) ?_
   refine s1 (x_pick_t rfl (by conv => lhs; whnf)) ?_
   refine s_nil (t_n ?_)
   first | refine c_dec rfl (fun hc53 => ?_) (fun hc53 => ?_) | refine c_if rfl (fun hc53 => ?_) (fun hc53 => ?_)
   ·try simp only [dA, dB, dC, dD, dE, dF, dG, Int.not_lt, Int.not_le] at hc53
    have hfn : freshL C.L (xss.take (k + 1)) = freshL C.L (xss.take k) ++ [xss.getD k []] := by
      rw [take_snoc (by omega), freshL_snoc, if_pos]
      rw [findF_append, Option.or_eq_none_iff]
      exact ⟨hC0a.1 (by simpa using hb13_7), hC9a.1 hc53⟩
    refine c_seq (r_plain ?_)
    have hXz := hX.size
    refine o_buildSlice u23 inf5 rfl (by decide) (fun base hb => by have h0 : base = #[] := Array.eq_empty_of_size_eq_zero (by simpa using hb); subst h0; rfl) ?_
    intro wJ g54 hN54
    have hE54 := hN54.ext
    have hJ : Own kByte 5 0 w9.heap.size wJ (some ⟨g54, 0, none⟩) 0 0 [] := own_lit (B0 := w9.heap.size) ([] : List UInt8) hN54 (Nat.le_refl _) (by simp)
    refine pM ?_
    have hrl := (hrow0.ext hX).len
    refine o_append1 (d := kByte) (xss.getD k []) u23 inf5 rfl kByte_pos rfl rfl hJ (src_pure u23 ((hrow0.ext hX).ext hE54) (by decide)) hrl (byte_all _ _ _) rfl (by omega) (by omega) hE54.size (Nat.zero_le _) (by decide) ?_
    intro p56 c56 w10 hA hM10 hp56 hon56
    rw [List.nil_append] at hA
    have hA := hA.lower hXz
    have hE10 : Ext w9 w10 := hE54.mod hM10 (Nat.le_refl _)
    have hpn : p56 ≠ none := by rcases hp56 with h | ⟨g, h, _⟩ <;> rw [h] <;> simp
    have hX := hX.ext hE10
    have hCX := hCX.ext hE10
    have hM := hM.ext hE10
    have hC := hC.ext hE10
    have hb := hb.ext hE10
    have hg := hg.ext hE10
    have hMf := hMf.ext hE10
    have hCf := hCf.ext hE10
    have hLo := hLo.ext hE10
    have hB3 := hB3.ext hE10
    have hB11 := hB11.ext hE10
    refine pA ?_
    refine r_nil (t_n (c_seq (r_plain ?_)))
    refine pM ?_
    refine p1 (x_loadB ua64 rfl hB11 (hv_sz sz64 _)) ?_
    refine pM ?_
    refine o_update (a := (shaF (xss.getD k []))) (b := (p56, 0 + mk, c56)) u88 (keyOk_hash u64 u5 sz5) rfl rfl rfl hMf rfl (Nat.zero_le _) (by decide) ?_
    intro w11 hMf hM11
    have hX := hX.mod hM11 (Nat.le_refl _)
    have hCX := hCX0.ext hX
    have hM := hCX.m
    have hC := hCX.c
    have hb := hCX.b
    have hg := hg0.ext hX
    have hCf := hCf.mod hM11 (Nat.zero_le _) (by decide)
    have hLo := hLo.mod hM11 (Nat.zero_le _) (by show tMap ∉ [23, 5]; decide)
    have hB3 := hB3.mod hM11 (by decide)
    have hA := hA.mod hM11 (Nat.zero_le _) (by decide)
    have hFA := FB.ofOwn (S := nS Sd) hA (fun j _ hj hs => by have := hSd j hs; omega)
    have hCf := hCf.put (hC9a.1 hc53) (p56, 0 + mk, c56) hpn hFA
    refine r_nil (t_n (r_plain ?_))
    refine pM ?_
    refine pM ?_
    refine o_buildSlice u22 inf23 rfl (by decide) (fun base hb => fill_one (by rfl) base hb) ?_
    intro w12 g62 hN62
    have hE12 := hN62.ext
    have hX := hX.ext hE12
    have hCX := hCX.ext hE12
    have hM := hM.ext hE12
    have hC := hC.ext hE12
    have hb := hb.ext hE12
    have hg := hg.ext hE12
    have hMf := hMf.ext hE12
    have hCf := hCf.ext hE12
    have hLo := hLo.ext hE12
    have hB3 := hB3.ext hE12
    have hA := hA.ext hE12
    have hJ := ob_made hN62 hA
    obtain ⟨cssJ, hAJ, hsrJ⟩ := src_kind u22 hJ kOb_pos
    have hB1 := hX.size
    refine o_append (d := (kOb _)) ([(xss.getD k [])]) u22 inf23 rfl kOb_pos rfl rfl hLo (hsrJ) rfl (hAJ) (rfl) (by omega) (by omega) (by omega) (by omega) (by simp [kOb]) ?_
    intro p63 c63 w13 hLo hM13
    have hX := hX.mod hM13 (Nat.le_refl _)
    have hCX := hCX0.ext hX
    have hM := (hCX0.ext hX).m
    have hC := (hCX0.ext hX).c
    have hb := (hCX0.ext hX).b
    have hg := hg0.ext hX
    have hMf := hMf.mod hM13 (Nat.zero_le _) (by decide)
    have hCf := hCf.mod hM13 (Nat.zero_le _) (by decide)
    have hB3 := hB3.mod hM13 (by decide)
    have hA := hA.mod hM13 (Nat.zero_le _) (by decide)
    refine pA ?_
    refine r_nil (b_n (t_n (r_plain ?_)))
    refine p1 (x_add rfl rfl (fits_i64 (by omega) (by omega))) ?_
    refine pM ?_
    refine r_nil ?_
    first
      | exact t_n (aK ((k + 1, p63, ml + 1, c63)) ⟨rfl, rfl, trivial⟩ ⟨⟨hX, by omega, ⟨_, hMf, by rw [hfn]; exact hCf⟩, by rw [hfn]; exact hLo, hB3⟩, by first | (dsimp only; omega) | ((show _ < _); omega)⟩)
      | exact t_n (aK ((k + 1, ql, ml, cl)) ⟨rfl, rfl, trivial⟩ ⟨⟨hX, by omega, ⟨_, hMf, by rw [hfn]; exact hCf⟩, by rw [hfn]; exact hLo, hB3⟩, by first | (dsimp only; omega) | ((show _ < _); omega)⟩)
   try simp only [dA, dB, dC, dD, dE, dF, dG, Int.not_lt, Int.not_le] at hc53
   have hfn : freshL C.L (xss.take (k + 1)) = freshL C.L (xss.take k) := by
     rw [take_snoc (by omega), freshL_snoc, if_neg]
     rw [findF_append, Option.or_eq_none_iff]
     rintro ⟨h1, h2⟩
     first | exact hc53 (hC9a.2 h2) | (have h3 := hC0a.2 h1; simp_all)
   refine c_skip (b_n (t_n (r_plain ?_)))
   refine p1 (x_add rfl rfl (fits_i64 (by omega) (by omega))) ?_
   refine pM ?_
   refine r_nil ?_
   first
     | exact t_n (aK ((k + 1, p63, ml + 1, c63)) ⟨rfl, rfl, trivial⟩ ⟨⟨hX, by omega, ⟨_, hMf, by rw [hfn]; exact hCf⟩, by rw [hfn]; exact hLo, hB3⟩, by first | (dsimp only; omega) | ((show _ < _); omega)⟩)
     | exact t_n (aK ((k + 1, ql, ml, cl)) ⟨rfl, rfl, trivial⟩ ⟨⟨hX, by omega, ⟨_, hMf, by rw [hfn]; exact hCf⟩, by rw [hfn]; exact hLo, hB3⟩, by first | (dsimp only; omega) | ((show _ < _); omega)⟩)
  try simp only [dA, dB, dC, dD, dE, dF, dG, Int.not_lt, Int.not_le] at hb13_7
  refine sg0 48 rfl (by first | exact .inl rfl | exact .inr rfl) ?_
  refine sg0 48 rfl (by first | exact .inl rfl | exact .inr rfl) ?_
  obtain ⟨⟨p9, n9, c9⟩, hr9⟩ : ∃ x : R3, x = (μf (shaF (xss.getD k []))).getD r30 := ⟨_, rfl⟩
  obtain ⟨hC9a, hC9b⟩ := hCf.get (shaF (xss.getD k []))
  rw [← hr9] at hC9a hC9b
  simp only at hC9a hC9b
  refine sg0 48 rfl (by first | exact .inl rfl | exact .inr rfl) ?_
  refine sg0 48 rfl (by first | exact .inl rfl | exact .inr rfl) ?_
  refine s1 (x_pick_f rfl (by conv => lhs; whnf)) ?_
  refine s_nil (t_n ?_)
  refine c_f rfl ?_
  have hfn : freshL C.L (xss.take (k + 1)) = freshL C.L (xss.take k) := by
    rw [take_snoc (by omega), freshL_snoc, if_neg]
    rw [findF_append, Option.or_eq_none_iff]
    rintro ⟨h1, h2⟩
    first | exact hc53 (hC9a.2 h2) | (have h3 := hC0a.2 h1; simp_all)
  refine c_skip (b_n (t_n (r_plain ?_)))
  refine p1 (x_add rfl rfl (fits_i64 (by omega) (by omega))) ?_
  refine pM ?_
  refine r_nil ?_
  first
    | exact t_n (aK ((k + 1, p63, ml + 1, c63)) ⟨rfl, rfl, trivial⟩ ⟨⟨hX, by omega, ⟨_, hMf, by rw [hfn]; exact hCf⟩, by rw [hfn]; exact hLo, hB3⟩, by first | (dsimp only; omega) | ((show _ < _); omega)⟩)
    | exact t_n (aK ((k + 1, ql, ml, cl)) ⟨rfl, rfl, trivial⟩ ⟨⟨hX, by omega, ⟨_, hMf, by rw [hfn]; exact hCf⟩, by rw [hfn]; exact hLo, hB3⟩, by first | (dsimp only; omega) | ((show _ < _); omega)⟩)
 try simp only [dA, dB, dC, dD, dE, dF, dG, Int.not_lt, Int.not_le] at hc36
 have hkk : xss.take k = xss := List.take_of_length_le (by omega)
 rw [hkk] at hCf hLo
 have hfc : ∀ x ∈ freshL C.L xss, x.length ≤ 1048576 := fun x hx => hle x (freshL_new xss C.L x hx).2
 have hpf := putF_seg hfc
 have hpf2 : (putF (freshL C.L xss)).2 = 0 := by rw [hpf]
 have hsl := segB_len hfc
 have hfl := freshL_len xss C.L
 have hgl1 := hMf.lt
 have hng : ¬ Sd g32 := fun h => by have := hSd g32 h; omega
 refine c_exit (t_e (t_e (b_hit (t_n (c_seq ?_)))))
 have hXq := hX.size
 refine r_plain ?_
 refine pM ?_
 refine o_call Tryz.func54 fn54 fb54 (segment_Put (freshL C.L xss) _ _ _ _ _ hLo.sl.obSl (by show (segB (freshL C.L xss)).length ≤ _; have : (freshL C.L xss).length * 1048591 ≤ 100000 * 1048591 := Nat.mul_le_mul (by omega) (Nat.le_refl _); omega) hg.l.q) rfl ?_
 rintro v14 w14 ⟨⟨qb, mb, cb, rfl, hO⟩, hE14⟩
 have hX := hX.ext hE14
 have hCX := hCX.ext hE14
 have hM := hM.ext hE14
 have hC := hC.ext hE14
 have hb := hb.ext hE14
 have hg := hg.ext hE14
 have hMf := hMf.ext hE14
 have hCf := hCf.ext hE14
 have hLo := hLo.ext hE14
 have hB3 := hB3.ext hE14
 rw [hpf] at hO
 have hO := hO.lower hXq
 have hOl : (segB (freshL C.L xss)).length = mb := hO.len
 have hmlx := hLo.len
 refine pM ?_
 refine p1 (x_extract rfl rfl) ?_
 refine p1 (x_extract rfl rfl) ?_
 have hz13 := hX.size
 have hl13_3 := hB3.lt
 refine o_alloc zr23 ?_
 intro w15 g13 hN13
 have hE15 := hN13.ext
 have hX := hX.ext hE15
 have hCX := hCX.ext hE15
 have hM := hM.ext hE15
 have hC := hC.ext hE15
 have hb := hb.ext hE15
 have hg := hg.ext hE15
 have hMf := hMf.ext hE15
 have hCf := hCf.ext hE15
 have hLo := hLo.ext hE15
 have hB3 := hB3.ext hE15
 have hO := hO.ext hE15
 have hB13 := hN13.blk
 have hq13 := hN13.g_eq
 refine o_store1 rfl (by conv => lhs; whnf) rfl rfl sz23 hB13 (by first | exact Nat.zero_lt_one | simp) ?_
 intro w16 hP16
 have hX := hX.put hP16 (by omega)
 have hCX := hCX0.ext hX
 have hM := (hCX0.ext hX).m
 have hC := (hCX0.ext hX).c
 have hb := (hCX0.ext hX).b
 have hg := hg.put hP16 (by omega)
 have hMf := hMf.mod (hP16.mod 0 (Nat.zero_le _)) (Nat.zero_le _) (by decide)
 have hCf := hCf.mod (hP16.mod 0 (Nat.zero_le _)) (Nat.zero_le _) (by decide)
 have hB3 := hP16.keep hB3 (by omega)
 have hO := hO.mod (hP16.mod 0 (Nat.zero_le _)) (Nat.zero_le _) (by decide)
 have hB13 := hP16.blk
 try simp only [List.setIfInBounds_toArray, List.set_cons_zero, List.set_cons_succ] at hB13
 refine pA ?_
 refine r_nil (t_n (c_seq (r_plain ?_)))
 refine p1 (x_load1 un30 rfl (hB3.cell (rfl))) ?_
 refine p1 (x_nilCheck rfl) ?_
 refine p1 (x_fieldAddr fo91_1 sz3 rfl) ?_
 refine p1 (x_load1 un3 rfl (hb.cell (rfl))) ?_
 refine o_call Tryz.func49 fn49 fb49 (segment_Name (C.seg : Int) _ hg.l) rfl ?_
 rintro v17 w17 ⟨rfl, hE17⟩
 have hX := hX.ext hE17
 have hCX := hCX.ext hE17
 have hM := hM.ext hE17
 have hC := hC.ext hE17
 have hb := hb.ext hE17
 have hg := hg.ext hE17
 have hMf := hMf.ext hE17
 have hCf := hCf.ext hE17
 have hB3 := hB3.ext hE17
 have hO := hO.ext hE17
 have hB13 := hB13.ext hE17
 have hz15 := hX.size
 have hl15_3 := hB3.lt
 have hl15_13 := hB13.lt
 refine o_alloc zr9 ?_
 intro w18 g15 hN15
 have hE18 := hN15.ext
 have hX := hX.ext hE18
 have hCX := hCX.ext hE18
 have hM := hM.ext hE18
 have hC := hC.ext hE18
 have hb := hb.ext hE18
 have hg := hg.ext hE18
 have hMf := hMf.ext hE18
 have hCf := hCf.ext hE18
 have hB3 := hB3.ext hE18
 have hO := hO.ext hE18
 have hB13 := hB13.ext hE18
 have hB15 := hN15.blk
 have hq15 := hN15.g_eq
 refine o_store1 rfl (by conv => lhs; whnf) rfl rfl sz9 hB15 (by first | exact Nat.zero_lt_one | simp) ?_
 intro w19 hP19
 have hX := hX.put hP19 (by omega)
 have hCX := hCX0.ext hX
 have hM := (hCX0.ext hX).m
 have hC := (hCX0.ext hX).c
 have hb := (hCX0.ext hX).b
 have hg := hg.put hP19 (by omega)
 have hMf := hMf.mod (hP19.mod 0 (Nat.zero_le _)) (Nat.zero_le _) (by decide)
 have hCf := hCf.mod (hP19.mod 0 (Nat.zero_le _)) (Nat.zero_le _) (by decide)
 have hB3 := hP19.keep hB3 (by omega)
 have hO := hO.mod (hP19.mod 0 (Nat.zero_le _)) (Nat.zero_le _) (by decide)
 have hB13 := hP19.keep hB13 (by omega)
 have hB15 := hP19.blk
 try simp only [List.setIfInBounds_toArray, List.set_cons_zero, List.set_cons_succ] at hB15
 refine r_nil (t_n (c_seq (c_seq (r_plain ?_))))
 refine pM ?_
 refine p1 (x_len_slice u22 rfl) ?_
 refine p1 (x_gtr rfl rfl) ?_
 refine r_nil (t_n ?_)
 first | refine c_dec rfl (fun hc77 => ?_) (fun hc77 => ?_) | refine c_if rfl (fun hc77 => ?_) (fun hc77 => ?_)
 ·try simp only [dA, dB, dC, dD, dE, dF, dG, Int.not_lt, Int.not_le] at hc77
  have hlne : freshL C.L xss ≠ [] := fun e => by rw [e] at hmlx; simp at hmlx; omega
  have hr1 := put1_cons (C := C) hlne
  refine r_plain ?_
  refine p1 (x_makeFunc (fs := []) (cs := [.pointer (some ⟨g3, 0, none⟩), .pointer (some ⟨g15, 0, none⟩), .pointer (some ⟨g13, 0, none⟩)]) rfl rfl) ?_
  refine p1 (x_makeFunc (fs := []) (cs := [.pointer (some ⟨g3, 0, none⟩), .pointer (some ⟨g15, 0, none⟩)]) rfl rfl) ?_
  refine o_buildSlice u149 inf95 rfl (by decide) (fun base hb => fill_kn [fcv (55, [.pointer (some ⟨g3, 0, none⟩), .pointer (some ⟨g15, 0, none⟩), .pointer (some ⟨g13, 0, none⟩)]), fcv (56, [.pointer (some ⟨g3, 0, none⟩), .pointer (some ⟨g15, 0, none⟩)])] (by intro v hv'; simp only [List.mem_cons, List.not_mem_nil, or_false] at hv'; rcases hv' with rfl | rfl <;> rfl) base hb) ?_
  intro w20 g80 hN80
  have hE20 := hN80.ext
  have hX := hX.ext hE20
  have hCX := hCX.ext hE20
  have hM := hM.ext hE20
  have hC := hC.ext hE20
  have hb := hb.ext hE20
  have hg := hg.ext hE20
  have hMf := hMf.ext hE20
  have hCf := hCf.ext hE20
  have hB3 := hB3.ext hE20
  have hO := hO.ext hE20
  have hB13 := hB13.ext hE20
  have hB15 := hB15.ext hE20
  have hS80 : Sl kFn 95 0 w20 (some ⟨g80, 0, none⟩) 2 2 [(55, [.pointer (some ⟨g3, 0, none⟩), .pointer (some ⟨g15, 0, none⟩), .pointer (some ⟨g13, 0, none⟩)]), (56, [.pointer (some ⟨g3, 0, none⟩), .pointer (some ⟨g15, 0, none⟩)])] := (own_lit (B0 := 0) ([(55, [.pointer (some ⟨g3, 0, none⟩), .pointer (some ⟨g15, 0, none⟩), .pointer (some ⟨g13, 0, none⟩)]), (56, [.pointer (some ⟨g3, 0, none⟩), .pointer (some ⟨g15, 0, none⟩)])] : List Clo) hN80 (Nat.zero_le _) (by simp)).sl
  have hD := hCX.d
  have hOu := out_own (S := Sd) hO hSd
  have hXs := hX.size
  refine o_call Tryz.func45 fn45 fb45 (all_disk [(55, [.pointer (some ⟨g3, 0, none⟩), .pointer (some ⟨g15, 0, none⟩), .pointer (some ⟨g13, 0, none⟩)]), (56, [.pointer (some ⟨g3, 0, none⟩), .pointer (some ⟨g15, 0, none⟩)])] [fun D => appendD D (nSeg C.seg) (segB (freshL C.L xss)), fun D => syncD D (nSeg C.seg)] (fun i => k_ + i) gd Sd C.D _ _ _ _ hD (hGd) hS80 rfl (fun i hi => ?_)) rfl ?_
  · rcases i with _ | _ | i
    · exact ⟨Tryz.f55, Tryz.func55, fn55, fb55, fun Di w1 hDi m hgi => (put_2 gd _ Di w1 hDi hgi.ok (Nat.lt_of_le_of_lt hgi.steps (by show _ + _ < _; omega)) hgi.left hgi.names g3 g15 g _ (nSeg C.seg) (nSeg_size _) (hB3.modS m (.inr (by decide))) (hb.modS m (.inr (by decide))) rfl (hB15.modS m (.inr (by decide))) g13 _ _ _ _ _ _ (hB13.modS m (.inr (by decide))) (hOu.modS m).sl).dg (hgi.append _ _)⟩
    · exact ⟨Tryz.f56, Tryz.func56, fn56, fb56, fun Di w1 hDi m hgi => (put_3 gd _ Di w1 hDi hgi.ok (Nat.lt_of_le_of_lt hgi.steps (by show _ + _ < _; omega)) hgi.left hgi.names g3 g15 g _ (nSeg C.seg) (nSeg_size _) (hB3.modS m (.inr (by decide))) (hb.modS m (.inr (by decide))) rfl (hB15.modS m (.inr (by decide)))).dg (hgi.sync _)⟩
    · exact absurd hi (by omega)
  rintro v21 w21 ⟨rfl, hD2, hM2⟩
  have hXe := hX
  have hgl := hMf.lt
  have hX := (ModS.ofExt (S := S) (E := EC) hXe).stepE hM2 (sub_old hCX0.start)
  have hCX := (hCX0.start.ext hXe).stepD hXs hM2 hD2
  have hb : Blk _ g (stoV gd C pi ni ci r nx) tSto := hCX.b
  have hg := hg.modS hM2 (fun j hj => hS j (hCX0.sub j hj))
  have hB3 := hB3.modS hM2 (.inr (by decide))
  have hB13 := hB13.modS hM2 (.inr (by decide))
  have hMf := (hMf.lower (Nat.zero_le _)).turn hM2 hng rfl
  have hCf := hCf.turn hM2
  have hng : ¬ grow Sd w20 w21 g32 := fun h => hng (grow_old h hgl)
  have hgl := hMf.lt
  have hGd : Good (runD [fun D => appendD D (nSeg C.seg) (segB (freshL C.L xss)), fun D => syncD D (nSeg C.seg)] C.D).1 (k_ + 2) := (hGd.append _ _).andD (fun D h => (h.sync _).andD (fun D h => h) (Nat.le_refl _)) (by omega)
  refine pA ?_
  refine r_nil (t_n (c_seq (c_seq (r_plain ?_))))
  refine pM ?_
  refine p1 (x_eql rfl rfl) ?_
  refine r_nil (t_n ?_)
  first | refine c_dec rfl (fun hc83 => ?_) (fun hc83 => ?_) | refine c_if rfl (fun hc83 => ?_) (fun hc83 => ?_)
  ·try simp only [dA, dB, dC, dD, dE, dF, dG, Int.not_lt, Int.not_le] at hc83
   have hpr := andD_ok (f := fun D => writeM D ⟨C.seg, C.size + (segB (freshL C.L xss)).length, ix⟩) (r := put1 C (freshL C.L xss)) (by rw [hr1]; try first | rfl | (simp only; omega) | omega)
   have hput : putR C (freshL C.L xss) ix = writeM (put1 C (freshL C.L xss)).1 ⟨C.seg, C.size + mb, ix⟩ := by rw [← hOl]; exact hpr
   rw [hr1] at hput
   refine r_tail 17 mixed (by kernel_rfl) ?_
   intro w22 hE22
   have hX := hX.ext hE22
   have hCX := hCX.ext hE22
   have hb := hb.ext hE22
   have hg := hg.ext hE22
   have hB3 := hB3.ext hE22
   have hB13 := hB13.ext hE22
   have hMf := hMf.ext hE22
   have hCf := hCf.ext hE22
   refine s1 (x_load1 un30 rfl (hB3.cell (rfl))) ?_
   refine s1 (x_nilCheck rfl) ?_
   refine s1 (x_fieldAddr fo91_0 sz34 rfl) ?_
   refine s1 (x_load1 un34 rfl (hb.cell (rfl))) ?_
   refine s1 (x_load1 un30 rfl (hB3.cell (rfl))) ?_
   refine s1 (x_nilCheck rfl) ?_
   refine s1 (x_fieldAddr fo91_1 sz3 rfl) ?_
   refine s1 (x_load1 un3 rfl (hb.cell (rfl))) ?_
   refine s1 (x_load1 un30 rfl (hB3.cell (rfl))) ?_
   refine s1 (x_nilCheck rfl) ?_
   refine s1 (x_fieldAddr fo91_2 sz3 rfl) ?_
   refine s1 (x_load1 un3 rfl (hb.cell (rfl))) ?_
   refine s1 (x_load1 un23 rfl (hB13.cell (rfl))) ?_
   refine s1 (x_len_slice u23 rfl) ?_
   refine s1 ((x_add rfl rfl (fits_i64 (by omega) (by omega))).cast (congrArg (Value.int .i64) (by omega : _ = ((C.size + mb : Nat) : Int)))) ?_
   refine s1 (x_move (by conv => lhs; whnf)) ?_
   refine s1 (x_build3 pl99 rfl rfl rfl rfl rfl rfl) ?_
   refine s_nil ?_
   have hXs := hX.size
   have hgl := hMf.lt
   have hix2 := (hix.modS hX).sl5
   refine o_call Tryz.func51 fn51 fb51 (chunks_write gd _ _ _ hCX.d hGd.ok (Nat.lt_of_le_of_lt hGd.steps (by omega)) hGd.left hGd.names C.seg (C.size + mb) ix 0 _ _ _ _ hix2 hg.l.q) rfl ?_
   rintro v23 w23 ⟨rfl, hD2, hM2⟩
   have hmz := hM2.size
   have hMf := (hMf.lower (Nat.zero_le _)).turn hM2 hng rfl
   have hng : ¬ grow _ w22 w23 g32 := fun h => hng (grow_old h hgl)
   have hgl := hMf.lt
   have hX := hX.stepE hM2 (sub_old hCX)
   have hCf := hCf.turn hM2
   have hg := hg.modS hM2 (fun j hj => (hCX.sub j hj).elim (hS j) fun q => Nat.le_trans hgs q)
   have hCX := hCX.stepD hXs hM2 hD2
   have hb : Blk w23 g (stoV gd C pi ni ci r nx) tSto := hCX.b
   have hGd := hGd.writeM ⟨C.seg, C.size + mb, ix⟩
   have hB3 := hB3.modS hM2 (.inr (by decide))
   have hB13 := hB13.modS hM2 (.inr (by decide))
   refine pA ?_
   refine r_nil (t_n (c_seq (c_seq (r_plain ?_))))
   refine pM ?_
   refine p1 (x_neq rfl rfl) ?_
   refine r_nil (t_n ?_)
   first | refine c_dec rfl (fun hc103 => ?_) (fun hc103 => ?_) | refine c_if rfl (fun hc103 => ?_) (fun hc103 => ?_)
   ·try simp only [dA, dB, dC, dD, dE, dF, dG, Int.not_lt, Int.not_le] at hc103
    refine c_seq (r_plain ?_)
    refine p1 (x_load1 un30 rfl (hB3.cell (rfl))) ?_
    refine pM ?_
    have hXs := hX.size
    refine o_call Tryz.func57 fn57 fb57 (store_undo g gd r (opn S w) _ μ pi nx ni ci _ (k_ + 6) _ hCX ⟨hGd.mono (by omega), hn.hi, hn.sz, hn.ix, hn.nx, hn.ln, hn.cl⟩ (fun j hj => hj.elim (hS j) (fun q => Nat.le_trans hgs q)) hg (by omega) _ false) rfl ?_
    rintro v24 w24 ⟨rfl, hCU, hMU⟩
    have hX := hX.trans hMU (fun j hj h => h.resolve_right (by omega))
    refine pA ?_
    refine r_nil (t_n (c_ret (t_r ?_)))
    refine eR1 ?_
    first
      | exact absurd hpf2 hc83
      | (rw [hp]; exact ⟨rfl, (hCX0.start.ext hX).done, ModS.ofExt hX⟩)
      | (rw [hpm, hput, if_pos hc103]; exact ⟨rfl, hCU.mono (fun j hj h => h.elim (fun a => a.imp id fun b => ⟨b, hj⟩) (fun ⟨a, _⟩ => .inr ⟨by omega, hj⟩)), hX⟩)
      | (rw [hpm, hput, if_neg hc103, hOl]; exact ⟨rfl, hCX.done, hX⟩)
   try simp only [dA, dB, dC, dD, dE, dF, dG, Int.not_lt, Int.not_le] at hc103
   refine c_skip (t_n (c_seq ?_))
   refine r_tail 9 mixed (by kernel_rfl) ?_
   intro w25 hE25
   have hX := hX.ext hE25
   have hCX := hCX.ext hE25
   have hb := hb.ext hE25
   have hg := hg.ext hE25
   have hB3 := hB3.ext hE25
   have hB13 := hB13.ext hE25
   have hMf := hMf.ext hE25
   have hCf := hCf.ext hE25
   refine s1 (x_load1 un30 rfl (hB3.cell (rfl))) ?_
   refine s1 (x_nilCheck rfl) ?_
   refine s1 (x_fieldAddr fo91_2 sz3 rfl) ?_
   refine s1 (x_load1 un3 rfl (hb.cell (rfl))) ?_
   refine s1 (x_load1 un23 rfl (hB13.cell (rfl))) ?_
   refine s1 (x_len_slice u23 rfl) ?_
   refine s1 ((x_add rfl rfl (fits_i64 (by omega) (by omega))).cast (congrArg (Value.int .i64) (by omega : _ = ((C.size + mb : Nat) : Int)))) ?_
   refine s1 (x_nilCheck rfl) ?_
   refine s1 (x_fieldAddr fo91_2 sz3 rfl) ?_
   refine s_nil ?_
   refine o_store1 rfl (by conv => lhs; whnf) rfl rfl sz3 hb (by show _ < 7; omega) ?_
   intro w26 hP26
   have hX := hX.put hP26 (⟨.inl hsg, by decide⟩)
   have hb := hP26.blk
   try simp only [List.setIfInBounds_toArray, List.set_cons_zero, List.set_cons_succ] at hb
   have hg := hg.put hP26 (by omega)
   have hB3 := hP26.keep hB3 (by omega)
   have hB13 := hP26.keep hB13 (by omega)
   have hMf := hMf.mod (hP26.mod 0 (Nat.zero_le _)) (Nat.zero_le _) (by decide)
   have hCf := hCf.mod (hP26.mod 0 (Nat.zero_le _)) (Nat.zero_le _) (by decide)
   have hCX := hCX.setSize (z := C.size + mb) hP26
   have hb := hCX.b
   refine r_nil (t_n (c_seq ?_))
   refine r_held (fun _ w2 => Blk w2 g3 #[.pointer (some ⟨g, 0, none⟩)] 30) mixed ?_
   intro w27 hE27
   have hX := hX.ext hE27
   have hb := hb.ext hE27
   have hg := hg.ext hE27
   have hB3 := hB3.ext hE27
   have hB13 := hB13.ext hE27
   have hMf := hMf.ext hE27
   have hCf := hCf.ext hE27
   have hCX := hCX.ext hE27
   have hSr27 : (fun _ w2 => Blk w2 g3 #[.pointer (some ⟨g, 0, none⟩)] 30) w27 w27 := hB3
   refine hT 0 rfl hSr27 (fun wS hSS => by (have hB3 := hSS; exact (x_load1 un30 rfl (hB3.cell (rfl))))) ?_
   refine hT 1 rfl hSr27 (fun wS hSS => by (exact (x_move (by conv => lhs; whnf)))) ?_
   refine h1L 2 (fun Q2 hQ2 => ?_)
   have hCX := hCX.mono (fun _ _ h => h)
   have hCf := hCf.narrowD
   refine o_call Tryz.func58 fn58 fb58 (slices_Clone_byte ix _ _ _ _ _ _ (hix.modS hX).sl (by omega)) rfl ?_
   rintro v28 w28 ⟨⟨q8, c8, rfl, hI8⟩, hE28⟩
   have hX := hX.ext hE28
   have hb := hb.ext hE28
   have hg := hg.ext hE28
   have hB3 := hB3.ext hE28
   have hB13 := hB13.ext hE28
   have hMf := hMf.ext hE28
   have hCf := hCf.ext hE28
   have hCX := hCX.ext hE28
   have hSr27 := hSr27.ext hE28
   have hF8 := hCX.newRow hI8
   refine hop_end hQ2 ⟨hSr27, ?_⟩
   refine hT 3 rfl hSr27 (fun wS hSS => by (exact (x_nilCheck rfl))) ?_
   refine hT 4 rfl hSr27 (fun wS hSS => by (exact (x_fieldAddr fo91_3 sz23 rfl))) ?_
   refine h1L 5 (fun Q5 hQ5 => ?_)
   refine o_store1 rfl (by conv => lhs; whnf) rfl rfl sz23 hb (by show _ < 7; omega) ?_
   intro w29 hP29
   have hX := hX.put hP29 (⟨.inl hsg, by decide⟩)
   have hb := hP29.blk
   try simp only [List.setIfInBounds_toArray, List.set_cons_zero, List.set_cons_succ] at hb
   have hg := hg.put hP29 (by omega)
   have hB3 := hP29.keep hB3 (by omega)
   have hB13 := hP29.keep hB13 (by omega)
   have hMf := hMf.mod (hP29.mod 0 (Nat.zero_le _)) (Nat.zero_le _) (by decide)
   have hCf := hCf.mod (hP29.mod 0 (Nat.zero_le _)) (Nat.zero_le _) (by decide)
   have hSr27 := hP29.keep hSr27 (by omega)
   have hF8 := hF8.one hP29.one (by decide)
   have hCX := hCX.setIndex hP29 hF8
   have hb := hCX.b
   refine hop_end hQ5 ⟨hSr27, ?_⟩
   refine h_done (by kernel_rfl) ?_
   refine t_n (c_seq (r_plain ?_))
   refine p1 (x_load1 un30 rfl (hB3.cell (rfl))) ?_
   refine p1 (x_nilCheck rfl) ?_
   refine p1 (x_fieldAddr fo91_4 sz88 rfl) ?_
   refine p1 (x_load1 un88 rfl (hb.cell (rfl))) ?_
   refine pM ?_
   refine o_call Tryz.func59 fn59 fb59 (maps_Copy r g32 (freshL C.L xss).length μ μf _ hCX.m (hMf.lower (Nat.zero_le _)) (by omega) (keys_len hCf)) rfl ?_
   rintro v30 w30 ⟨hMn, hMT⟩
   have hX := hX.trans (hMT.wideT (E' := EC) (by decide)) (fun j hj h => by rw [show j = r from h]; exact hCX0.sr)
   have hCX := hCX.copied hMT hMn ((hCX.c.mapT hMT).both (hCf.mapT hMT) (fun x hx => (freshL_new xss C.L x hx).1))
   refine r_nil (t_n (c_seq (r_plain ?_)))
   refine pA ?_
   refine r_nil (t_n (c_ret ?_))
   refine eR1 ?_
   first
     | exact absurd hpf2 hc83
     | (rw [hp]; exact ⟨rfl, (hCX0.start.ext hX).done, ModS.ofExt hX⟩)
     | (rw [hpm, hput, if_pos hc103]; exact ⟨rfl, hCU.mono (fun j hj h => h.elim (fun a => a.imp id fun b => ⟨b, hj⟩) (fun ⟨a, _⟩ => .inr ⟨by omega, hj⟩)), hX⟩)
     | (rw [hpm, hput, if_neg hc103, hOl]; exact ⟨rfl, hCX.done, hX⟩)
  try simp only [dA, dB, dC, dD, dE, dF, dG, Int.not_lt, Int.not_le] at hc83
  have hput : putR C (freshL C.L xss) ix = put1 C (freshL C.L xss) := andD_no (by rw [hr1]; first | (intro h; exact hc83 h) | exact absurd hpf2 hc83)
  rw [hr1] at hput
  refine c_skip (t_n (c_seq (c_seq (r_plain ?_))))
  refine pM ?_
  refine p1 (x_neq rfl rfl) ?_
  refine r_nil (t_n ?_)
  first | refine c_dec rfl (fun hc103 => ?_) (fun hc103 => ?_) | refine c_if rfl (fun hc103 => ?_) (fun hc103 => ?_)
  ·try simp only [dA, dB, dC, dD, dE, dF, dG, Int.not_lt, Int.not_le] at hc103
   refine c_seq (r_plain ?_)
   refine p1 (x_load1 un30 rfl (hB3.cell (rfl))) ?_
   refine pM ?_
   have hXs := hX.size
   refine o_call Tryz.func57 fn57 fb57 (store_undo g gd r (opn S w) _ μ pi nx ni ci _ (k_ + 6) _ hCX ⟨hGd.mono (by omega), hn.hi, hn.sz, hn.ix, hn.nx, hn.ln, hn.cl⟩ (fun j hj => hj.elim (hS j) (fun q => Nat.le_trans hgs q)) hg (by omega) _ false) rfl ?_
   rintro v31 w31 ⟨rfl, hCU, hMU⟩
   have hX := hX.trans hMU (fun j hj h => h.resolve_right (by omega))
   refine pA ?_
   refine r_nil (t_n (c_ret (t_r ?_)))
   refine eR1 ?_
   first
     | exact absurd hpf2 hc83
     | (rw [hp]; exact ⟨rfl, (hCX0.start.ext hX).done, ModS.ofExt hX⟩)
     | (rw [hpm, hput, if_pos hc103]; exact ⟨rfl, hCU.mono (fun j hj h => h.elim (fun a => a.imp id fun b => ⟨b, hj⟩) (fun ⟨a, _⟩ => .inr ⟨by omega, hj⟩)), hX⟩)
     | (rw [hpm, hput, if_neg hc103, hOl]; exact ⟨rfl, hCX.done, hX⟩)
  try simp only [dA, dB, dC, dD, dE, dF, dG, Int.not_lt, Int.not_le] at hc103
  refine c_skip (t_n (c_seq ?_))
  refine r_tail 9 mixed (by kernel_rfl) ?_
  intro w32 hE32
  have hX := hX.ext hE32
  have hCX := hCX.ext hE32
  have hb := hb.ext hE32
  have hg := hg.ext hE32
  have hB3 := hB3.ext hE32
  have hB13 := hB13.ext hE32
  have hMf := hMf.ext hE32
  have hCf := hCf.ext hE32
  refine s1 (x_load1 un30 rfl (hB3.cell (rfl))) ?_
  refine s1 (x_nilCheck rfl) ?_
  refine s1 (x_fieldAddr fo91_2 sz3 rfl) ?_
  refine s1 (x_load1 un3 rfl (hb.cell (rfl))) ?_
  refine s1 (x_load1 un23 rfl (hB13.cell (rfl))) ?_
  refine s1 (x_len_slice u23 rfl) ?_
  refine s1 ((x_add rfl rfl (fits_i64 (by omega) (by omega))).cast (congrArg (Value.int .i64) (by omega : _ = ((C.size + mb : Nat) : Int)))) ?_
  refine s1 (x_nilCheck rfl) ?_
  refine s1 (x_fieldAddr fo91_2 sz3 rfl) ?_
  refine s_nil ?_
  refine o_store1 rfl (by conv => lhs; whnf) rfl rfl sz3 hb (by show _ < 7; omega) ?_
  intro w33 hP33
  have hX := hX.put hP33 (⟨.inl hsg, by decide⟩)
  have hb := hP33.blk
  try simp only [List.setIfInBounds_toArray, List.set_cons_zero, List.set_cons_succ] at hb
  have hg := hg.put hP33 (by omega)
  have hB3 := hP33.keep hB3 (by omega)
  have hB13 := hP33.keep hB13 (by omega)
  have hMf := hMf.mod (hP33.mod 0 (Nat.zero_le _)) (Nat.zero_le _) (by decide)
  have hCf := hCf.mod (hP33.mod 0 (Nat.zero_le _)) (Nat.zero_le _) (by decide)
  have hCX := hCX.setSize (z := C.size + mb) hP33
  have hb := hCX.b
  refine r_nil (t_n (c_seq ?_))
  refine r_held (fun _ w2 => Blk w2 g3 #[.pointer (some ⟨g, 0, none⟩)] 30) mixed ?_
  intro w34 hE34
  have hX := hX.ext hE34
  have hb := hb.ext hE34
  have hg := hg.ext hE34
  have hB3 := hB3.ext hE34
  have hB13 := hB13.ext hE34
  have hMf := hMf.ext hE34
  have hCf := hCf.ext hE34
  have hCX := hCX.ext hE34
  have hSr27 : (fun _ w2 => Blk w2 g3 #[.pointer (some ⟨g, 0, none⟩)] 30) w34 w34 := hB3
  refine hT 0 rfl hSr27 (fun wS hSS => by (have hB3 := hSS; exact (x_load1 un30 rfl (hB3.cell (rfl))))) ?_
  refine hT 1 rfl hSr27 (fun wS hSS => by (exact (x_move (by conv => lhs; whnf)))) ?_
  refine h1L 2 (fun Q2 hQ2 => ?_)
  have hCX := hCX.mono (fun _ _ h => h)
  have hCf := hCf.narrowD
  refine o_call Tryz.func58 fn58 fb58 (slices_Clone_byte ix _ _ _ _ _ _ (hix.modS hX).sl (by omega)) rfl ?_
  rintro v35 w35 ⟨⟨q8, c8, rfl, hI8⟩, hE35⟩
  have hX := hX.ext hE35
  have hb := hb.ext hE35
  have hg := hg.ext hE35
  have hB3 := hB3.ext hE35
  have hB13 := hB13.ext hE35
  have hMf := hMf.ext hE35
  have hCf := hCf.ext hE35
  have hCX := hCX.ext hE35
  have hSr27 := hSr27.ext hE35
  have hF8 := hCX.newRow hI8
  refine hop_end hQ2 ⟨hSr27, ?_⟩
  refine hT 3 rfl hSr27 (fun wS hSS => by (exact (x_nilCheck rfl))) ?_
  refine hT 4 rfl hSr27 (fun wS hSS => by (exact (x_fieldAddr fo91_3 sz23 rfl))) ?_
  refine h1L 5 (fun Q5 hQ5 => ?_)
  refine o_store1 rfl (by conv => lhs; whnf) rfl rfl sz23 hb (by show _ < 7; omega) ?_
  intro w36 hP36
  have hX := hX.put hP36 (⟨.inl hsg, by decide⟩)
  have hb := hP36.blk
  try simp only [List.setIfInBounds_toArray, List.set_cons_zero, List.set_cons_succ] at hb
  have hg := hg.put hP36 (by omega)
  have hB3 := hP36.keep hB3 (by omega)
  have hB13 := hP36.keep hB13 (by omega)
  have hMf := hMf.mod (hP36.mod 0 (Nat.zero_le _)) (Nat.zero_le _) (by decide)
  have hCf := hCf.mod (hP36.mod 0 (Nat.zero_le _)) (Nat.zero_le _) (by decide)
  have hSr27 := hP36.keep hSr27 (by omega)
  have hF8 := hF8.one hP36.one (by decide)
  have hCX := hCX.setIndex hP36 hF8
  have hb := hCX.b
  refine hop_end hQ5 ⟨hSr27, ?_⟩
  refine h_done (by kernel_rfl) ?_
  refine t_n (c_seq (r_plain ?_))
  refine p1 (x_load1 un30 rfl (hB3.cell (rfl))) ?_
  refine p1 (x_nilCheck rfl) ?_
  refine p1 (x_fieldAddr fo91_4 sz88 rfl) ?_
  refine p1 (x_load1 un88 rfl (hb.cell (rfl))) ?_
  refine pM ?_
  refine o_call Tryz.func59 fn59 fb59 (maps_Copy r g32 (freshL C.L xss).length μ μf _ hCX.m (hMf.lower (Nat.zero_le _)) (by omega) (keys_len hCf)) rfl ?_
  rintro v37 w37 ⟨hMn, hMT⟩
  have hX := hX.trans (hMT.wideT (E' := EC) (by decide)) (fun j hj h => by rw [show j = r from h]; exact hCX0.sr)
  have hCX := hCX.copied hMT hMn ((hCX.c.mapT hMT).both (hCf.mapT hMT) (fun x hx => (freshL_new xss C.L x hx).1))
  refine r_nil (t_n (c_seq (r_plain ?_)))
  refine pA ?_
  refine r_nil (t_n (c_ret ?_))
  refine eR1 ?_
  first
    | exact absurd hpf2 hc83
    | (rw [hp]; exact ⟨rfl, (hCX0.start.ext hX).done, ModS.ofExt hX⟩)
    | (rw [hpm, hput, if_pos hc103]; exact ⟨rfl, hCU.mono (fun j hj h => h.elim (fun a => a.imp id fun b => ⟨b, hj⟩) (fun ⟨a, _⟩ => .inr ⟨by omega, hj⟩)), hX⟩)
    | (rw [hpm, hput, if_neg hc103, hOl]; exact ⟨rfl, hCX.done, hX⟩)
 try simp only [dA, dB, dC, dD, dE, dF, dG, Int.not_lt, Int.not_le] at hc77
 have hlnil : freshL C.L xss = [] := List.length_eq_zero_iff.1 (by omega)
 have hr1 := put1_nil (C := C) hlnil
 have hXe := hX
 have hCX := hCX0.start.ext hXe
 have hX := ModS.ofExt (S := S) (E := EC) hXe
 have hgl := hMf.lt
 have hGd := hGd.mono (by omega : k_ ≤ k_ + 2)
 refine c_skip (t_n (c_seq (c_seq (r_plain ?_))))
 refine pM ?_
 refine p1 (x_eql rfl rfl) ?_
 refine r_nil (t_n ?_)
 first | refine c_dec rfl (fun hc83 => ?_) (fun hc83 => ?_) | refine c_if rfl (fun hc83 => ?_) (fun hc83 => ?_)
 ·try simp only [dA, dB, dC, dD, dE, dF, dG, Int.not_lt, Int.not_le] at hc83
  have hpr := andD_ok (f := fun D => writeM D ⟨C.seg, C.size + (segB (freshL C.L xss)).length, ix⟩) (r := put1 C (freshL C.L xss)) (by rw [hr1]; try first | rfl | (simp only; omega) | omega)
  have hput : putR C (freshL C.L xss) ix = writeM (put1 C (freshL C.L xss)).1 ⟨C.seg, C.size + mb, ix⟩ := by rw [← hOl]; exact hpr
  rw [hr1] at hput
  refine r_tail 17 mixed (by kernel_rfl) ?_
  intro w38 hE38
  have hX := hX.ext hE38
  have hCX := hCX.ext hE38
  have hM := hM.ext hE38
  have hC := hC.ext hE38
  have hb := hb.ext hE38
  have hg := hg.ext hE38
  have hMf := hMf.ext hE38
  have hCf := hCf.ext hE38
  have hB3 := hB3.ext hE38
  have hO := hO.ext hE38
  have hB13 := hB13.ext hE38
  have hB15 := hB15.ext hE38
  refine s1 (x_load1 un30 rfl (hB3.cell (rfl))) ?_
  refine s1 (x_nilCheck rfl) ?_
  refine s1 (x_fieldAddr fo91_0 sz34 rfl) ?_
  refine s1 (x_load1 un34 rfl (hb.cell (rfl))) ?_
  refine s1 (x_load1 un30 rfl (hB3.cell (rfl))) ?_
  refine s1 (x_nilCheck rfl) ?_
  refine s1 (x_fieldAddr fo91_1 sz3 rfl) ?_
  refine s1 (x_load1 un3 rfl (hb.cell (rfl))) ?_
  refine s1 (x_load1 un30 rfl (hB3.cell (rfl))) ?_
  refine s1 (x_nilCheck rfl) ?_
  refine s1 (x_fieldAddr fo91_2 sz3 rfl) ?_
  refine s1 (x_load1 un3 rfl (hb.cell (rfl))) ?_
  refine s1 (x_load1 un23 rfl (hB13.cell (rfl))) ?_
  refine s1 (x_len_slice u23 rfl) ?_
  refine s1 ((x_add rfl rfl (fits_i64 (by omega) (by omega))).cast (congrArg (Value.int .i64) (by omega : _ = ((C.size + mb : Nat) : Int)))) ?_
  refine s1 (x_move (by conv => lhs; whnf)) ?_
  refine s1 (x_build3 pl99 rfl rfl rfl rfl rfl rfl) ?_
  refine s_nil ?_
  have hXs := hX.size
  have hgl := hMf.lt
  have hix2 := (hix.modS hX).sl5
  refine o_call Tryz.func51 fn51 fb51 (chunks_write gd _ _ _ hCX.d hGd.ok (Nat.lt_of_le_of_lt hGd.steps (by omega)) hGd.left hGd.names C.seg (C.size + mb) ix 0 _ _ _ _ hix2 hg.l.q) rfl ?_
  rintro v39 w39 ⟨rfl, hD2, hM2⟩
  have hmz := hM2.size
  have hMf := (hMf.lower (Nat.zero_le _)).turn hM2 hng rfl
  have hng : ¬ grow _ w38 w39 g32 := fun h => hng (grow_old h hgl)
  have hgl := hMf.lt
  have hX := hX.stepE hM2 (sub_old hCX)
  have hCf := hCf.turn hM2
  have hg := hg.modS hM2 (fun j hj => (hCX.sub j hj).elim (hS j) fun q => Nat.le_trans hgs q)
  have hCX := hCX.stepD hXs hM2 hD2
  have hb : Blk w39 g (stoV gd C pi ni ci r nx) tSto := hCX.b
  have hGd := hGd.writeM ⟨C.seg, C.size + mb, ix⟩
  have hB3 := hB3.modS hM2 (.inr (by decide))
  have hB13 := hB13.modS hM2 (.inr (by decide))
  refine pA ?_
  refine r_nil (t_n (c_seq (c_seq (r_plain ?_))))
  refine pM ?_
  refine p1 (x_neq rfl rfl) ?_
  refine r_nil (t_n ?_)
  first | refine c_dec rfl (fun hc103 => ?_) (fun hc103 => ?_) | refine c_if rfl (fun hc103 => ?_) (fun hc103 => ?_)
  ·try simp only [dA, dB, dC, dD, dE, dF, dG, Int.not_lt, Int.not_le] at hc103
   refine c_seq (r_plain ?_)
   refine p1 (x_load1 un30 rfl (hB3.cell (rfl))) ?_
   refine pM ?_
   have hXs := hX.size
   refine o_call Tryz.func57 fn57 fb57 (store_undo g gd r (opn S w) _ μ pi nx ni ci _ (k_ + 6) _ hCX ⟨hGd.mono (by omega), hn.hi, hn.sz, hn.ix, hn.nx, hn.ln, hn.cl⟩ (fun j hj => hj.elim (hS j) (fun q => Nat.le_trans hgs q)) hg (by omega) _ false) rfl ?_
   rintro v40 w40 ⟨rfl, hCU, hMU⟩
   have hX := hX.trans hMU (fun j hj h => h.resolve_right (by omega))
   refine pA ?_
   refine r_nil (t_n (c_ret (t_r ?_)))
   refine eR1 ?_
   first
     | exact absurd hpf2 hc83
     | (rw [hp]; exact ⟨rfl, (hCX0.start.ext hX).done, ModS.ofExt hX⟩)
     | (rw [hpm, hput, if_pos hc103]; exact ⟨rfl, hCU.mono (fun j hj h => h.elim (fun a => a.imp id fun b => ⟨b, hj⟩) (fun ⟨a, _⟩ => .inr ⟨by omega, hj⟩)), hX⟩)
     | (rw [hpm, hput, if_neg hc103, hOl]; exact ⟨rfl, hCX.done, hX⟩)
  try simp only [dA, dB, dC, dD, dE, dF, dG, Int.not_lt, Int.not_le] at hc103
  refine c_skip (t_n (c_seq ?_))
  refine r_tail 9 mixed (by kernel_rfl) ?_
  intro w41 hE41
  have hX := hX.ext hE41
  have hCX := hCX.ext hE41
  have hb := hb.ext hE41
  have hg := hg.ext hE41
  have hB3 := hB3.ext hE41
  have hB13 := hB13.ext hE41
  have hMf := hMf.ext hE41
  have hCf := hCf.ext hE41
  refine s1 (x_load1 un30 rfl (hB3.cell (rfl))) ?_
  refine s1 (x_nilCheck rfl) ?_
  refine s1 (x_fieldAddr fo91_2 sz3 rfl) ?_
  refine s1 (x_load1 un3 rfl (hb.cell (rfl))) ?_
  refine s1 (x_load1 un23 rfl (hB13.cell (rfl))) ?_
  refine s1 (x_len_slice u23 rfl) ?_
  refine s1 ((x_add rfl rfl (fits_i64 (by omega) (by omega))).cast (congrArg (Value.int .i64) (by omega : _ = ((C.size + mb : Nat) : Int)))) ?_
  refine s1 (x_nilCheck rfl) ?_
  refine s1 (x_fieldAddr fo91_2 sz3 rfl) ?_
  refine s_nil ?_
  refine o_store1 rfl (by conv => lhs; whnf) rfl rfl sz3 hb (by show _ < 7; omega) ?_
  intro w42 hP42
  have hX := hX.put hP42 (⟨.inl hsg, by decide⟩)
  have hb := hP42.blk
  try simp only [List.setIfInBounds_toArray, List.set_cons_zero, List.set_cons_succ] at hb
  have hg := hg.put hP42 (by omega)
  have hB3 := hP42.keep hB3 (by omega)
  have hB13 := hP42.keep hB13 (by omega)
  have hMf := hMf.mod (hP42.mod 0 (Nat.zero_le _)) (Nat.zero_le _) (by decide)
  have hCf := hCf.mod (hP42.mod 0 (Nat.zero_le _)) (Nat.zero_le _) (by decide)
  have hCX := hCX.setSize (z := C.size + mb) hP42
  have hb := hCX.b
  refine r_nil (t_n (c_seq ?_))
  refine r_held (fun _ w2 => Blk w2 g3 #[.pointer (some ⟨g, 0, none⟩)] 30) mixed ?_
  intro w43 hE43
  have hX := hX.ext hE43
  have hb := hb.ext hE43
  have hg := hg.ext hE43
  have hB3 := hB3.ext hE43
  have hB13 := hB13.ext hE43
  have hMf := hMf.ext hE43
  have hCf := hCf.ext hE43
  have hCX := hCX.ext hE43
  have hSr27 : (fun _ w2 => Blk w2 g3 #[.pointer (some ⟨g, 0, none⟩)] 30) w43 w43 := hB3
  refine hT 0 rfl hSr27 (fun wS hSS => by (have hB3 := hSS; exact (x_load1 un30 rfl (hB3.cell (rfl))))) ?_
  refine hT 1 rfl hSr27 (fun wS hSS => by (exact (x_move (by conv => lhs; whnf)))) ?_
  refine h1L 2 (fun Q2 hQ2 => ?_)
  have hCX := hCX.mono (fun _ _ h => h)
  have hCf := hCf.narrowD
  refine o_call Tryz.func58 fn58 fb58 (slices_Clone_byte ix _ _ _ _ _ _ (hix.modS hX).sl (by omega)) rfl ?_
  rintro v44 w44 ⟨⟨q8, c8, rfl, hI8⟩, hE44⟩
  have hX := hX.ext hE44
  have hb := hb.ext hE44
  have hg := hg.ext hE44
  have hB3 := hB3.ext hE44
  have hB13 := hB13.ext hE44
  have hMf := hMf.ext hE44
  have hCf := hCf.ext hE44
  have hCX := hCX.ext hE44
  have hSr27 := hSr27.ext hE44
  have hF8 := hCX.newRow hI8
  refine hop_end hQ2 ⟨hSr27, ?_⟩
  refine hT 3 rfl hSr27 (fun wS hSS => by (exact (x_nilCheck rfl))) ?_
  refine hT 4 rfl hSr27 (fun wS hSS => by (exact (x_fieldAddr fo91_3 sz23 rfl))) ?_
  refine h1L 5 (fun Q5 hQ5 => ?_)
  refine o_store1 rfl (by conv => lhs; whnf) rfl rfl sz23 hb (by show _ < 7; omega) ?_
  intro w45 hP45
  have hX := hX.put hP45 (⟨.inl hsg, by decide⟩)
  have hb := hP45.blk
  try simp only [List.setIfInBounds_toArray, List.set_cons_zero, List.set_cons_succ] at hb
  have hg := hg.put hP45 (by omega)
  have hB3 := hP45.keep hB3 (by omega)
  have hB13 := hP45.keep hB13 (by omega)
  have hMf := hMf.mod (hP45.mod 0 (Nat.zero_le _)) (Nat.zero_le _) (by decide)
  have hCf := hCf.mod (hP45.mod 0 (Nat.zero_le _)) (Nat.zero_le _) (by decide)
  have hSr27 := hP45.keep hSr27 (by omega)
  have hF8 := hF8.one hP45.one (by decide)
  have hCX := hCX.setIndex hP45 hF8
  have hb := hCX.b
  refine hop_end hQ5 ⟨hSr27, ?_⟩
  refine h_done (by kernel_rfl) ?_
  refine t_n (c_seq (r_plain ?_))
  refine p1 (x_load1 un30 rfl (hB3.cell (rfl))) ?_
  refine p1 (x_nilCheck rfl) ?_
  refine p1 (x_fieldAddr fo91_4 sz88 rfl) ?_
  refine p1 (x_load1 un88 rfl (hb.cell (rfl))) ?_
  refine pM ?_
  refine o_call Tryz.func59 fn59 fb59 (maps_Copy r g32 (freshL C.L xss).length μ μf _ hCX.m (hMf.lower (Nat.zero_le _)) (by omega) (keys_len hCf)) rfl ?_
  rintro v46 w46 ⟨hMn, hMT⟩
  have hX := hX.trans (hMT.wideT (E' := EC) (by decide)) (fun j hj h => by rw [show j = r from h]; exact hCX0.sr)
  have hCX := hCX.copied hMT hMn ((hCX.c.mapT hMT).both (hCf.mapT hMT) (fun x hx => (freshL_new xss C.L x hx).1))
  refine r_nil (t_n (c_seq (r_plain ?_)))
  refine pA ?_
  refine r_nil (t_n (c_ret ?_))
  refine eR1 ?_
  first
    | exact absurd hpf2 hc83
    | (rw [hp]; exact ⟨rfl, (hCX0.start.ext hX).done, ModS.ofExt hX⟩)
    | (rw [hpm, hput, if_pos hc103]; exact ⟨rfl, hCU.mono (fun j hj h => h.elim (fun a => a.imp id fun b => ⟨b, hj⟩) (fun ⟨a, _⟩ => .inr ⟨by omega, hj⟩)), hX⟩)
    | (rw [hpm, hput, if_neg hc103, hOl]; exact ⟨rfl, hCX.done, hX⟩)
 try simp only [dA, dB, dC, dD, dE, dF, dG, Int.not_lt, Int.not_le] at hc83
 have hput : putR C (freshL C.L xss) ix = put1 C (freshL C.L xss) := andD_no (by rw [hr1]; first | (intro h; exact hc83 h) | exact absurd hpf2 hc83)
 rw [hr1] at hput
 refine c_skip (t_n (c_seq (c_seq (r_plain ?_))))
 refine pM ?_
 refine p1 (x_neq rfl rfl) ?_
 refine r_nil (t_n ?_)
 first | refine c_dec rfl (fun hc103 => ?_) (fun hc103 => ?_) | refine c_if rfl (fun hc103 => ?_) (fun hc103 => ?_)
 ·try simp only [dA, dB, dC, dD, dE, dF, dG, Int.not_lt, Int.not_le] at hc103
  refine c_seq (r_plain ?_)
  refine p1 (x_load1 un30 rfl (hB3.cell (rfl))) ?_
  refine pM ?_
  have hXs := hX.size
  refine o_call Tryz.func57 fn57 fb57 (store_undo g gd r (opn S w) _ μ pi nx ni ci _ (k_ + 6) _ hCX ⟨hGd.mono (by omega), hn.hi, hn.sz, hn.ix, hn.nx, hn.ln, hn.cl⟩ (fun j hj => hj.elim (hS j) (fun q => Nat.le_trans hgs q)) hg (by omega) _ false) rfl ?_
  rintro v47 w47 ⟨rfl, hCU, hMU⟩
  have hX := hX.trans hMU (fun j hj h => h.resolve_right (by omega))
  refine pA ?_
  refine r_nil (t_n (c_ret (t_r ?_)))
  refine eR1 ?_
  first
    | exact absurd hpf2 hc83
    | (rw [hp]; exact ⟨rfl, (hCX0.start.ext hX).done, ModS.ofExt hX⟩)
    | (rw [hpm, hput, if_pos hc103]; exact ⟨rfl, hCU.mono (fun j hj h => h.elim (fun a => a.imp id fun b => ⟨b, hj⟩) (fun ⟨a, _⟩ => .inr ⟨by omega, hj⟩)), hX⟩)
    | (rw [hpm, hput, if_neg hc103, hOl]; exact ⟨rfl, hCX.done, hX⟩)
 try simp only [dA, dB, dC, dD, dE, dF, dG, Int.not_lt, Int.not_le] at hc103
 refine c_skip (t_n (c_seq ?_))
 refine r_tail 9 mixed (by kernel_rfl) ?_
 intro w48 hE48
 have hX := hX.ext hE48
 have hCX := hCX.ext hE48
 have hM := hM.ext hE48
 have hC := hC.ext hE48
 have hb := hb.ext hE48
 have hg := hg.ext hE48
 have hMf := hMf.ext hE48
 have hCf := hCf.ext hE48
 have hB3 := hB3.ext hE48
 have hO := hO.ext hE48
 have hB13 := hB13.ext hE48
 have hB15 := hB15.ext hE48
 refine s1 (x_load1 un30 rfl (hB3.cell (rfl))) ?_
 refine s1 (x_nilCheck rfl) ?_
 refine s1 (x_fieldAddr fo91_2 sz3 rfl) ?_
 refine s1 (x_load1 un3 rfl (hb.cell (rfl))) ?_
 refine s1 (x_load1 un23 rfl (hB13.cell (rfl))) ?_
 refine s1 (x_len_slice u23 rfl) ?_
 refine s1 ((x_add rfl rfl (fits_i64 (by omega) (by omega))).cast (congrArg (Value.int .i64) (by omega : _ = ((C.size + mb : Nat) : Int)))) ?_
 refine s1 (x_nilCheck rfl) ?_
 refine s1 (x_fieldAddr fo91_2 sz3 rfl) ?_
 refine s_nil ?_
 refine o_store1 rfl (by conv => lhs; whnf) rfl rfl sz3 hb (by show _ < 7; omega) ?_
 intro w49 hP49
 have hX := hX.put hP49 (⟨.inl hsg, by decide⟩)
 have hM := hM.mod (hP49.mod 0 (Nat.zero_le _)) (Nat.zero_le _) (by decide)
 have hC := hC.mod (hP49.mod 0 (Nat.zero_le _)) (Nat.zero_le _) (by decide)
 have hb := hP49.blk
 try simp only [List.setIfInBounds_toArray, List.set_cons_zero, List.set_cons_succ] at hb
 have hg := hg.put hP49 (by omega)
 have hMf := hMf.mod (hP49.mod 0 (Nat.zero_le _)) (Nat.zero_le _) (by decide)
 have hCf := hCf.mod (hP49.mod 0 (Nat.zero_le _)) (Nat.zero_le _) (by decide)
 have hB3 := hP49.keep hB3 (by omega)
 have hO := hO.mod (hP49.mod 0 (Nat.zero_le _)) (Nat.zero_le _) (by decide)
 have hB13 := hP49.keep hB13 (by omega)
 have hB15 := hP49.keep hB15 (by omega)
 have hCX := hCX.setSize (z := C.size + mb) hP49
 have hb := hCX.b
 refine r_nil (t_n (c_seq ?_))
 refine r_held (fun _ w2 => Blk w2 g3 #[.pointer (some ⟨g, 0, none⟩)] 30) mixed ?_
 intro w50 hE50
 have hX := hX.ext hE50
 have hM := hM.ext hE50
 have hC := hC.ext hE50
 have hb := hb.ext hE50
 have hg := hg.ext hE50
 have hMf := hMf.ext hE50
 have hCf := hCf.ext hE50
 have hB3 := hB3.ext hE50
 have hO := hO.ext hE50
 have hB13 := hB13.ext hE50
 have hB15 := hB15.ext hE50
 have hCX := hCX.ext hE50
 have hSr27 : (fun _ w2 => Blk w2 g3 #[.pointer (some ⟨g, 0, none⟩)] 30) w50 w50 := hB3
 refine hT 0 rfl hSr27 (fun wS hSS => by (have hB3 := hSS; exact (x_load1 un30 rfl (hB3.cell (rfl))))) ?_
 refine hT 1 rfl hSr27 (fun wS hSS => by (exact (x_move (by conv => lhs; whnf)))) ?_
 refine h1L 2 (fun Q2 hQ2 => ?_)
 have hCX := hCX.mono (fun _ _ h => h)
 have hCf := hCf.narrowD
 refine o_call Tryz.func58 fn58 fb58 (slices_Clone_byte ix _ _ _ _ _ _ (hix.modS hX).sl (by omega)) rfl ?_
 rintro v51 w51 ⟨⟨q8, c8, rfl, hI8⟩, hE51⟩
 have hX := hX.ext hE51
 have hM := hM.ext hE51
 have hC := hC.ext hE51
 have hb := hb.ext hE51
 have hg := hg.ext hE51
 have hMf := hMf.ext hE51
 have hCf := hCf.ext hE51
 have hB3 := hB3.ext hE51
 have hO := hO.ext hE51
 have hB13 := hB13.ext hE51
 have hB15 := hB15.ext hE51
 have hCX := hCX.ext hE51
 have hSr27 := hSr27.ext hE51
 have hF8 := hCX.newRow hI8
 refine hop_end hQ2 ⟨hSr27, ?_⟩
 refine hT 3 rfl hSr27 (fun wS hSS => by (exact (x_nilCheck rfl))) ?_
 refine hT 4 rfl hSr27 (fun wS hSS => by (exact (x_fieldAddr fo91_3 sz23 rfl))) ?_
 refine h1L 5 (fun Q5 hQ5 => ?_)
 refine o_store1 rfl (by conv => lhs; whnf) rfl rfl sz23 hb (by show _ < 7; omega) ?_
 intro w52 hP52
 have hX := hX.put hP52 (⟨.inl hsg, by decide⟩)
 have hM := hM.mod (hP52.mod 0 (Nat.zero_le _)) (Nat.zero_le _) (by decide)
 have hC := hC.mod (hP52.mod 0 (Nat.zero_le _)) (Nat.zero_le _) (by decide)
 have hb := hP52.blk
 try simp only [List.setIfInBounds_toArray, List.set_cons_zero, List.set_cons_succ] at hb
 have hg := hg.put hP52 (by omega)
 have hMf := hMf.mod (hP52.mod 0 (Nat.zero_le _)) (Nat.zero_le _) (by decide)
 have hCf := hCf.mod (hP52.mod 0 (Nat.zero_le _)) (Nat.zero_le _) (by decide)
 have hB3 := hP52.keep hB3 (by omega)
 have hO := hO.mod (hP52.mod 0 (Nat.zero_le _)) (Nat.zero_le _) (by decide)
 have hB13 := hP52.keep hB13 (by omega)
 have hB15 := hP52.keep hB15 (by omega)
 have hSr27 := hP52.keep hSr27 (by omega)
 have hF8 := hF8.one hP52.one (by decide)
 have hCX := hCX.setIndex hP52 hF8
 have hb := hCX.b
 refine hop_end hQ5 ⟨hSr27, ?_⟩
 refine h_done (by kernel_rfl) ?_
 refine t_n (c_seq (r_plain ?_))
 refine p1 (x_load1 un30 rfl (hB3.cell (rfl))) ?_
 refine p1 (x_nilCheck rfl) ?_
 refine p1 (x_fieldAddr fo91_4 sz88 rfl) ?_
 refine p1 (x_load1 un88 rfl (hb.cell (rfl))) ?_
 refine pM ?_
 refine o_call Tryz.func59 fn59 fb59 (maps_Copy r g32 (freshL C.L xss).length μ μf _ hCX.m (hMf.lower (Nat.zero_le _)) (by omega) (keys_len hCf)) rfl ?_
 rintro v53 w53 ⟨hMn, hMT⟩
 have hX := hX.trans (hMT.wideT (E' := EC) (by decide)) (fun j hj h => by rw [show j = r from h]; exact hCX0.sr)
 have hCX := hCX.copied hMT hMn ((hCX.c.mapT hMT).both (hCf.mapT hMT) (fun x hx => (freshL_new xss C.L x hx).1))
 refine r_nil (t_n (c_seq (r_plain ?_)))
 refine pA ?_
 refine r_nil (t_n (c_ret ?_))
 refine eR1 ?_
 first
   | exact absurd hpf2 hc83
   | (rw [hp]; exact ⟨rfl, (hCX0.start.ext hX).done, ModS.ofExt hX⟩)
   | (rw [hpm, hput, if_pos hc103]; exact ⟨rfl, hCU.mono (fun j hj h => h.elim (fun a => a.imp id fun b => ⟨b, hj⟩) (fun ⟨a, _⟩ => .inr ⟨by omega, hj⟩)), hX⟩)
   | (rw [hpm, hput, if_neg hc103, hOl]; exact ⟨rfl, hCX.done, hX⟩)
end Go.Proofs.Eng
end
section
namespace Go.Proofs.Eng
open Go.RowKit
structure Vu (D : DS) (M i : Nat) (V : ByteArray → Option Fb) (u n : Nat) : Prop where
  up : UpD D M i
  v : ∀ k, ascF D.l k = V k
  used : usedL D.l = u
  len : D.l.length = n
theorem fb_get {o : Option Fb} {f : Fb} (h : o = some f) : (o.map fun f => f.1.length).getD 0 = f.1.length := by rw [h]; rfl
section
variable {D : DS} {M i u n : Nat} {V : ByteArray → Option Fb} {k : ByteArray}
theorem vu_of (h : Vu D M i V u n) (act : List Fl) (o : Option Fb) (ha : act = insA D.l k o) (hg : Good { D with l := act, left := -1, steps := D.steps + 1 } (i + 1)) {u' n' : Nat} (hu : u' + ((V k).map fun f => f.1.length).getD 0 = u + (o.map fun f => f.1.length).getD 0) (hn : n' + (if V k = none then 0 else 1) = n + (if o = none then 0 else 1)) :
    Vu { D with l := act, left := -1, steps := D.steps + 1 } M (i + 1) (mset V k o) u' n' := by
  have hr := h.up.good.ok.rise
  refine ⟨up_of h.up hg, fun z => ?_, ?_, ?_⟩
  · show ascA act z = _
    rw [ha, ← asc_insA hr]
    unfold mset
    split
    · rfl
    · exact h.v z
  · show usedL act = u'
    have := usedL_ins hr k o
    have hv : ascA D.l k = V k := h.v k
    rw [hv] at this
    rw [ha]; have := h.used; omega
  · show act.length = n'
    have := ins_len hr k o
    have hv : ascA D.l k = V k := h.v k
    rw [hv] at this
    rw [ha]; have := h.len; omega
theorem vu_create (h : Vu D M i V u n) (hn : namedD k = true) (hk : V k = none) (hl : n < 64) : (createD D k).2 = 0 ∧ Vu (createD D k).1 M (i + 1) (mset V k (some ([], 0))) u (n + 1) := by
  have hg := good_create h.up.good k
  unfold createD at hg ⊢
  rw [look_ok (by simp [hn]) h.up.down, if_neg (by simp), if_neg (by rw [h.v, hk]; simp), if_neg (by rw [h.len]; omega), up_go h.up] at hg ⊢
  exact ⟨rfl, vu_of h _ _ rfl hg (by rw [hk]; rfl) (by rw [if_pos hk]; rfl)⟩
theorem vu_append (h : Vu D M i V u n) (hn : namedD k = true) {f : Fb} (hk : V k = some f) {p : By} (hr : u + p.length ≤ M) : (appendD D k p).2 = 0 ∧ Vu (appendD D k p).1 M (i + 1) (mset V k (some (f.1 ++ p, f.2))) (u + p.length) n := by
  have hg := good_append h.up.good k p
  have hgf : getF D k = f := by unfold getF; rw [h.v, hk]; rfl
  unfold appendD at hg ⊢
  rw [look_ok (by simp [hn]) h.up.down, if_neg (by simp), if_neg (by rw [h.v, hk]; simp), hgf, h.up.most, h.used, if_neg (by omega), up_go h.up] at hg ⊢
  exact ⟨rfl, vu_of h _ _ rfl hg (by rw [fb_get hk]; simp; omega) (by rw [if_neg (by rw [hk]; simp), if_neg (by simp)])⟩
theorem vu_sync (h : Vu D M i V u n) (hn : namedD k = true) {f : Fb} (hk : V k = some f) : (syncD D k).2 = 0 ∧ Vu (syncD D k).1 M (i + 1) (mset V k (some (f.1, f.1.length))) u n := by
  have hg := good_sync h.up.good k
  have hgf : getF D k = f := by unfold getF; rw [h.v, hk]; rfl
  unfold syncD at hg ⊢
  rw [look_ok (by simp [hn]) h.up.down, if_neg (by simp), if_neg (by rw [h.v, hk]; simp), hgf, up_go h.up] at hg ⊢
  exact ⟨rfl, vu_of h _ _ rfl hg (by rw [fb_get hk]; rfl) (by rw [if_neg (by rw [hk]; simp), if_neg (by simp)])⟩
theorem vu_read (h : Vu D M i V u n) (hn : namedD k = true) {f : Fb} (hk : V k = some f) : readD D k = (f.1, 0) := up_read h.up hn (by rw [h.v, hk])
theorem vu_none (h : Vu D M i V u n) (hn : namedD k = true) (hk : V k = none) : readD D k = ([], 22) := by
  unfold readD
  rw [look_ok (by simp [hn]) h.up.down, if_neg (by simp), if_pos (by rw [h.v, hk])]
theorem vu_ren (h : Vu D M i V u n) {old now : ByteArray} (hn : namedD old = true) (hn2 : namedD now = true) (hne : old ≠ now) {f : Fb} (hk : V old = some f) :
    (renameD D old now).2 = 0 ∧ ∃ u' n', Vu (renameD D old now).1 M (i + 1) (mset (mset V now (some f)) old none) u' n' ∧ u' + ((V now).map fun f => f.1.length).getD 0 = u ∧ n' + (if V now = none then 0 else 1) = n := by
  have hg := good_rename h.up.good old now
  have hgf : getF D old = f := by unfold getF; rw [h.v, hk]; rfl
  have hr := h.up.good.ok.rise
  have ho : ascF D.l old ≠ none := by rw [h.v, hk]; simp
  unfold renameD at hg ⊢
  rw [look_ok (by simp [hn, hn2]) h.up.down, if_neg (by simp), if_neg ho, hgf, up_go h.up] at hg ⊢
  have hl : renL D.l old now f = insA (insA D.l now (some f)) old none := if_neg hne
  rw [hl] at hg ⊢
  have hr2 := rise_insA hr now (some f)
  have h1 := usedL_ins hr now (some f)
  have h2 := usedL_ins hr2 old none
  have h3 := ins_len hr now (some f)
  have h4 := ins_len hr2 old none
  have hv : ascA D.l now = V now := h.v now
  have hvo : ascA (insA D.l now (some f)) old = some f := by rw [← asc_insA hr]; unfold mset; rw [if_neg hne]; exact (h.v old).trans hk
  rw [hv] at h1 h3
  rw [hvo] at h2 h4
  simp only [Option.map_some, Option.getD_some, Option.map_none, Option.getD_none, reduceCtorEq, if_false, if_true] at h1 h2 h3 h4
  refine ⟨rfl, _, _, ⟨up_of h.up hg, fun z => ?_, rfl, rfl⟩, ?_, ?_⟩
  · show ascA (insA (insA D.l now (some f)) old none) z = _
    rw [← asc_insA hr2]
    unfold mset
    split
    · rfl
    · rw [← asc_insA hr]
      unfold mset
      split
      · rfl
      · exact h.v z
  · have := h.used; show usedL (insA (insA D.l now (some f)) old none) + _ = _; omega
  · have := h.len; show (insA (insA D.l now (some f)) old none).length + _ = _; split at h3 <;> simp_all <;> omega
end
theorem named_man : namedD nMan = true := by decide
theorem named_new : namedD nNew = true := by decide
theorem man_ne_new : nMan ≠ nNew := by decide
theorem nSeg_len {k : Nat} (h1 : 1 ≤ k) (h2 : k ≤ 999999) : (nSeg k).size = 10 := by
  unfold nSeg nameF
  rw [if_neg (by omega)]
  show (toStr (nameL _)).size = 10
  unfold toStr
  simp [ByteArray.size, nameL_len]
theorem named_seg {k : Nat} (h1 : 1 ≤ k) (h2 : k ≤ 999999) : namedD (nSeg k) = true := by
  have hs := nSeg_len h1 h2
  unfold namedD
  rw [decide_eq_true (by omega), Bool.true_and, List.all_eq_true]
  intro c hc
  have e : (nSeg k).data.toList = nameL ((k : Int).toNat) := by unfold nSeg nameF toStr; rw [if_neg (by omega)]
  rw [e] at hc
  unfold nameL at hc
  rcases List.mem_append.1 hc with h | h
  · clear hc; revert h; revert c; decide
  · have := dig_mem 6 _ c h
    exact decide_eq_true (by omega)
theorem seg_ne_man {k : Nat} (h1 : 1 ≤ k) (h2 : k ≤ 999999) : nSeg k ≠ nMan := fun e => by have := nSeg_len h1 h2; rw [e] at this; revert this; decide
theorem seg_ne_new {k : Nat} (h1 : 1 ≤ k) (h2 : k ≤ 999999) : nSeg k ≠ nNew := fun e => by have := nSeg_len h1 h2; rw [e] at this; revert this; decide
theorem not_seg_man : ¬ SegN nMan := fun ⟨k, h1, h2, e⟩ => seg_ne_man h1 h2 e.symm
theorem vu_write {D : DS} {M i u n : Nat} {V : ByteArray → Option Fb} (h : Vu D M i V u n) (hk : V nNew = none) (hl : n < 64) {b : By} (hr : u + b.length ≤ M) :
    (writeD D b).2 = 0 ∧ ∃ u' n', Vu (writeD D b).1 M (i + 4) (mset V nMan (some (b, b.length))) u' n' ∧ u' + ((V nMan).map fun f => f.1.length).getD 0 = u + b.length ∧ n' + (if V nMan = none then 0 else 1) = n + 1 := by
  have hne : nNew ≠ nMan := fun e => man_ne_new e.symm
  obtain ⟨a1, a2⟩ := vu_create h named_new hk hl
  have k1 : mset V nNew (some ([], 0)) nNew = some ([], 0) := by unfold mset; rw [if_pos rfl]
  obtain ⟨b1, b2⟩ := vu_append a2 named_new k1 (p := b) hr
  have k2 : mset (mset V nNew (some ([], 0))) nNew (some (([] : By) ++ b, 0)) nNew = some (([] : By) ++ b, 0) := by unfold mset; rw [if_pos rfl]
  obtain ⟨c1, c2⟩ := vu_sync b2 named_new k2
  obtain ⟨d1, u', n', d2, d3, d4⟩ := vu_ren c2 (old := nNew) (now := nMan) named_new named_man hne (f := (([] : By) ++ b, (([] : By) ++ b).length)) (by unfold mset; rw [if_pos rfl])
  have e : writeD D b = renameD (syncD (appendD (createD D nNew).1 nNew b).1 nNew).1 nNew nMan := by
    unfold writeD
    rw [andD_ok a1, andD_ok b1, andD_ok c1]
  have hm : ∀ x : Option Fb, mset (mset (mset V nNew (some ([], 0))) nNew (some (([] : By) ++ b, 0))) nNew x nMan = V nMan := fun x => by
    unfold mset; rw [if_neg man_ne_new, if_neg man_ne_new, if_neg man_ne_new]
  rw [hm] at d3 d4
  refine ⟨by rw [e]; exact d1, u', n', ?_, d3, d4⟩
  rw [e]
  have hv : mset (mset (mset (mset (mset V nNew (some ([], 0))) nNew (some (([] : By) ++ b, 0))) nNew (some (([] : By) ++ b, (([] : By) ++ b).length))) nMan (some (([] : By) ++ b, (([] : By) ++ b).length))) nNew none = mset V nMan (some (b, b.length)) := by
    funext z
    unfold mset
    simp only [List.nil_append]
    by_cases e1 : z = nNew
    · subst e1; rw [if_pos rfl, if_neg hne, hk]
    · rw [if_neg e1]
      by_cases e2 : z = nMan
      · rw [if_pos e2, if_pos e2]
      · rw [if_neg e2, if_neg e2, if_neg e1, if_neg e1, if_neg e1]
  rw [hv] at d2
  exact d2
theorem clean_keep {keep : ByteArray} {D : DS} : ∀ {ns : List ByteArray}, (∀ x ∈ ns, keepN x keep = true) → cleanL keep D ns = (D, 0)
  | [], _ => rfl
  | x :: ns, h => by
    unfold cleanL
    rw [if_pos (h x (by simp))]
    exact clean_keep fun y hy => h y (by simp [hy])
structure Rst (C : CS) (M i : Nat) : Prop where
  ex : ∃ V u, Vu C.D M i V u 2 ∧ V nMan = some (manB ⟨C.seg, C.size, C.index⟩, (manB ⟨C.seg, C.size, C.index⟩).length) ∧ V (nSeg C.seg) = some (segB C.L, C.size) ∧ (∀ k, k ≠ nMan → k ≠ nSeg C.seg → V k = none) ∧ u = (manB ⟨C.seg, C.size, C.index⟩).length + C.size
  ok : (Mf.mk C.seg C.size C.index).Ok
  sz : (segB C.L).length = C.size
  cl : ∀ c ∈ C.L, c.length ≤ 1048576
  dead : C.dead = false
  next : C.next = none
theorem getSg_seg {l : List By} (h : ∀ c ∈ l, c.length ≤ 1048576) : getSg (segB l) = (l, 0) := by
  unfold getSg
  have h1 : chunksF (segB l) = some l := chunks_put l h
  rw [h1]
theorem Rst.open {C : CS} {M i : Nat} (h : Rst C M i) : openC C.D = (C, 0) := by
  obtain ⟨V, u, hv, h1, h2, h3, h4⟩ := h.ex
  have hlo := h.ok.lo
  have hhi := h.ok.hi
  have hrm := vu_read hv named_man h1
  have hrs := vu_read hv (named_seg hlo hhi) h2
  have hmo : ManOf (readD C.D nMan).1 ⟨C.seg, C.size, C.index⟩ := by rw [hrm]; exact ⟨h.ok, rfl⟩
  have hs := h.sz
  have hfull : (segB C.L).take C.size = segB C.L := List.take_of_length_le (by omega)
  rw [openC_load (by rw [hrm]), loadC_man hmo]
  simp only []
  rw [hrs]
  simp only []
  rw [hfull, getSg_seg h.cl, if_neg (by simp; omega)]
  have hkeep : cleanD C.D (nSeg C.seg) = (C.D, 0) := clean_keep fun x hx => by
    rw [keepN_iff]
    have hx2 : ascF C.D.l x ≠ none := asc_someA.2 hx
    rw [hv.v] at hx2
    by_cases e1 : x = nMan
    · subst e1; exact ⟨man_ne_new, .inl not_seg_man⟩
    · by_cases e2 : x = nSeg C.seg
      · subst e2; exact ⟨seg_ne_new hlo hhi, .inr rfl⟩
      · exact absurd (h3 x e1 e2) hx2
  have hlr : loadR C.D ⟨C.seg, C.size, C.index⟩ = (C.D, 0) := by
    unfold loadR
    simp only []
    rw [hrs, if_neg (by simp only []; omega)]
    exact hkeep
  rw [hlr]
  have hL : (getSg ((readD C.D (nSeg C.seg)).1.take C.size)).1 = C.L := by rw [hrs]; simp only []; rw [hfull, getSg_seg h.cl]
  have : loadS C.D ⟨C.seg, C.size, C.index⟩ = C := by
    unfold loadS
    simp only []
    rw [hL]
    have hd := h.dead
    have hn := h.next
    cases C; simp_all
  rw [this]
theorem vu_new (most : Int) : Vu (newD most) (max 0 (min most 16777216)).toNat 0 (fun _ => none) 0 0 := ⟨⟨good_new most, rfl, rfl, rfl⟩, fun _ => rfl, rfl, rfl⟩
theorem new_open {most : Int} {M : Nat} (hm : M = (max 0 (min most 16777216)).toNat) (hr : (manB ⟨1, 0, []⟩).length ≤ M) :
    (openC (newD most)).2 = 0 ∧ Rst (openC (newD most)).1 M 5 ∧ (openC (newD most)).1.L = [] ∧ (openC (newD most)).1.size = 0 ∧ (openC (newD most)).1.index = [] ∧ (openC (newD most)).1.seg = 1 := by
  subst hm
  have h0 := vu_new most
  have hok : (Mf.mk 1 0 []).Ok := ⟨by show 1 ≤ 1; omega, by show 1 ≤ 999999; omega, by show 0 ≤ _; omega, by show 0 ≤ _; omega⟩
  have hrn := vu_none h0 named_man rfl
  have hcl : cleanD (newD most) (toStr []) = (newD most, 0) := rfl
  obtain ⟨a1, a2⟩ := vu_create h0 (named_seg (k := 1) (by omega) (by omega)) rfl (by omega)
  have hk : mset (fun _ => none : ByteArray → Option Fb) (nSeg 1) (some ([], 0)) nNew = none := by unfold mset; rw [if_neg (fun e => seg_ne_new (k := 1) (by omega) (by omega) e.symm)]
  obtain ⟨b1, u', n', b2, b3, b4⟩ := vu_write a2 hk (by omega) (b := manB ⟨1, 0, []⟩) (by omega)
  have hkm : mset (fun _ => none : ByteArray → Option Fb) (nSeg 1) (some ([], 0)) nMan = none := by unfold mset; rw [if_neg (fun e => seg_ne_man (k := 1) (by omega) (by omega) e.symm)]
  rw [hkm] at b3 b4
  simp only [Option.map_none, Option.getD_none, if_true] at b3 b4
  have hn2 : n' = 2 := by omega
  subst hn2
  have hrun : runD openOps (newD most) = writeD (createD (newD most) (nSeg 1)).1 (manB ⟨1, 0, []⟩) := by
    simp only [openOps, runD, andD_end]
    rw [hcl, andD_ok (r := (newD most, 0)) rfl, andD_ok a1]
    unfold writeM
    rw [if_pos (errM_ok.2 hok)]
  have ho := openC_new (D := newD most) (by rw [hrn])
  rw [ho, hrun]
  refine ⟨b1, ⟨⟨_, u', b2, ?_, ?_, ?_, (by show u' = (manB ⟨1, 0, []⟩).length + 0; omega)⟩, hok, rfl, (by intro c hc; cases hc), rfl, rfl⟩, rfl, rfl, rfl, rfl⟩
  · unfold mset; rw [if_pos rfl]
  · show mset _ nMan _ (nSeg 1) = _
    unfold mset; rw [if_neg (seg_ne_man (k := 1) (by omega) (by omega)), if_pos rfl]; rfl
  · intro k h1 h2
    unfold mset; rw [if_neg h1, if_neg h2]
theorem freshL_nil_of {L cs : List By} (h : ∀ c ∈ cs, findF L (shaF c) ≠ none) : freshL L cs = [] := by
  induction cs with
  | nil => rfl
  | cons c cs ih =>
    unfold freshL
    rw [if_neg (h c (by simp))]
    exact ih fun x hx => h x (by simp [hx])
theorem Rst.put {C : CS} {M i : Nat} (h : Rst C M i) {cs : List By} {ix : By} (hc : ∀ c ∈ cs, c.length ≤ 1048576) (hi : ix.length ≤ 524288) (hM : M ≤ 16777216)
    (hr : (manB ⟨C.seg, C.size, C.index⟩).length + C.size + (segB (freshL C.L cs)).length + (manB ⟨C.seg, C.size + (segB (freshL C.L cs)).length, ix⟩).length ≤ M) :
    (putC C cs ix).2 = 0 ∧ Rst (putC C cs ix).1 M (i + 6) ∧ (putC C cs ix).1.L = C.L ++ freshL C.L cs ∧ (putC C cs ix).1.index = ix ∧ (putC C cs ix).1.seg = C.seg ∧ (putC C cs ix).1.size = C.size + (segB (freshL C.L cs)).length := by
  obtain ⟨V, u, hv, h1, h2, h3, h4⟩ := h.ex
  have hlo := h.ok.lo
  have hhi := h.ok.hi
  simp only at hlo hhi
  have hns := named_seg hlo hhi
  have hmain := putC_main (C := C) (cs := cs) (ix := ix) (by rw [h.dead]; simp) (by rintro (e | ⟨c, hc1, hc2⟩); (· omega); (· have := hc c hc1; omega))
  obtain ⟨l, hl⟩ : ∃ l, l = freshL C.L cs := ⟨_, rfl⟩
  rw [← hl] at hmain hr ⊢
  have hlc : ∀ c ∈ l, c.length ≤ 1048576 := fun c hcl => hc c (by rw [hl] at hcl; exact (freshL_new cs C.L c hcl).2)
  have hok : (Mf.mk C.seg (C.size + (segB l).length) ix).Ok := ⟨hlo, hhi, by show C.size + _ ≤ _; omega, hi⟩
  -- the first step
  have hp1 : ∃ D1 j, put1 C l = (D1, 0) ∧ Vu D1 M j (mset V (nSeg C.seg) (some (segB (C.L ++ l), C.size + (segB l).length))) (u + (segB l).length) 2 ∧ j ≤ i + 2 := by
    have hsa : segB C.L ++ segB l = segB (C.L ++ l) := by unfold segB; rw [List.flatMap_append]
    by_cases he : l = []
    · refine ⟨C.D, i, put1_nil he, ?_, by omega⟩
      have hV : mset V (nSeg C.seg) (some (segB (C.L ++ l), C.size + (segB l).length)) = V := by
        funext z; unfold mset
        split
        · rename_i e; subst e; rw [h2, he]; simp [segB]
        · rfl
      rw [hV, he]; exact hv
    · obtain ⟨a1, a2⟩ := vu_append hv hns h2 (p := segB l) (by omega)
      obtain ⟨b1, b2⟩ := vu_sync a2 hns (f := (segB C.L ++ segB l, C.size)) (by unfold mset; rw [if_pos rfl])
      refine ⟨(syncD (appendD C.D (nSeg C.seg) (segB l)).1 (nSeg C.seg)).1, i + 2, ?_, ?_, Nat.le_refl _⟩
      · rw [put1_cons he]
        simp only [runD, andD_end]
        rw [andD_ok a1]
        exact Prod.ext rfl b1
      · have hV : mset (mset V (nSeg C.seg) (some (segB C.L ++ segB l, C.size))) (nSeg C.seg) (some (segB C.L ++ segB l, (segB C.L ++ segB l).length)) = mset V (nSeg C.seg) (some (segB (C.L ++ l), C.size + (segB l).length)) := by
          funext z; unfold mset
          split
          · rw [List.length_append, h.sz, hsa]
          · rfl
        rw [← hV]; exact b2
  obtain ⟨D1, j, hp, hv1, hj⟩ := hp1
  have hnn : mset V (nSeg C.seg) (some (segB (C.L ++ l), C.size + (segB l).length)) nNew = none := by
    unfold mset; rw [if_neg (fun e => seg_ne_new hlo hhi e.symm)]; exact h3 _ (fun e => man_ne_new e.symm) (fun e => seg_ne_new hlo hhi e.symm)
  obtain ⟨w1, u', n', w2, w3, w4⟩ := vu_write hv1 hnn (by omega) (b := manB ⟨C.seg, C.size + (segB l).length, ix⟩) (by omega)
  have hmm : mset V (nSeg C.seg) (some (segB (C.L ++ l), C.size + (segB l).length)) nMan = some (manB ⟨C.seg, C.size, C.index⟩, (manB ⟨C.seg, C.size, C.index⟩).length) := by
    unfold mset; rw [if_neg (fun e => seg_ne_man hlo hhi e.symm)]; exact h1
  rw [hmm] at w3 w4
  simp only [Option.map_some, Option.getD_some, reduceCtorEq, if_false] at w3 w4
  have hn2 : n' = 2 := by omega
  subst hn2
  have hR : putR C l ix = writeD D1 (manB ⟨C.seg, C.size + (segB l).length, ix⟩) := by
    unfold putR
    rw [hp]
    show writeM D1 _ = _
    unfold writeM
    rw [if_pos (errM_ok.2 hok)]
  rw [hmain, hR, if_neg (by rw [w1]; simp)]
  have w2 : Vu (writeD D1 (manB ⟨C.seg, C.size + (segB l).length, ix⟩)).1 M (i + 6) _ u' 2 := ⟨⟨w2.up.good.mono (by omega), w2.up.down, w2.up.left, w2.up.most⟩, w2.v, w2.used, w2.len⟩
  refine ⟨rfl, ⟨⟨_, u', w2, ?_, ?_, ?_, (by show u' = (manB ⟨C.seg, C.size + (segB l).length, ix⟩).length + (C.size + (segB l).length); omega)⟩, hok, ?_, ?_, h.dead, h.next⟩, rfl, rfl, rfl, rfl⟩
  · unfold mset; rw [if_pos rfl]
  · show mset _ nMan _ (nSeg C.seg) = _
    unfold mset; rw [if_neg (seg_ne_man hlo hhi), if_pos rfl]
  · intro k e1 e2
    show mset _ nMan _ k = none
    unfold mset; rw [if_neg e1, if_neg e2]; exact h3 k e1 e2
  · show (segB (C.L ++ l)).length = C.size + (segB l).length
    have e : segB (C.L ++ l) = segB C.L ++ segB l := by unfold segB; rw [List.flatMap_append]
    rw [e, List.length_append, h.sz]
  · intro c hcl
    rcases List.mem_append.1 hcl with e | e
    · exact h.cl c e
    · exact hlc c e
theorem Rst.cn {C : CS} {M i : Nat} (h : Rst C M i) (hM : M ≤ 16777216) (hl : C.L.length ≤ 4194304) : CN C i := by
  obtain ⟨V, u, hv, h1, h2, h3, h4⟩ := h.ex
  have := h.ok.ix
  have := h.ok.sz
  exact ⟨hv.up.good, h.ok.hi, (by have := h.ok.sz; simp only at this; omega), (by simp only at *; omega), (fun g z e => by rw [h.next] at e; cases e), hl, h.cl⟩
theorem manB_len {m : Mf} (h : m.Ok) : (manB m).length ≤ m.index.length + 35 := by
  have h1 := lebU_len10 (n := m.seg) (by have := h.hi; omega)
  have h2 := lebU_len10 (n := m.size) (by have := h.sz; omega)
  have h3 := seal_len 3 (manBody m) (manBody_len h)
  have h4 : (manBody m).length = (lebU m.seg).length + ((lebU m.size).length + m.index.length) := by simp [manBody]
  unfold manB
  omega
theorem ok_first : (Mf.mk 1 0 []).Ok := ⟨by show 1 ≤ 1; omega, by show 1 ≤ 999999; omega, by show 0 ≤ _; omega, by show 0 ≤ _; omega⟩
theorem man_first : (manB ⟨1, 0, []⟩).length ≤ 35 := manB_len ok_first
theorem aw20_seg : (segB [[97]]).length = 7 := by
  have h := aw_flat
  unfold segB
  rw [h]; exact aw_seal
theorem aw20_put {C : CS} (h : Rst C 1000 5) (hL : C.L = []) (hz : C.size = 0) (hi : C.index = []) (hs : C.seg = 1) :
    (putC C [[97]] [105]).2 = 0 ∧ Rst (putC C [[97]] [105]).1 1000 11 ∧ (putC C [[97]] [105]).1.L = [[97]] ∧ (putC C [[97]] [105]).1.index = [105] ∧ (putC C [[97]] [105]).1.size = 7 := by
  have hok : (Mf.mk 1 7 [105]).Ok := ⟨by show 1 ≤ 1; omega, by show 1 ≤ 999999; omega, by show 7 ≤ _; omega, by show 1 ≤ _; omega⟩
  have hm := manB_len hok
  have hf := man_first
  have e : freshL C.L [[97]] = [[97]] := by rw [hL]; rfl
  simp only [List.length_cons, List.length_nil] at hm
  obtain ⟨a, b, c, d, _, f⟩ := h.put (cs := [[97]]) (ix := [105]) (by intro x hx; simp only [List.mem_singleton] at hx; subst hx; show 1 ≤ _; omega) (by show 1 ≤ _; omega) (by omega) (by rw [e, aw20_seg, hz, hi, hs, show 0 + 7 = 7 from rfl]; omega)
  rw [e] at c f
  exact ⟨a, b, by rw [c, hL]; rfl, d, by rw [f, hz, aw20_seg]⟩
end Go.Proofs.Eng
end
section
set_option maxRecDepth 100000
set_option maxHeartbeats 4000000
namespace Go.Proofs.Eng
open Go.RowKit
open Extern.Stop (cell)
theorem fb11 : Tryz.f11.body.isNone = false := by kernel_rfl
theorem fb12 : Tryz.f12.body.isNone = false := by kernel_rfl
theorem fb13 : Tryz.f13.body.isNone = false := by kernel_rfl
theorem fb14 : Tryz.f14.body.isNone = false := by kernel_rfl
theorem fb15 : Tryz.f15.body.isNone = false := by kernel_rfl
theorem fb28 : Tryz.f28.body.isNone = false := by kernel_rfl
theorem fb30 : Tryz.f30.body.isNone = false := by kernel_rfl
theorem fb31 : Tryz.f31.body.isNone = false := by kernel_rfl
theorem fn11 : ngB Tryz.f11 = false := by kernel_rfl
theorem fn12 : ngB Tryz.f12 = false := by kernel_rfl
theorem fn13 : ngB Tryz.f13 = false := by kernel_rfl
theorem fn14 : ngB Tryz.f14 = false := by kernel_rfl
theorem fn15 : ngB Tryz.f15 = false := by kernel_rfl
theorem fn28 : ngB Tryz.f28 = false := by kernel_rfl
theorem fn30 : ngB Tryz.f30 = false := by kernel_rfl
theorem fn31 : ngB Tryz.f31 = false := by kernel_rfl
end Go.Proofs.Eng
end
section
set_option maxRecDepth 100000
set_option maxHeartbeats 4000000
namespace Go.Proofs.Eng
open Go.RowKit
open Extern.Stop (cell)
theorem law20_awake (w : World) (hg : Gt w) :
    Ret Tryz.prog 11 [] w (fun v w' => v = .bool true ∧ Ext w w') := by
 have hgs := hg.size
 have hX := Ext.refl w
 refine eN 65 Tryz.func11 ?_
 refine c_seq (r_plain ?_)
 refine pA (r_nil (t_n (c_seq (r_plain ?_))))
 have hXs1 := hX.size
 refine o_call Tryz.func13 fn13 fb13 (disk_New 1000 _) rfl ?_
 rintro v1 w1 ⟨⟨gd, rfl, hD⟩, hE1⟩
 have hX := hX.ext hE1
 have hg := hg.ext hE1
 have hD : Dsk (since w) _ gd (newD 1000) := hD.mono (fun k _ h => h.elim False.elim fun q => Nat.le_trans hXs1 q.1)
 refine pA (r_nil (t_n (c_seq (r_plain ?_))))
 refine pM ?_
 have hXs := hX.size
 refine o_call Tryz.func12 fn12 fb12 (chunks_Open gd (since w) (newD 1000) _ hD (newD_ok 1000) (by show 0 < _; omega) (by show (-1 : Int) ≤ _; omega) (fun x hx => by cases hx) (fun k h => Nat.le_trans hgs (show w.heap.size ≤ k from h)) hg) rfl ?_
 rintro v2 w2 ⟨⟨pv2, rfl, hor2⟩, hM2⟩
 obtain ⟨hn1, hn2, hn3, hn4, hn5, hn6⟩ := new_open (most := 1000) (M := 1000) (by rfl) (by have := man_first; omega)
 obtain ⟨ho2, g, rfl, hC⟩ := hor2.resolve_right (fun h => h.1 hn1)
 rw [ho2]
 obtain ⟨C1, hC1⟩ : ∃ c, c = (openC (newD 1000)).1 := ⟨_, rfl⟩
 rw [← hC1] at hC hn2 hn3 hn4 hn5 hn6
 have hX := hX.modS hM2 (since_le w)
 have hg := hg.modS hM2 (fun k h => Nat.le_trans hgs (show w.heap.size ≤ k from h))
 have hC := hC.sub (w := w) (fun j h => h.elim (fun h => h) fun q => Nat.le_trans hXs q.1)
 obtain ⟨Z, hZ⟩ : ∃ z, z = w2.heap.size := ⟨_, rfl⟩
 rw [← hZ] at hC
 have hXZ := Ext.refl w2
 have hwZ := hX.size
 obtain ⟨hp1, hp2, hp3, hp4, hp5⟩ := aw20_put hn2 hn3 hn4 hn5 hn6
 refine pM ?_
 refine p1 (x_extract rfl rfl) ?_
 refine p1 (x_extract rfl rfl) ?_
 refine pA (pA (r_nil (t_n (c_seq (c_seq (r_plain ?_))))))
 refine pM ?_
 refine p1 ((x_neq rfl rfl).cast (congrArg Value.bool (decide_eq_false (by simp)))) ?_
 refine pM (gM 13 ?_)
 refine g1 13 rfl rfl ((x_eql_ptrnil u30 rfl rfl).cast (congrArg Value.bool (decide_eq_false (by simp)))) ?_
 refine p1 (x_pick_f rfl (by conv => lhs; whnf)) ?_
 refine pM (gM 17 ?_)
 refine g_drop 17 rfl rfl ?_
 refine o_buildSlice u23 inf5 rfl (by decide) (fun base hb => fill_one (by rfl) base hb) ?_
 intro w3 g19 hN19
 have hN19 : New _ _ g19 ([(97 : UInt8)].map fun b => [cell b]).flatten.toArray 5 := hN19
 have hg19 := hN19.g_eq
 have hZs := hXZ.size
 have hO19 : Own kByte 5 0 0 w3 (some ⟨g19, 0, none⟩) 1 1 [(97 : UInt8)] := own_lit (B0 := 0) [(97 : UInt8)] hN19 (Nat.zero_le _) (by simp)
 have hJ19 := hO19.sl
 have hE3 := hN19.ext
 have hX := hX.ext hE3
 have hXZ := hXZ.ext hE3
 refine g_drop 17 rfl rfl ?_
 refine o_convBB u23 u5 rfl hN19.blk ?_
 intro w4 hO4 hR4
 have hX := hX.mod (hO4.mod (B := w.heap.size) (by omega)) (Nat.le_refl _)
 have hXZ := hXZ.mod (hO4.mod (B := Z) (by omega)) (by omega)
 have hs19 := (slx hJ19 hR4).re (Nat.le_refl _) 5
 have ho19 := out_new (w := w) (Z := Z) hs19 rfl (by omega)
 refine g_drop 17 rfl rfl ?_
 refine o_buildSlice u22 inf23 rfl (by decide) (fun base hb => fill_one (by rfl) base hb) ?_
 intro w5 g21 hN21
 have hB21 := hN21.blk
 have hE5 := hN21.ext
 have hs19 := hs19.ext hE5
 have hX := hX.ext hE5
 have hXZ := hXZ.ext hE5
 refine g_drop 17 rfl rfl ?_
 refine o_buildSlice u23 inf5 rfl (by decide) (fun base hb => fill_one (by rfl) base hb) ?_
 intro w6 g22 hN22
 have hN22 : New _ _ g22 ([(105 : UInt8)].map fun b => [cell b]).flatten.toArray 5 := hN22
 have hg22 := hN22.g_eq
 have hZs := hXZ.size
 have hO22 : Own kByte 5 0 0 w6 (some ⟨g22, 0, none⟩) 1 1 [(105 : UInt8)] := own_lit (B0 := 0) [(105 : UInt8)] hN22 (Nat.zero_le _) (by simp)
 have hJ22 := hO22.sl
 have hE6 := hN22.ext
 have hX := hX.ext hE6
 have hXZ := hXZ.ext hE6
 have hB21 := hB21.ext hE6
 refine g_drop 17 rfl rfl ?_
 refine o_convBB u23 u5 rfl hN22.blk ?_
 intro w7 hO7 hR7
 have hX := hX.mod (hO7.mod (B := w.heap.size) (by omega)) (Nat.le_refl _)
 have hXZ := hXZ.mod (hO7.mod (B := Z) (by omega)) (by omega)
 have hs22 := (slx hJ22 hR7).re (Nat.le_refl _) 5
 have ho22 := out_new (w := w) (Z := Z) hs22 rfl (by omega)
 have hs19 := (slx (hs19.ext hN22.ext) hR7).re (Nat.le_refl _) 5
 have hB21 := hB21.one hO7 (by decide)
 have hkl := sl1_blk hB21 hs19
 refine g_drop 17 rfl rfl ?_
 obtain ⟨Sd, r, μ, pi, ni, ci, nx, hCX⟩ := hC.ext hXZ
 refine o_call Tryz.func14 fn14 fb14 (store_Put g gd r (sub w Z) Sd μ pi nx ni ci C1 5 _ hCX (hn2.cn (by omega) (by rw [hn3]; simp)) (fun j h => Nat.le_trans hgs h.1) (hg.ext hXZ) (by omega) [[97]] _ _ _ _ hkl (Nat.le_refl _) (by omega) [105] _ _ _ ho22) rfl ?_
 rintro v8 w8 ⟨rfl, hC, hM8⟩
 rw [hp1]
 have hX := hX.modS hM8 (fun k h => h.1)
 have hg := (hg.ext hXZ).modS hM8 (fun j h => Nat.le_trans hgs h.1)
 obtain ⟨C2, hC2⟩ : ∃ c, c = (putC C1 [[97]] [105]).1 := ⟨_, rfl⟩
 rw [← hC2] at hC hp2 hp3 hp4 hp5
 obtain ⟨Sd, r, μ, pi, ni, ci, nx, hCX⟩ := hC
 have hXs3 := hXZ.size
 have hD : Dsk (since w) _ gd C2.D := hCX.d.mono (fun j _ h => (hCX.sub j h).elim (fun h => h.1) fun q => by show w.heap.size ≤ j; have := q.1; omega)
 have hU := hp2.cn (by omega) (by rw [hp3]; simp)
 refine g1 17 rfl rfl ((x_neq rfl rfl).cast (congrArg Value.bool (decide_eq_false (by simp)))) ?_
 refine p1 (x_pick_f rfl (by conv => lhs; whnf)) ?_
 refine r_nil (t_n ?_)
 refine c_f rfl ?_
 refine c_skip (t_n (c_seq (r_plain ?_)))
 refine pM ?_
 have hXs := hX.size
 refine o_call Tryz.func12 fn12 fb12 (chunks_Open gd (since w) C2.D _ hD hU.good.ok (Nat.lt_of_le_of_lt hU.good.steps (by omega)) hU.good.left hU.good.names (fun k h => Nat.le_trans hgs (show w.heap.size ≤ k from h)) hg) rfl ?_
 rintro v9 w9 ⟨⟨pv9, rfl, hor9⟩, hM9⟩
 obtain ⟨ho3, g2, rfl, hC⟩ := hor9.resolve_right (fun h => h.1 (by rw [hp2.open]))
 rw [ho3]
 rw [hp2.open] at hC
 have hX := hX.modS hM9 (since_le w)
 obtain ⟨Se, r2, μ2, pi2, ni2, ci2, nx2, hCX⟩ := hC
 refine pM ?_
 refine p1 (x_extract rfl rfl) ?_
 refine p1 (x_extract rfl rfl) ?_
 refine pA (pA (r_nil (t_n (c_seq (r_plain ?_)))))
 refine pM ?_
 refine p1 ((x_eql rfl rfl).cast (congrArg Value.bool (decide_eq_true (rfl)))) ?_
 refine pM (gM 34 ?_)
 refine g1 34 rfl rfl ((x_neq_ptrnil u30 rfl rfl).cast (congrArg Value.bool (decide_eq_true (by simp)))) ?_
 refine p1 (x_pick_t rfl (by conv => lhs; whnf)) ?_
 refine pM (gM 38 ?_)
 refine g_drop 38 rfl rfl ?_
 refine o_call Tryz.func31 fn31 fb31 (store_Index g2 gd r2 _ Se μ2 pi2 nx2 ni2 ci2 C2 11 _ hCX hU) rfl ?_
 rintro v10 w10 ⟨⟨qi, mi, cj, rfl, hO⟩, hE10⟩
 have hX := hX.ext hE10
 have hCX := hCX.ext hE10
 rw [hp4] at hO
 refine g1 38 rfl rfl (x_bytes_str u23 u5 u9 rfl hO.sl) ?_
 refine g1 38 rfl rfl ((x_eql_str rfl (show _ = Value.string (toStr [105]) from rfl)).cast (congrArg Value.bool (decide_eq_true (rfl)))) ?_
 refine p1 (x_pick_t rfl (by conv => lhs; whnf)) ?_
 refine pM (gM 44 ?_)
 refine g_drop 44 rfl rfl ?_
 refine o_call Tryz.func15 fn15 fb15 (store_Size g2 gd r2 _ Se μ2 pi2 nx2 ni2 ci2 C2 11 _ hCX hU) rfl ?_
 rintro v11 w11 ⟨rfl, hE11⟩
 have hX := hX.ext hE11
 have hCX := hCX.ext hE11
 refine g1 44 rfl rfl ((x_eql rfl rfl).cast (congrArg Value.bool (decide_eq_true (by rw [hp5]; rfl)))) ?_
 refine p1 (x_pick_t rfl (by conv => lhs; whnf)) ?_
 refine pM (gM 49 ?_)
 refine g_drop 49 rfl rfl ?_
 refine o_call Tryz.func30 fn30 fb30 (store_List g2 gd r2 _ Se μ2 pi2 nx2 ni2 ci2 C2 11 _ hCX hU) rfl ?_
 rintro v12 w12 ⟨⟨qk, mk, ck, rfl, hK⟩, hE12⟩
 have hX := hX.ext hE12
 have hkl := hK.len
 rw [hp3] at hkl
 have hk1 : mk = 1 := hkl.symm
 refine g1 49 rfl rfl (x_len_slice u54 rfl) ?_
 refine g1 49 rfl rfl ((x_eql rfl rfl).cast (congrArg Value.bool (decide_eq_true (by rw [hk1]; rfl)))) ?_
 refine p1 (x_pick_t rfl (by conv => lhs; whnf)) ?_
 refine pM ?_
 refine p1 (x_pick_t rfl (by conv => lhs; whnf)) ?_
 refine pM ?_
 refine p1 (x_pick_t rfl (by conv => lhs; whnf)) ?_
 refine pM ?_
 refine p1 (x_pick_t rfl (by conv => lhs; whnf)) ?_
 refine pM ?_
 refine p1 (x_pick_t rfl (by conv => lhs; whnf)) ?_
 refine pM ?_
 refine p1 (x_pick_t rfl (by conv => lhs; whnf)) ?_
 refine pA (r_nil (t_n (c_ret ?_)))
 refine eR1 ?_
 exact ⟨rfl, hX⟩
end Go.Proofs.Eng
end
section
namespace Go.Proofs.Eng
open Go.RowKit
open Extern.Stop (cell)
def kLo : Kind By where
  sz := 1
  E := []
  K := fun B w x cs => ∃ p n c, cs = [.slice p n c] ∧ Lo B w p n c x
  len := by rintro _ _ _ _ ⟨p, n, c, rfl, _⟩; rfl
  one := by
    rintro _ _ _ _ ⟨p, n, c, rfl, _⟩ v hv
    simp only [List.mem_singleton] at hv
    subst hv; rfl
  keep := fun hs ⟨p, n, c, h1, h2⟩ => ⟨p, n, c, h1, h2.keep hs⟩
  mono := fun hB ⟨p, n, c, h1, h2⟩ => ⟨p, n, c, h1, h2.mono hB⟩
theorem kLo_pos : 0 < kLo.sz := Nat.one_pos
theorem Lo.sl5 {B n c : Nat} {w : World} {p : Option Addr} {xs : By} (h : Lo B w p n c xs) : Sl kByte 5 B w p n c xs :=
  ⟨h.len, h.cap, h.fit, _, byte_all _ w xs, by rw [flat_single]; exact ⟨h.row, fun hne => .inl (h.low (by intro e; rw [e] at hne; exact hne rfl))⟩⟩
theorem Sl.loAt {e B : Nat} {w : World} {p : Option Addr} {n c : Nat} {l : List By} (h : Sl kLo e B w p n c l) (i : Nat) (hi : i < n) : ∃ q m c1, w.cell? ⟨ab p, ao p + i, none⟩ = some (.slice q m c1) ∧ Lo B w q m c1 (l.getD i []) := by
  obtain ⟨cs, ⟨q, m, c1, rfl, hs⟩, hr⟩ := h.get [] i hi
  have := hr 0 _ rfl
  have e1 : kLo.sz = 1 := rfl
  rw [e1] at this
  exact ⟨q, m, c1, by simpa using this, hs⟩
theorem Kind.All.impK {α : Type} (d d' : Kind α) {B : Nat} {w : World} (hk : ∀ x c, d.K B w x c → d'.K B w x c) : ∀ {xs : List α} {cs : List (List Value)}, d.All B w xs cs → d'.All B w xs cs
  | [], [], _ => trivial
  | _ :: _, _ :: _, h => ⟨hk _ _ h.1, Kind.All.impK d d' hk h.2⟩
  | [], _ :: _, h => h.elim
  | _ :: _, [], h => h.elim
theorem Sl.loSl {e B : Nat} {w : World} {p : Option Addr} {n c : Nat} {l : List By} (h : Sl kLo e B w p n c l) : Sl (kSl kByte 5) e B w p n c l := by
  obtain ⟨css, ha, hr⟩ := h.row
  exact ⟨h.len, h.cap, h.fit, css, Kind.All.impK kLo (kSl kByte 5) (fun x cs ⟨q, m, c1, h1, h2⟩ => ⟨q, m, c1, h1, h2.sl5⟩) ha, hr⟩
theorem lo_arg {e n c : Nat} {w : World} {p : Option Addr} {l : List By} (h : Sl (kSl kByte 5) e w.heap.size w p n c l) : Sl kLo e w.heap.size w p n c l := by
  obtain ⟨css, ha, hr⟩ := h.row
  refine ⟨h.len, h.cap, h.fit, css, Kind.All.impK (kSl kByte 5) kLo (fun x cs ⟨q, m, c1, h1, h2⟩ => ⟨q, m, c1, h1, ?_⟩) ha, hr⟩
  have hr2 := h2.pureRow.row
  rw [flat_single] at hr2
  exact ⟨h2.len, h2.cap, h2.fit, hr2, fun hne => hr2.lt (by intro e; exact hne (List.map_eq_nil_iff.1 e))⟩
theorem lo_row {e n c : Nat} {w : World} {p : Option Addr} {xs : By} (h : Sl kByte e w.heap.size w p n c xs) : Lo w.heap.size w p n c xs := by
  have hr2 := h.pureRow.row
  rw [flat_single] at hr2
  exact ⟨h.len, h.cap, h.fit, hr2, fun hne => hr2.lt (by intro e; exact hne (List.map_eq_nil_iff.1 e))⟩
theorem Lo.nil (B : Nat) (w : World) : Lo B w none 0 0 [] := ⟨rfl, Nat.le_refl _, by omega, Row.nil _ _, fun h => absurd rfl h⟩
theorem Lo.ext {B n c : Nat} {w w' : World} {p : Option Addr} {xs : By} (h : Lo B w p n c xs) (x : Ext w w') : Lo B w' p n c xs := h.keep (x.same B [])
structure CAct where
  k : UInt8
  picks : By
  index : By
  n : Int
  done : Bool
  keep : By
instance : Inhabited CAct := ⟨⟨0, [], [], 0, false, []⟩⟩
def kCA : Kind CAct where
  sz := 6
  E := []
  K := fun B w x cs => ∃ p n c p2 n2 c2 p3 n3 c3, cs = [.int .u8 x.k.toNat, .slice p n c, .slice p2 n2 c2, .int .i64 x.n, .bool x.done, .slice p3 n3 c3] ∧ Lo B w p n c x.picks ∧ Lo B w p2 n2 c2 x.index ∧ Lo B w p3 n3 c3 x.keep ∧ -9223372036854775808 ≤ x.n ∧ x.n ≤ 9223372036854775807
  len := by rintro _ _ _ _ ⟨p, n, c, p2, n2, c2, p3, n3, c3, rfl, _⟩; rfl
  one := by
    rintro _ _ _ _ ⟨p, n, c, p2, n2, c2, p3, n3, c3, rfl, _⟩ v hv
    simp only [List.mem_cons, List.not_mem_nil, or_false] at hv
    rcases hv with rfl | rfl | rfl | rfl | rfl | rfl <;> rfl
  keep := fun hs ⟨p, n, c, p2, n2, c2, p3, n3, c3, h1, h2, h3, h4, h5⟩ => ⟨p, n, c, p2, n2, c2, p3, n3, c3, h1, h2.keep hs, h3.keep hs, h4.keep hs, h5⟩
  mono := fun hB ⟨p, n, c, p2, n2, c2, p3, n3, c3, h1, h2, h3, h4, h5⟩ => ⟨p, n, c, p2, n2, c2, p3, n3, c3, h1, h2.mono hB, h3.mono hB, h4.mono hB, h5⟩
theorem kCA_pos : 0 < kCA.sz := by decide
theorem Sl.caAt {e B : Nat} {w : World} {p : Option Addr} {n c : Nat} {l : List CAct} (h : Sl kCA e B w p n c l) (i : Nat) (hi : i < n) : ∃ p1 n1 c1 p2 n2 c2 p3 n3 c3, w.rangeAt (ab p) (ao p + i * 6) [.int .u8 (l.getD i default).k.toNat, .slice p1 n1 c1, .slice p2 n2 c2, .int .i64 (l.getD i default).n, .bool (l.getD i default).done, .slice p3 n3 c3] ∧
    Lo B w p1 n1 c1 (l.getD i default).picks ∧ Lo B w p2 n2 c2 (l.getD i default).index ∧ Lo B w p3 n3 c3 (l.getD i default).keep ∧ -9223372036854775808 ≤ (l.getD i default).n ∧ (l.getD i default).n ≤ 9223372036854775807 := by
  obtain ⟨cs, ⟨p1, n1, c1, p2, n2, c2, p3, n3, c3, rfl, hs⟩, hr⟩ := h.get default i hi
  exact ⟨p1, n1, c1, p2, n2, c2, p3, n3, c3, hr, hs⟩
def msum (l : List By) : Nat := (l.map fun x => min x.length 4001).sum
theorem msum_take {l : List By} {k : Nat} (h : k < l.length) : msum (l.take (k + 1)) = msum (l.take k) + min (l.getD k []).length 4001 := by
  rw [take_snoc h]; unfold msum; rw [List.map_append, List.sum_append]; simp
theorem msum_le : ∀ {l : List By}, msum l ≤ 4000 → (∀ x ∈ l, x.length ≤ 4000) ∧ (l.map List.length).sum ≤ msum l
  | [], _ => ⟨(fun x hx => by cases hx), Nat.le_refl _⟩
  | x :: l, h => by
    have e : msum (x :: l) = min x.length 4001 + msum l := by unfold msum; rw [List.map_cons, List.sum_cons]
    have ih := msum_le (l := l) (by omega)
    refine ⟨fun y hy => ?_, ?_⟩
    · rcases List.mem_cons.1 hy with rfl | hy
      · omega
      · exact ih.1 y hy
    · rw [List.map_cons, List.sum_cons, e]; have := ih.2; omega
theorem msum_len (l : List By) : msum l ≤ l.length * 4001 := by
  induction l with
  | nil => simp [msum]
  | cons x l ih => have e : msum (x :: l) = min x.length 4001 + msum l := by unfold msum; rw [List.map_cons, List.sum_cons]
                   rw [e, List.length_cons]; omega
section
variable {P : Program} {w : World} {T : TypeId}
theorem x_buildA {x : Operand} {z0 z1 z2 z3 z4 z5 : Value} {q : Option Addr} {m c : Nat} {n : Nat} {f : Nat → Value} {ty0 : TypeId} {pos : String} {aft : Array Edge} {dst : Option Nat} {gd : Option (Nat × Bool)}
    (hP : placed P T = some (.agg #[z0, z1, z2, z3, z4, z5], [(0, 1), (1, 1), (2, 1), (3, 1), (4, 1), (5, 1)])) (hx : ev n f x = .slice q m c) :
    Ex P w n f ⟨dst, .build T #[(2, x)], ty0, pos, aft, gd⟩ (.agg #[z0, z1, .slice q m c, z3, z4, z5]) :=
  x_build (parts := [(2, x)]) (ps := [(2, .slice q m c)]) hP (by rw [← hx]; rfl) (by show Instr.fill _ #[z0, z1, z2, z3, z4, z5] _ = _; simp [Instr.fill, Value.cells] <;> rfl)
end
theorem act_one {w w' : World} {B g m c : Nat} {q : Option Addr} {ix : By} (hN : New w w' g #[.int .u8 0, .slice none 0 0, .slice q m c, .int .i64 0, .bool false, .slice none 0 0] (26)) (h : Lo B w' q m c ix) (hB : B ≤ w.heap.size) :
    Sl kCA 26 B w' (some ⟨g, 0, none⟩) 1 1 [⟨0, [], ix, 0, false, []⟩] :=
  (Own.made (cs := #[.int .u8 0, .slice none 0 0, .slice q m c, .int .i64 0, .bool false, .slice none 0 0]) kCA 26 B B hN [⟨0, [], ix, 0, false, []⟩] [[.int .u8 0, .slice none 0 0, .slice q m c, .int .i64 0, .bool false, .slice none 0 0]] 1 1 rfl
    ⟨⟨_, _, _, _, _, _, _, _, _, rfl, Lo.nil _ _, h, Lo.nil _ _, by show (-9223372036854775808 : Int) ≤ 0; omega, by show (0 : Int) ≤ _; omega⟩, trivial⟩ hB (Nat.le_refl _) (by omega) rfl rfl).sl
theorem lo_empty {w w' : World} {B g : Nat} (hN : New w w' g #[] (23)) (Z : Nat) (hZ : Z ≤ w.heap.size) : Own kLo 23 B Z w' (some ⟨g, 0, none⟩) 0 0 [] :=
  Own.made (cs := #[]) kLo 23 B Z hN [] [] 0 0 rfl trivial hZ (Nat.le_refl _) (by omega) rfl rfl
end Go.Proofs.Eng
end
section
set_option maxRecDepth 100000
set_option maxHeartbeats 4000000
namespace Go.Proofs.Eng
open Go.RowKit
open Extern.Stop (cell)
theorem fb41 : Tryz.f41.body.isNone = false := by kernel_rfl
theorem fn41 : ngB Tryz.f41 = false := by kernel_rfl
theorem fo26_2 : fieldOf Tryz.prog 26 2 = some (23, 2) := by kernel_rfl
theorem sz26 : (Tryz.prog.info? 26).map (·.size) = some 6 := by kernel_rfl
theorem u27 : Tryz.prog.underlying 27 = some (.slice 26) := by kernel_rfl
end Go.Proofs.Eng
end
section
set_option maxRecDepth 100000
set_option maxHeartbeats 4000000
namespace Go.Proofs.Eng
open Go.RowKit
open Extern.Stop (cell)
theorem ref20_Few (xss : List By) (B : Nat) (p : Option Addr) (n c : Nat) (w : World) (hl : Sl kLo 23 B w p n c xss) (acts : List CAct) (B2 : Nat) (q : Option Addr) (m c2 : Nat) (ha : Sl kCA 26 B2 w q m c2 acts) :
    Ret Tryz.prog 9 [.slice p n c, .slice q m c2] w (fun v w' => (∃ b : Bool, v = .bool b ∧ (b = true → xss.length ≤ 20 ∧ acts.length ≤ 60 ∧ msum xss + msum (acts.map CAct.index) ≤ 4000)) ∧ Ext w w') := by
 have hX := Ext.refl w
 refine eN 47 Tryz.func9 ?_
 refine c_seq (r_plain ?_)
 refine pA (r_nil (t_n (c_seq (c_seq ?_))))
 have hWr1 := Ext.refl w
 refine c_cut (ι := Unit) [8, 9, 10, 11, 12, 13, 14, 15] (fun _ => [(15, .bool (decide (20 < n ∨ 60 < m)))]) (fun _ w' => Ext w w') ?_ ?_
 ·skip
  refine r_plain ?_
  refine pM ?_
  refine p1 (x_len_slice u22 rfl) ?_
  refine p1 (x_gtr rfl rfl) ?_
  refine p1b (x_move (by conv => lhs; whnf)) (fun hb1_3 => ?_) (fun hb1_3 => ?_)
  ·refine gF 11 (gF 11 (gF 11 ?_))
   refine p1 (x_pick_t rfl (by conv => lhs; whnf)) ?_
   refine r_nil ?_
   refine t_n (aK () ⟨congrArg Value.bool (by first | rfl | exact (decide_eq_true (by omega)).symm | exact (decide_eq_false (by omega)).symm | exact decide_eq_decide.2 (by omega) | (simp_all; done) | grind), trivial⟩ hWr1)
  refine gM 11 ?_
  refine g1 11 rfl rfl (x_len_slice u27 rfl) ?_
  refine g1 11 rfl rfl (x_gtr rfl rfl) ?_
  refine p1 (x_pick_f rfl (by conv => lhs; whnf)) ?_
  refine r_nil ?_
  refine t_n (aK () ⟨congrArg Value.bool (by first | rfl | exact (decide_eq_true (by omega)).symm | exact (decide_eq_false (by omega)).symm | exact decide_eq_decide.2 (by omega) | (simp_all; done) | grind), trivial⟩ hWr1)
 rintro _ Gr1 w1 hE1
 have hX := hX.ext hE1
 refine t_n ?_
 first | refine c_dec rfl (fun hc15 => ?_) (fun hc15 => ?_) | refine c_if rfl (fun hc15 => ?_) (fun hc15 => ?_)
 ·refine c_seq (r_plain ?_)
  refine pA (r_nil (t_n (c_ret (t_r ?_))))
  refine eR1 ?_
  first
    | exact ⟨⟨false, rfl, fun h => by cases h⟩, hX⟩
    | exact ⟨⟨_, rfl, fun h => ⟨by omega, by omega, by have := of_decide_eq_true h; rw [hkk, hkj] at this; omega⟩⟩, hX⟩
 refine c_skip (t_n (c_seq (r_plain ?_)))
 refine pA (r_nil (t_n (c_seq (c_seq ?_))))
 have hln := hl.len
 have hlc := hl.cap
 have hlf := hl.fit
 have han := ha.len
 have hac := ha.cap
 have haf := ha.fit
 refine r_plain ?_
 refine pA (r_nil (t_n (c_block ?_)))
 have hWL0 := Ext.refl w1
 refine c_loop (ι := Nat) [5, 6, 16, 17, 18, 19, 20, 21, 22, 23, 24, 25, 26, 27, 28, 29] (fun k => [(5, .int .i64 ((msum (xss.take k) : Nat) : Int)), (6, .int .i64 (k : Int))]) (fun k w' => Ext w1 w' ∧ (k ≤ n)) (fun k => n - k) (0) ⟨rfl, rfl, trivial⟩ ⟨Ext.refl _, by omega⟩ ?_
 rintro k GL0 w2 ⟨hE2, hk⟩
 have hX := hX.ext hE2
 have hWL0 := hE2
 have hms := msum_len (xss.take k)
 rw [List.length_take] at hms
 refine c_seq (c_seq (r_plain ?_))
 refine pM (pM ?_)
 refine p1 (x_len_slice u22 rfl) ?_
 refine p1 (x_lss rfl rfl) ?_
 refine r_nil (t_n ?_)
 first | refine c_dec rfl (fun hc19 => ?_) (fun hc19 => ?_) | refine c_if rfl (fun hc19 => ?_) (fun hc19 => ?_)
 ·refine c_skip (t_n (c_seq (c_block ?_)))
  obtain ⟨qk, mk, ck, hck, hrow⟩ := hl.loAt k (by omega)
  have hrl := hrow.len
  have hst := msum_take (l := xss) (k := k) (by omega)
  refine r_plain ?_
  refine pM (pM (pM ?_))
  refine p1 (x_ixs0 (i := k) u22 sz23 rfl rfl ((hl.ext hX).adr kLo_pos (by omega)) (by omega)) ?_
  refine p1 (x_load1 un23 rfl (hX.cell hck)) ?_
  refine p1 (x_len_slice u23 rfl) ?_
  refine p1 (x_min rfl rfl) ?_
  refine p1 ((x_add rfl rfl (fits_i64 (by omega) (by omega))).cast (congrArg (Value.int .i64) (by rw [hst, hrl]; omega : _ = ((msum (xss.take (k + 1)) : Nat) : Int)))) ?_
  refine pA (r_nil (b_n (t_n (r_plain ?_))))
  refine pM ?_
  refine p1 (x_add rfl rfl (fits_i64 (by omega) (by omega))) ?_
  refine pA (r_nil ?_)
  refine t_n (aK (k + 1) ⟨rfl, rfl, trivial⟩ ?_)
  exact ⟨⟨hWL0, (by omega)⟩, by first | (dsimp only; omega) | ((show _ < _); omega)⟩
 have hkk : xss.take k = xss := List.take_of_length_le (by omega)
 refine c_exit (t_e (t_e (b_hit (t_n (c_seq (c_seq (r_plain ?_)))))))
 refine pA (r_nil (t_n (c_block ?_)))
 have hWL2 := Ext.refl w2
 refine c_loop (ι := Nat) [5, 7, 30, 31, 32, 33, 34, 35, 36, 37, 38, 39, 40, 41, 42, 43, 44] (fun j => [(5, .int .i64 ((msum (xss.take k) + msum ((acts.map CAct.index).take j) : Nat) : Int)), (7, .int .i64 (j : Int))]) (fun j w' => Ext w2 w' ∧ (j ≤ m)) (fun j => m - j) (0) ⟨rfl, rfl, trivial⟩ ⟨Ext.refl _, by omega⟩ ?_
 rintro j GL2 w3 ⟨hE3, hj⟩
 have hX := hX.ext hE3
 have hWL2 := hE3
 have hms2 := msum_len ((acts.map CAct.index).take j)
 rw [List.length_take] at hms2
 refine c_seq (c_seq (r_plain ?_))
 refine pM (pM ?_)
 refine p1 (x_len_slice u27 rfl) ?_
 refine p1 (x_lss rfl rfl) ?_
 refine r_nil (t_n ?_)
 first | refine c_dec rfl (fun hc33 => ?_) (fun hc33 => ?_) | refine c_if rfl (fun hc33 => ?_) (fun hc33 => ?_)
 ·refine c_skip (t_n (c_seq (c_block ?_)))
  obtain ⟨pa1, na1, ca1, pa2, na2, ca2, pa3, na3, ca3, hra, hr1, hr2, hr3, hb1, hb2⟩ := ha.caAt j (by omega)
  have hrl2 := hr2.len
  have hst2 := msum_take (l := acts.map CAct.index) (k := j) (by rw [List.length_map]; omega)
  have hge : (acts.map CAct.index).getD j [] = (acts.getD j default).index := by rw [List.getD_eq_getElem?_getD, List.getD_eq_getElem?_getD, List.getElem?_map, List.getElem?_eq_getElem (by omega)]; rfl
  rw [hge] at hst2
  refine r_plain ?_
  refine pM (pM (pM ?_))
  refine p1 (x_ixs u27 sz26 rfl rfl ((ha.ext hX).adr kCA_pos (by omega)) (by omega) (by omega)) ?_
  refine p1 (x_fieldAddr fo26_2 sz23 rfl) ?_
  refine p1 (x_load1 un23 rfl (hX.cell (hra 2 _ rfl))) ?_
  refine p1 (x_len_slice u23 rfl) ?_
  refine p1 (x_min rfl rfl) ?_
  refine p1 ((x_add rfl rfl (fits_i64 (by omega) (by omega))).cast (congrArg (Value.int .i64) (by rw [hst2, hrl2]; omega : _ = ((msum (xss.take k) + msum ((acts.map CAct.index).take (j + 1)) : Nat) : Int)))) ?_
  refine pA (r_nil (b_n (t_n (r_plain ?_))))
  refine pM ?_
  refine p1 (x_add rfl rfl (fits_i64 (by omega) (by omega))) ?_
  refine pA (r_nil ?_)
  refine t_n (aK (j + 1) ⟨rfl, rfl, trivial⟩ ?_)
  exact ⟨⟨hWL2, (by omega)⟩, by first | (dsimp only; omega) | ((show _ < _); omega)⟩
 have hkj : (acts.map CAct.index).take j = acts.map CAct.index := List.take_of_length_le (by rw [List.length_map]; omega)
 refine c_exit (t_e (t_e (b_hit (t_n (c_seq (r_plain ?_))))))
 refine pM ?_
 refine p1 (x_leq rfl rfl) ?_
 refine pA (r_nil (t_n (c_ret ?_)))
 refine eR1 ?_
 first
   | exact ⟨⟨false, rfl, fun h => by cases h⟩, hX⟩
   | exact ⟨⟨_, rfl, fun h => ⟨by omega, by omega, by have := of_decide_eq_true h; rw [hkk, hkj] at this; omega⟩⟩, hX⟩
theorem apart_all {l : List By} (h : ∀ a b, a < l.length → b < a → shaF (l.getD a []) = shaF (l.getD b []) → l.getD a [] = l.getD b []) : ∀ x ∈ l, ∀ y ∈ l, shaF x = shaF y → x = y := fun x hx y hy e => by
  obtain ⟨a, ha, ea⟩ := List.mem_iff_getElem.1 hx
  obtain ⟨b, hb, eb⟩ := List.mem_iff_getElem.1 hy
  have ea : l.getD a [] = x := by rw [List.getD_eq_getElem?_getD, List.getElem?_eq_getElem ha, ← ea]; rfl
  have eb : l.getD b [] = y := by rw [List.getD_eq_getElem?_getD, List.getElem?_eq_getElem hb, ← eb]; rfl
  rw [← ea, ← eb] at e ⊢
  rcases Nat.lt_trichotomy a b with q | q | q
  · exact (h b a hb q e.symm).symm
  · rw [q]
  · exact h a b ha q e
def HasP (C : CS) (l : List By) (ix : By) : Prop := (∀ x ∈ l, findF C.L (shaF x) = some x) ∧ srt (C.L.map shaF) = srt (l.map shaF) ∧ C.index = ix
theorem law20_apart (xss : List By) (B : Nat) (p : Option Addr) (n c : Nat) (w : World) (hl : Sl kLo 23 B w p n c xss) (hg : Gt w) (hBw : B ≤ w.heap.size) (hle : ∀ x ∈ xss, x.length ≤ 4000) :
    Ret Tryz.prog 10 [.slice p n c] w (fun v w' => (∃ b : Bool, v = .bool b ∧ (b = true → ∀ x ∈ xss, ∀ y ∈ xss, shaF x = shaF y → x = y)) ∧ Ext w w') := by
 have hX := Ext.refl w
 refine eN 40 Tryz.func10 ?_
 refine c_seq (r_plain ?_)
 refine pA (r_nil (t_n (c_seq (c_seq ?_))))
 have hln := hl.len
 have hlc := hl.cap
 have hlf := hl.fit
 have hle : ∀ x, xss.getD x [] ∈ xss → (xss.getD x []).length ≤ 4000 := fun x hx => hle _ hx
 have hmm : ∀ i, i < n → xss.getD i [] ∈ xss := fun i hi => mem_of_getD (z := []) (i := i) (by omega) rfl
 refine r_plain ?_
 refine pA (r_nil (t_n (c_block ?_)))
 have hWL0 := Ext.refl w
 refine c_loop (ι := Nat) [2, 3, 4, 5, 6, 7, 8, 9, 10, 11, 12, 13, 14, 15, 16, 17, 18, 19, 20, 21, 22, 23, 24, 25, 26, 27, 28, 29, 30, 31, 32, 33, 34, 35, 36, 37, 38, 39] (fun i => [(3, .int .i64 (i : Int))]) (fun i w' => Ext w w' ∧ (i ≤ n ∧ ∀ a b, a < i → b < a → shaF (xss.getD a []) = shaF (xss.getD b []) → xss.getD a [] = xss.getD b [])) (fun i => n - i) (0) ⟨rfl, trivial⟩ ⟨Ext.refl _, ⟨by omega, fun a b h => by omega⟩⟩ ?_
 rintro i GL0 w1 ⟨hE1, hi, hA⟩
 have hX := hX.ext hE1
 have hWL0 := hE1
 refine c_seq (c_seq (r_plain ?_))
 refine pM (pM ?_)
 refine p1 (x_len_slice u22 rfl) ?_
 refine p1 (x_lss rfl rfl) ?_
 refine r_nil (t_n ?_)
 first | refine c_dec rfl (fun hc8 => ?_) (fun hc8 => ?_) | refine c_if rfl (fun hc8 => ?_) (fun hc8 => ?_)
 ·refine c_skip (t_n (c_seq (c_block (c_seq (r_plain ?_)))))
  refine pA (r_nil (t_n (c_block ?_)))
  have hWL2 := Ext.refl w1
  refine c_loop (ι := Nat) [2, 4, 11, 12, 13, 14, 15, 16, 17, 18, 19, 20, 21, 22, 23, 24, 25, 26, 27, 28, 29, 30, 31, 32, 33, 34, 35, 36, 37, 38, 39] (fun k => [(4, .int .i64 (k : Int))]) (fun k w' => Ext w1 w' ∧ (k ≤ i ∧ ∀ b, b < k → shaF (xss.getD i []) = shaF (xss.getD b []) → xss.getD i [] = xss.getD b [])) (fun k => i - k) (0) ⟨rfl, trivial⟩ ⟨Ext.refl _, ⟨by omega, fun b h => by omega⟩⟩ ?_
  rintro k GL2 w2 ⟨hE2, hk, hK⟩
  have hX := hX.ext hE2
  have hWL0 := hWL0.ext hE2
  have hWL2 := hE2
  refine c_seq (c_seq (r_plain ?_))
  refine pM (pM ?_)
  refine p1 (x_lss rfl rfl) ?_
  refine r_nil (t_n ?_)
  first | refine c_dec rfl (fun hc13 => ?_) (fun hc13 => ?_) | refine c_if rfl (fun hc13 => ?_) (fun hc13 => ?_)
  ·refine c_skip (t_n (c_seq (c_block (c_seq ?_))))
   obtain ⟨q1, m1, c1, hc1, hr1⟩ := hl.loAt i (by omega)
   obtain ⟨q2, m2, c2, hc2, hr2⟩ := hl.loAt k (by omega)
   have hl1 := hle i (hmm i (by omega))
   have hl2 := hle k (hmm k (by omega))
   have hn1 := hr1.len
   have hn2 := hr2.len
   refine r_held (fun w1 w2 => Ext w1 w2) mixed ?_
   intro w3 hE3
   have hX := hX.ext hE3
   have hWL2 := hWL2.ext hE3
   have hSr7 : (fun w1 w2 => Ext w1 w2) w3 w3 := Ext.refl w3
   refine hT 0 rfl hSr7 (fun wS hSS => by (exact (x_move (by conv => lhs; whnf)))) ?_
   refine hT 1 rfl hSr7 (fun wS hSS => by (exact (x_move (by conv => lhs; whnf)))) ?_
   refine hT 2 rfl hSr7 (fun wS hSS => by (have hX := hX.ext hSS; exact (x_ixs0 (i := i) u22 sz23 rfl rfl ((hl.ext hX).adr kLo_pos (by omega)) (by omega)))) ?_
   refine hT 3 rfl hSr7 (fun wS hSS => by (have hX := hX.ext hSS; exact (x_load1 un23 rfl (hX.cell hc1)))) ?_
   refine hT 5 rfl hSr7 (fun wS hSS => by (exact (x_move (by conv => lhs; whnf)))) ?_
   refine hT 6 rfl hSr7 (fun wS hSS => by (exact (x_move (by conv => lhs; whnf)))) ?_
   refine hT 7 rfl hSr7 (fun wS hSS => by (have hX := hX.ext hSS; exact (x_ixs0 (i := k) u22 sz23 rfl rfl ((hl.ext hX).adr kLo_pos (by omega)) (by omega)))) ?_
   refine hT 8 rfl hSr7 (fun wS hSS => by (have hX := hX.ext hSS; exact (x_load1 un23 rfl (hX.cell hc2)))) ?_
   refine h1L 4 (fun Q4 hQ4 => ?_)
   refine o_call Tryz.func34 fn34 fb34 (sha_Sum (xss.getD i []) _ _ _ _ _ (hr1.ext hX).sl5 (by omega) (Nat.le_trans hBw hX.size) (hg.ext hX).r (hg.ext hX).b (by have := (hg.ext hX).size; omega)) rfl ?_
   rintro v4 w4 ⟨rfl, hE4⟩
   have hX := hX.ext hE4
   have hWL2 := hWL2.ext hE4
   have hSr7 := hSr7.ext hE4
   refine hop_end hQ4 ⟨hSr7, ?_⟩
   refine h1L 9 (fun Q9 hQ9 => ?_)
   refine o_call Tryz.func34 fn34 fb34 (sha_Sum (xss.getD k []) _ _ _ _ _ (hr2.ext hX).sl5 (by omega) (Nat.le_trans hBw hX.size) (hg.ext hX).r (hg.ext hX).b (by have := (hg.ext hX).size; omega)) rfl ?_
   rintro v5 w5 ⟨rfl, hE5⟩
   have hX := hX.ext hE5
   have hWL2 := hWL2.ext hE5
   have hSr7 := hSr7.ext hE5
   refine hop_end hQ9 ⟨hSr7, ?_⟩
   refine hT 10 rfl hSr7 (fun wS hSS => by (exact (x_eql_bytes u64 u5 sz5 eg64 rfl rfl (shaF (xss.getD i [])).2 (shaF (xss.getD k [])).2))) ?_
   refine h_takeb 11 rfl (by kernel_rfl) (by kernel_rfl) (by kernel_rfl) hSr7 (fun wS hSS => by ( exact (x_move (by conv => lhs; whnf)))) (fun hb7_11 => ?_) (fun hb7_11 => ?_)
   ·refine h_takeg 12 27 rfl rfl rfl (by kernel_rfl) (by kernel_rfl) (by kernel_rfl) hSr7 (fun wS hSS => by ( exact (x_move (by conv => lhs; whnf)))) ?_
    refine h_takeg 13 27 rfl rfl rfl (by kernel_rfl) (by kernel_rfl) (by kernel_rfl) hSr7 (fun wS hSS => by ( exact (x_move (by conv => lhs; whnf)))) ?_
    refine h_takeg 14 27 rfl rfl rfl (by kernel_rfl) (by kernel_rfl) (by kernel_rfl) hSr7 (fun wS hSS => by ( exact (x_ixs0 (i := i) u22 sz23 rfl rfl ((hl.ext hX).adr kLo_pos (by omega)) (by omega)))) ?_
    refine h_takeg 17 27 rfl rfl rfl (by kernel_rfl) (by kernel_rfl) (by kernel_rfl) hSr7 (fun wS hSS => by ( exact (x_move (by conv => lhs; whnf)))) ?_
    refine h_takeg 18 27 rfl rfl rfl (by kernel_rfl) (by kernel_rfl) (by kernel_rfl) hSr7 (fun wS hSS => by ( exact (x_move (by conv => lhs; whnf)))) ?_
    refine h_takeg 19 27 rfl rfl rfl (by kernel_rfl) (by kernel_rfl) (by kernel_rfl) hSr7 (fun wS hSS => by ( exact (x_ixs0 (i := k) u22 sz23 rfl rfl ((hl.ext hX).adr kLo_pos (by omega)) (by omega)))) ?_
    refine h_two 15 20 _ _ rfl rfl (by kernel_rfl) (hop_of_list (fun Q15 hQ15 => ?_)) (hop_of_list (fun Q20 hQ20 => ?_))
    ·skip
     refine g1 27 rfl rfl (x_load1 un23 rfl (hX.cell hc1)) ?_
     refine hop_end hQ15 ⟨hSr7, ?_⟩
     refine h_two 16 20 _ _ rfl rfl (by kernel_rfl) (hop_of_list (fun Q16 hQ16 => ?_)) (hop_of_list (fun Q20 hQ20 => ?_))
     ·skip
      refine g1 27 rfl rfl (x_bytes_str u23 u5 u9 rfl (hr1.ext hX).sl5) ?_
      refine hop_end hQ16 ⟨hSr7, ?_⟩
      refine h1L 20 (fun Q20 hQ20 => ?_)
      refine g1 27 rfl rfl (x_load1 un23 rfl (hX.cell hc2)) ?_
      refine hop_end hQ20 ⟨hSr7, ?_⟩
      refine h1L 21 (fun Q21 hQ21 => ?_)
      refine g1 27 rfl rfl (x_bytes_str u23 u5 u9 rfl (hr2.ext hX).sl5) ?_
      refine hop_end hQ21 ⟨hSr7, ?_⟩
      refine h_takeg 22 27 rfl rfl rfl (by kernel_rfl) (by kernel_rfl) (by kernel_rfl) hSr7 (fun wS hSS => by ( exact (x_neq_str rfl rfl))) ?_
      refine hT 23 rfl hSr7 (fun wS hSS => by (exact (x_pick_t rfl (by conv => lhs; whnf)))) ?_
      refine h_done (by kernel_rfl) ?_
      refine t_n ?_
      first | refine c_dec rfl (fun hc39 => ?_) (fun hc39 => ?_) | refine c_if rfl (fun hc39 => ?_) (fun hc39 => ?_)
      ·refine c_seq (r_plain ?_)
       refine pA (r_nil (t_n (c_ret (b_r (t_r (t_r (b_r (b_r (t_r (t_r (b_r (t_r ?_))))))))))))
       refine eR1 ?_
       first
         | exact ⟨⟨false, rfl, fun h => by cases h⟩, hX⟩
         | exact ⟨⟨true, rfl, fun _ => apart_all fun a b h1 h2 => hA a b (by omega) h2⟩, hX⟩
      have hik : shaF (xss.getD i []) = shaF (xss.getD k []) → xss.getD i [] = xss.getD k [] := fun e => by
        first
        | exact absurd (congrArg Subtype.val e) (by simpa using hb7_11)
        | exact toStr_inj (Classical.byContradiction hc39)
      refine c_skip (b_n (t_n (r_plain ?_)))
      refine pM ?_
      refine p1 (x_add rfl rfl (fits_i64 (by omega) (by omega))) ?_
      refine pA (r_nil ?_)
      refine t_n (aK (k + 1) ⟨rfl, trivial⟩ ?_)
      exact ⟨⟨hWL2, ⟨by omega, fun b h => if h2 : b < k then hK b h2 else by rw [show b = k from by omega]; exact hik⟩⟩, by first | (dsimp only; omega) | ((show _ < _); omega)⟩
     skip
     refine g1 27 rfl rfl (x_load1 un23 rfl (hX.cell hc2)) ?_
     refine hop_end hQ20 ⟨hSr7, ?_⟩
     refine h_two 16 21 _ _ rfl rfl (by kernel_rfl) (hop_of_list (fun Q16 hQ16 => ?_)) (hop_of_list (fun Q21 hQ21 => ?_))
     ·skip
      refine g1 27 rfl rfl (x_bytes_str u23 u5 u9 rfl (hr1.ext hX).sl5) ?_
      refine hop_end hQ16 ⟨hSr7, ?_⟩
      refine h1L 21 (fun Q21 hQ21 => ?_)
      refine g1 27 rfl rfl (x_bytes_str u23 u5 u9 rfl (hr2.ext hX).sl5) ?_
      refine hop_end hQ21 ⟨hSr7, ?_⟩
      refine h_takeg 22 27 rfl rfl rfl (by kernel_rfl) (by kernel_rfl) (by kernel_rfl) hSr7 (fun wS hSS => by ( exact (x_neq_str rfl rfl))) ?_
      refine hT 23 rfl hSr7 (fun wS hSS => by (exact (x_pick_t rfl (by conv => lhs; whnf)))) ?_
      refine h_done (by kernel_rfl) ?_
      refine t_n ?_
      first | refine c_dec rfl (fun hc39 => ?_) (fun hc39 => ?_) | refine c_if rfl (fun hc39 => ?_) (fun hc39 => ?_)
      ·refine c_seq (r_plain ?_)
       refine pA (r_nil (t_n (c_ret (b_r (t_r (t_r (b_r (b_r (t_r (t_r (b_r (t_r ?_))))))))))))
       refine eR1 ?_
       first
         | exact ⟨⟨false, rfl, fun h => by cases h⟩, hX⟩
         | exact ⟨⟨true, rfl, fun _ => apart_all fun a b h1 h2 => hA a b (by omega) h2⟩, hX⟩
      have hik : shaF (xss.getD i []) = shaF (xss.getD k []) → xss.getD i [] = xss.getD k [] := fun e => by
        first
        | exact absurd (congrArg Subtype.val e) (by simpa using hb7_11)
        | exact toStr_inj (Classical.byContradiction hc39)
      refine c_skip (b_n (t_n (r_plain ?_)))
      refine pM ?_
      refine p1 (x_add rfl rfl (fits_i64 (by omega) (by omega))) ?_
      refine pA (r_nil ?_)
      refine t_n (aK (k + 1) ⟨rfl, trivial⟩ ?_)
      exact ⟨⟨hWL2, ⟨by omega, fun b h => if h2 : b < k then hK b h2 else by rw [show b = k from by omega]; exact hik⟩⟩, by first | (dsimp only; omega) | ((show _ < _); omega)⟩
     skip
     refine g1 27 rfl rfl (x_bytes_str u23 u5 u9 rfl (hr2.ext hX).sl5) ?_
     refine hop_end hQ21 ⟨hSr7, ?_⟩
     refine h1L 16 (fun Q16 hQ16 => ?_)
     refine g1 27 rfl rfl (x_bytes_str u23 u5 u9 rfl (hr1.ext hX).sl5) ?_
     refine hop_end hQ16 ⟨hSr7, ?_⟩
     refine h_takeg 22 27 rfl rfl rfl (by kernel_rfl) (by kernel_rfl) (by kernel_rfl) hSr7 (fun wS hSS => by ( exact (x_neq_str rfl rfl))) ?_
     refine hT 23 rfl hSr7 (fun wS hSS => by (exact (x_pick_t rfl (by conv => lhs; whnf)))) ?_
     refine h_done (by kernel_rfl) ?_
     refine t_n ?_
     first | refine c_dec rfl (fun hc39 => ?_) (fun hc39 => ?_) | refine c_if rfl (fun hc39 => ?_) (fun hc39 => ?_)
     ·refine c_seq (r_plain ?_)
      refine pA (r_nil (t_n (c_ret (b_r (t_r (t_r (b_r (b_r (t_r (t_r (b_r (t_r ?_))))))))))))
      refine eR1 ?_
      first
        | exact ⟨⟨false, rfl, fun h => by cases h⟩, hX⟩
        | exact ⟨⟨true, rfl, fun _ => apart_all fun a b h1 h2 => hA a b (by omega) h2⟩, hX⟩
     have hik : shaF (xss.getD i []) = shaF (xss.getD k []) → xss.getD i [] = xss.getD k [] := fun e => by
       first
       | exact absurd (congrArg Subtype.val e) (by simpa using hb7_11)
       | exact toStr_inj (Classical.byContradiction hc39)
     refine c_skip (b_n (t_n (r_plain ?_)))
     refine pM ?_
     refine p1 (x_add rfl rfl (fits_i64 (by omega) (by omega))) ?_
     refine pA (r_nil ?_)
     refine t_n (aK (k + 1) ⟨rfl, trivial⟩ ?_)
     exact ⟨⟨hWL2, ⟨by omega, fun b h => if h2 : b < k then hK b h2 else by rw [show b = k from by omega]; exact hik⟩⟩, by first | (dsimp only; omega) | ((show _ < _); omega)⟩
    skip
    refine g1 27 rfl rfl (x_load1 un23 rfl (hX.cell hc2)) ?_
    refine hop_end hQ20 ⟨hSr7, ?_⟩
    refine h_two 15 21 _ _ rfl rfl (by kernel_rfl) (hop_of_list (fun Q15 hQ15 => ?_)) (hop_of_list (fun Q21 hQ21 => ?_))
    ·skip
     refine g1 27 rfl rfl (x_load1 un23 rfl (hX.cell hc1)) ?_
     refine hop_end hQ15 ⟨hSr7, ?_⟩
     refine h_two 16 21 _ _ rfl rfl (by kernel_rfl) (hop_of_list (fun Q16 hQ16 => ?_)) (hop_of_list (fun Q21 hQ21 => ?_))
     ·skip
      refine g1 27 rfl rfl (x_bytes_str u23 u5 u9 rfl (hr1.ext hX).sl5) ?_
      refine hop_end hQ16 ⟨hSr7, ?_⟩
      refine h1L 21 (fun Q21 hQ21 => ?_)
      refine g1 27 rfl rfl (x_bytes_str u23 u5 u9 rfl (hr2.ext hX).sl5) ?_
      refine hop_end hQ21 ⟨hSr7, ?_⟩
      refine h_takeg 22 27 rfl rfl rfl (by kernel_rfl) (by kernel_rfl) (by kernel_rfl) hSr7 (fun wS hSS => by ( exact (x_neq_str rfl rfl))) ?_
      refine hT 23 rfl hSr7 (fun wS hSS => by (exact (x_pick_t rfl (by conv => lhs; whnf)))) ?_
      refine h_done (by kernel_rfl) ?_
      refine t_n ?_
      first | refine c_dec rfl (fun hc39 => ?_) (fun hc39 => ?_) | refine c_if rfl (fun hc39 => ?_) (fun hc39 => ?_)
      ·refine c_seq (r_plain ?_)
       refine pA (r_nil (t_n (c_ret (b_r (t_r (t_r (b_r (b_r (t_r (t_r (b_r (t_r ?_))))))))))))
       refine eR1 ?_
       first
         | exact ⟨⟨false, rfl, fun h => by cases h⟩, hX⟩
         | exact ⟨⟨true, rfl, fun _ => apart_all fun a b h1 h2 => hA a b (by omega) h2⟩, hX⟩
      have hik : shaF (xss.getD i []) = shaF (xss.getD k []) → xss.getD i [] = xss.getD k [] := fun e => by
        first
        | exact absurd (congrArg Subtype.val e) (by simpa using hb7_11)
        | exact toStr_inj (Classical.byContradiction hc39)
      refine c_skip (b_n (t_n (r_plain ?_)))
      refine pM ?_
      refine p1 (x_add rfl rfl (fits_i64 (by omega) (by omega))) ?_
      refine pA (r_nil ?_)
      refine t_n (aK (k + 1) ⟨rfl, trivial⟩ ?_)
      exact ⟨⟨hWL2, ⟨by omega, fun b h => if h2 : b < k then hK b h2 else by rw [show b = k from by omega]; exact hik⟩⟩, by first | (dsimp only; omega) | ((show _ < _); omega)⟩
     skip
     refine g1 27 rfl rfl (x_bytes_str u23 u5 u9 rfl (hr2.ext hX).sl5) ?_
     refine hop_end hQ21 ⟨hSr7, ?_⟩
     refine h1L 16 (fun Q16 hQ16 => ?_)
     refine g1 27 rfl rfl (x_bytes_str u23 u5 u9 rfl (hr1.ext hX).sl5) ?_
     refine hop_end hQ16 ⟨hSr7, ?_⟩
     refine h_takeg 22 27 rfl rfl rfl (by kernel_rfl) (by kernel_rfl) (by kernel_rfl) hSr7 (fun wS hSS => by ( exact (x_neq_str rfl rfl))) ?_
     refine hT 23 rfl hSr7 (fun wS hSS => by (exact (x_pick_t rfl (by conv => lhs; whnf)))) ?_
     refine h_done (by kernel_rfl) ?_
     refine t_n ?_
     first | refine c_dec rfl (fun hc39 => ?_) (fun hc39 => ?_) | refine c_if rfl (fun hc39 => ?_) (fun hc39 => ?_)
     ·refine c_seq (r_plain ?_)
      refine pA (r_nil (t_n (c_ret (b_r (t_r (t_r (b_r (b_r (t_r (t_r (b_r (t_r ?_))))))))))))
      refine eR1 ?_
      first
        | exact ⟨⟨false, rfl, fun h => by cases h⟩, hX⟩
        | exact ⟨⟨true, rfl, fun _ => apart_all fun a b h1 h2 => hA a b (by omega) h2⟩, hX⟩
     have hik : shaF (xss.getD i []) = shaF (xss.getD k []) → xss.getD i [] = xss.getD k [] := fun e => by
       first
       | exact absurd (congrArg Subtype.val e) (by simpa using hb7_11)
       | exact toStr_inj (Classical.byContradiction hc39)
     refine c_skip (b_n (t_n (r_plain ?_)))
     refine pM ?_
     refine p1 (x_add rfl rfl (fits_i64 (by omega) (by omega))) ?_
     refine pA (r_nil ?_)
     refine t_n (aK (k + 1) ⟨rfl, trivial⟩ ?_)
     exact ⟨⟨hWL2, ⟨by omega, fun b h => if h2 : b < k then hK b h2 else by rw [show b = k from by omega]; exact hik⟩⟩, by first | (dsimp only; omega) | ((show _ < _); omega)⟩
    skip
    refine g1 27 rfl rfl (x_bytes_str u23 u5 u9 rfl (hr2.ext hX).sl5) ?_
    refine hop_end hQ21 ⟨hSr7, ?_⟩
    refine h1L 15 (fun Q15 hQ15 => ?_)
    refine g1 27 rfl rfl (x_load1 un23 rfl (hX.cell hc1)) ?_
    refine hop_end hQ15 ⟨hSr7, ?_⟩
    refine h1L 16 (fun Q16 hQ16 => ?_)
    refine g1 27 rfl rfl (x_bytes_str u23 u5 u9 rfl (hr1.ext hX).sl5) ?_
    refine hop_end hQ16 ⟨hSr7, ?_⟩
    refine h_takeg 22 27 rfl rfl rfl (by kernel_rfl) (by kernel_rfl) (by kernel_rfl) hSr7 (fun wS hSS => by ( exact (x_neq_str rfl rfl))) ?_
    refine hT 23 rfl hSr7 (fun wS hSS => by (exact (x_pick_t rfl (by conv => lhs; whnf)))) ?_
    refine h_done (by kernel_rfl) ?_
    refine t_n ?_
    first | refine c_dec rfl (fun hc39 => ?_) (fun hc39 => ?_) | refine c_if rfl (fun hc39 => ?_) (fun hc39 => ?_)
    ·refine c_seq (r_plain ?_)
     refine pA (r_nil (t_n (c_ret (b_r (t_r (t_r (b_r (b_r (t_r (t_r (b_r (t_r ?_))))))))))))
     refine eR1 ?_
     first
       | exact ⟨⟨false, rfl, fun h => by cases h⟩, hX⟩
       | exact ⟨⟨true, rfl, fun _ => apart_all fun a b h1 h2 => hA a b (by omega) h2⟩, hX⟩
    have hik : shaF (xss.getD i []) = shaF (xss.getD k []) → xss.getD i [] = xss.getD k [] := fun e => by
      first
      | exact absurd (congrArg Subtype.val e) (by simpa using hb7_11)
      | exact toStr_inj (Classical.byContradiction hc39)
    refine c_skip (b_n (t_n (r_plain ?_)))
    refine pM ?_
    refine p1 (x_add rfl rfl (fits_i64 (by omega) (by omega))) ?_
    refine pA (r_nil ?_)
    refine t_n (aK (k + 1) ⟨rfl, trivial⟩ ?_)
    exact ⟨⟨hWL2, ⟨by omega, fun b h => if h2 : b < k then hK b h2 else by rw [show b = k from by omega]; exact hik⟩⟩, by first | (dsimp only; omega) | ((show _ < _); omega)⟩
   refine h_skip 12 27 rfl (by first | exact .inl rfl | exact .inr rfl) rfl (by kernel_rfl) (by kernel_rfl) (by kernel_rfl) hSr7 ?_
   refine h_skip 13 27 rfl (by first | exact .inl rfl | exact .inr rfl) rfl (by kernel_rfl) (by kernel_rfl) (by kernel_rfl) hSr7 ?_
   refine h_skip 14 27 rfl (by first | exact .inl rfl | exact .inr rfl) rfl (by kernel_rfl) (by kernel_rfl) (by kernel_rfl) hSr7 ?_
   refine h_skip 15 27 rfl (by first | exact .inl rfl | exact .inr rfl) rfl (by kernel_rfl) (by kernel_rfl) (by kernel_rfl) hSr7 ?_
   refine h_skip 16 27 rfl (by first | exact .inl rfl | exact .inr rfl) rfl (by kernel_rfl) (by kernel_rfl) (by kernel_rfl) hSr7 ?_
   refine h_skip 17 27 rfl (by first | exact .inl rfl | exact .inr rfl) rfl (by kernel_rfl) (by kernel_rfl) (by kernel_rfl) hSr7 ?_
   refine h_skip 18 27 rfl (by first | exact .inl rfl | exact .inr rfl) rfl (by kernel_rfl) (by kernel_rfl) (by kernel_rfl) hSr7 ?_
   refine h_skip 19 27 rfl (by first | exact .inl rfl | exact .inr rfl) rfl (by kernel_rfl) (by kernel_rfl) (by kernel_rfl) hSr7 ?_
   refine h_skip 20 27 rfl (by first | exact .inl rfl | exact .inr rfl) rfl (by kernel_rfl) (by kernel_rfl) (by kernel_rfl) hSr7 ?_
   refine h_skip 21 27 rfl (by first | exact .inl rfl | exact .inr rfl) rfl (by kernel_rfl) (by kernel_rfl) (by kernel_rfl) hSr7 ?_
   refine h_skip 22 27 rfl (by first | exact .inl rfl | exact .inr rfl) rfl (by kernel_rfl) (by kernel_rfl) (by kernel_rfl) hSr7 ?_
   refine hT 23 rfl hSr7 (fun wS hSS => by (exact (x_pick_f rfl (by conv => lhs; whnf)))) ?_
   refine h_done (by kernel_rfl) ?_
   refine t_n ?_
   refine c_f rfl ?_
   have hik : shaF (xss.getD i []) = shaF (xss.getD k []) → xss.getD i [] = xss.getD k [] := fun e => by
     first
     | exact absurd (congrArg Subtype.val e) (by simpa using hb7_11)
     | exact toStr_inj (Classical.byContradiction hc39)
   refine c_skip (b_n (t_n (r_plain ?_)))
   refine pM ?_
   refine p1 (x_add rfl rfl (fits_i64 (by omega) (by omega))) ?_
   refine pA (r_nil ?_)
   refine t_n (aK (k + 1) ⟨rfl, trivial⟩ ?_)
   exact ⟨⟨hWL2, ⟨by omega, fun b h => if h2 : b < k then hK b h2 else by rw [show b = k from by omega]; exact hik⟩⟩, by first | (dsimp only; omega) | ((show _ < _); omega)⟩
  have hki : k = i := by omega
  refine c_exit (t_e (t_e (b_hit (b_n (t_n (r_plain ?_))))))
  refine pM ?_
  refine p1 (x_add rfl rfl (fits_i64 (by omega) (by omega))) ?_
  refine pA (r_nil ?_)
  refine t_n (aK (i + 1) ⟨rfl, trivial⟩ ?_)
  exact ⟨⟨hWL0, ⟨by omega, fun a b h1 h2 => if h : a < i then hA a b h h2 else by rw [show a = i from by omega]; exact hK b (by omega)⟩⟩, by first | (dsimp only; omega) | ((show _ < _); omega)⟩
 refine c_exit (t_e (t_e (b_hit (t_n (c_seq (r_plain ?_))))))
 refine pA (r_nil (t_n (c_ret ?_)))
 refine eR1 ?_
 first
   | exact ⟨⟨false, rfl, fun h => by cases h⟩, hX⟩
   | exact ⟨⟨true, rfl, fun _ => apart_all fun a b h1 h2 => hA a b (by omega) h2⟩, hX⟩
theorem law20_has (g gd r : Nat) (S Sd : Nat → Prop) (μ : Hash → Option R3) (pi nx : Option Addr) (ni ci : Nat) (C : CS) (k : Nat) (w : World) (hCX : CstX S Sd w g gd r μ pi ni ci nx C) (hn : CN C k) (hg : Gt w) (l : List By) (B : Nat) (p : Option Addr) (n c : Nat) (hl : Sl kLo 23 B w p n c l) (hBw : B ≤ w.heap.size) (hn2 : n ≤ 100000) (hle : ∀ x ∈ l, x.length ≤ 1048576) (ix : By) (e9 B9 : Nat) (q : Option Addr) (m c2 : Nat) (hix : Sl kByte e9 B9 w q m c2 ix) :
    Ret Tryz.prog 16 [.pointer (some ⟨g, 0, none⟩), .slice p n c, .slice q m c2] w (fun v w' => (∃ b : Bool, v = .bool b ∧ (b = true ↔ HasP C l ix)) ∧ Ext w w') := by
 have hCX0 := hCX
 have hX := Ext.refl w
 refine eN 58 Tryz.func16 ?_
 refine c_seq (r_plain ?_)
 refine pA (r_nil (t_n (c_seq ?_)))
 have hln := hl.len
 have hlc := hl.cap
 have hlf := hl.fit
 refine r_plain ?_
 refine pA (r_nil (t_n (c_seq (c_seq (r_plain ?_)))))
 refine pA (r_nil (t_n (c_block ?_)))
 refine c_loop (ι := Nat × Option Addr × Nat × Nat) [6, 7, 8, 9, 10, 11, 12, 13, 14, 15, 16, 17, 18, 19, 20, 21, 22, 23, 24, 25, 26, 27, 28, 29, 30, 31, 32, 33, 34, 35, 36, 37, 38, 39, 40, 41, 42, 43, 44] (fun (i, q7, m7, c7) => [(7, .slice q7 m7 c7), (8, .int .i64 (i : Int))]) (fun (i, q7, m7, c7) w' => Ext w w' ∧ (i ≤ n ∧ Own kHash 64 0 w.heap.size w' q7 m7 c7 ((l.take i).map shaF) ∧ ∀ j, j < i → findF C.L (shaF (l.getD j [])) = some (l.getD j []))) (fun (i, q7, m7, c7) => n - i) ((0, none, 0, 0)) ⟨rfl, rfl, trivial⟩ ⟨hX, by omega, Own.nil _ _ _ _ _, fun j hj => by omega⟩ ?_
 rintro ⟨i, q7, m7, c7⟩ GL0 w1 ⟨hE1, hi, hO, hA⟩
 have hX := hE1
 have hCX := hCX0.ext hX
 have hol := hO.len
 rw [List.length_map, List.length_take] at hol
 refine c_seq (c_seq (r_plain ?_))
 refine pM (pM ?_)
 refine p1 (x_len_slice u22 rfl) ?_
 refine p1 (x_lss rfl rfl) ?_
 refine r_nil (t_n ?_)
 first | refine c_dec rfl (fun hc15 => ?_) (fun hc15 => ?_) | refine c_if rfl (fun hc15 => ?_) (fun hc15 => ?_)
 ·refine c_skip (t_n (c_seq (c_block (c_seq ?_))))
  obtain ⟨q1, m1, c1, hc1, hr1⟩ := hl.loAt i (by omega)
  have hl1 := hle _ (mem_of_getD (z := []) (xs := l) (i := i) (by omega) rfl)
  have hn1 := hr1.len
  refine r_plain ?_
  refine pM (pM ?_)
  refine p1 (x_ixs0 (i := i) u22 sz23 rfl rfl ((hl.ext hX).adr kLo_pos (by omega)) (by omega)) ?_
  refine p1 (x_load1 un23 rfl (hX.cell hc1)) ?_
  refine o_call Tryz.func34 fn34 fb34 (sha_Sum (l.getD i []) _ _ _ _ _ (hr1.ext hX).sl5 (by omega) (Nat.le_trans hBw hX.size) (hg.ext hX).r (hg.ext hX).b (by have := (hg.ext hX).size; omega)) rfl ?_
  rintro v2 w2 ⟨rfl, hE2⟩
  have hX := hX.ext hE2
  have hCX := hCX.ext hE2
  have hO := hO.ext hE2
  have hOb := hO.below
  have hz9 := hX.size
  refine o_alloc zr64 ?_
  intro w3 g9 hN9
  have hE3 := hN9.ext
  have hX := hX.ext hE3
  have hCX := hCX.ext hE3
  have hO := hO.ext hE3
  have hB9 := hN9.blk
  have hq9 := hN9.g_eq
  refine o_storeAll rfl rfl (kHash_one _) (hv_sz sz64 _) hB9 (hv_size _) ?_
  intro w4 hP4
  have hX := hX.put hP4 (by omega)
  have hCX := hCX0.ext hX
  have hO := hO.modB (hP4.mod g9 (Nat.le_refl _)) (Nat.zero_le _) (by decide) (by rw [hq9]; exact hOb)
  have hB9 := hP4.blk
  refine r_nil (t_n (c_seq (r_plain ?_)))
  refine pM ?_
  refine p1 (x_loadB ua64 rfl hB9 (hv_sz sz64 _)) ?_
  refine o_call Tryz.func28 fn28 fb28 (store_Get g gd r S Sd μ pi nx ni ci C k _ hCX hn (shaF (l.getD i []))) rfl ?_
  rintro v5 w5 ⟨⟨qg, mg, cg, eg, rfl, hgt⟩, hE5⟩
  have hX := hX.ext hE5
  have hO := hO.ext hE5
  have hB9 := hB9.ext hE5
  have hGx : ∀ w2, Ext w5 w2 → eg = 0 → ∃ x, findF C.L (shaF (l.getD i [])) = some x ∧ Sl kByte 5 0 w2 qg mg cg x := fun w2 hx he => by
    obtain ⟨_, x, h1, h2⟩ := hgt.resolve_left (fun h => by omega)
    exact ⟨x, h1, h2.sl.ext hx⟩
  have hGn : eg ≠ 0 → findF C.L (shaF (l.getD i [])) = none := fun he => (hgt.resolve_right (fun h => he h.1)).2
  have hG := Ext.refl w5
  refine pM ?_
  refine p1 (x_extract rfl rfl) ?_
  refine p1 (x_extract rfl rfl) ?_
  refine pA (pA (r_nil (t_n (c_seq (c_seq ?_)))))
  refine r_still mixed (by kernel_rfl) ?_
  intro w6 hE6
  have hX := hX.ext hE6
  have hO := hO.ext hE6
  have hB9 := hB9.ext hE6
  have hG := hG.ext hE6
  refine s1 (x_move (by conv => lhs; whnf)) ?_
  refine s1 (x_neq rfl rfl) ?_
  refine s1b (x_move (by conv => lhs; whnf)) (fun hb7_2 => ?_) (fun hb7_2 => ?_)
  ·refine sg0 31 rfl (by first | exact .inl rfl | exact .inr rfl) ?_
   refine sg0 31 rfl (by first | exact .inl rfl | exact .inr rfl) ?_
   refine sg0 31 rfl (by first | exact .inl rfl | exact .inr rfl) ?_
   refine sg0 31 rfl (by first | exact .inl rfl | exact .inr rfl) ?_
   refine sg0 31 rfl (by first | exact .inl rfl | exact .inr rfl) ?_
   refine sg0 31 rfl (by first | exact .inl rfl | exact .inr rfl) ?_
   refine sg0 31 rfl (by first | exact .inl rfl | exact .inr rfl) ?_
   refine sg0 31 rfl (by first | exact .inl rfl | exact .inr rfl) ?_
   refine s1 (x_pick_t rfl (by conv => lhs; whnf)) ?_
   refine s_nil (t_n ?_)
   refine c_t rfl ?_
   have hno : ¬ HasP C l ix := fun h => by
     have h1 := h.1 _ (mem_of_getD (z := []) (xs := l) (i := i) (by omega) rfl)
     first
     | (have h2 := hGn (by first | omega | (simp_all; done)); rw [h2] at h1; cases h1)
     | (rw [hx] at h1; injection h1 with h1; exact absurd (congrArg toStr h1) (by simpa using hc40))
   refine c_seq (r_plain ?_)
   refine pA (r_nil (t_n (c_ret (t_r (b_r (t_r (t_r (b_r (t_r ?_)))))))))
   refine eR1 ?_
   first
     | exact ⟨⟨false, rfl, ⟨(fun h => by cases h), fun h => absurd h hno⟩⟩, hX⟩
     | exact ⟨⟨_, rfl, ⟨fun h => ⟨hall, by simpa using hb10_5, toStr_inj (of_decide_eq_true h)⟩, fun h => decide_eq_true (congrArg toStr h.2.2)⟩⟩, hX⟩
     | exact ⟨⟨false, rfl, ⟨(fun h => by cases h), fun h => absurd h.2.1 (by simpa using hb10_5)⟩⟩, hX⟩
  have heg : eg = 0 := by first | omega | (simp_all; done)
  obtain ⟨x, hx, hrx⟩ := hGx _ hG heg
  refine sg1 31 rfl rfl (x_move (by conv => lhs; whnf)) ?_
  refine sg1 31 rfl rfl (x_bytes_str u23 u5 u9 rfl hrx) ?_
  refine sg1 31 rfl rfl (x_move (by conv => lhs; whnf)) ?_
  refine sg1 31 rfl rfl (x_move (by conv => lhs; whnf)) ?_
  refine sg1 31 rfl rfl (x_ixs0 (i := i) u22 sz23 rfl rfl ((hl.ext hX).adr kLo_pos (by omega)) (by omega)) ?_
  refine sg1 31 rfl rfl (x_load1 un23 rfl (hX.cell hc1)) ?_
  refine sg1 31 rfl rfl (x_bytes_str u23 u5 u9 rfl (hr1.ext hX).sl5) ?_
  refine sg1 31 rfl rfl (x_neq_str rfl rfl) ?_
  refine s1 (x_pick_f rfl (by conv => lhs; whnf)) ?_
  refine s_nil (t_n ?_)
  first | refine c_dec rfl (fun hc40 => ?_) (fun hc40 => ?_) | refine c_if rfl (fun hc40 => ?_) (fun hc40 => ?_)
  ·have hno : ¬ HasP C l ix := fun h => by
     have h1 := h.1 _ (mem_of_getD (z := []) (xs := l) (i := i) (by omega) rfl)
     first
     | (have h2 := hGn (by first | omega | (simp_all; done)); rw [h2] at h1; cases h1)
     | (rw [hx] at h1; injection h1 with h1; exact absurd (congrArg toStr h1) (by simpa using hc40))
   refine c_seq (r_plain ?_)
   refine pA (r_nil (t_n (c_ret (t_r (b_r (t_r (t_r (b_r (t_r ?_)))))))))
   refine eR1 ?_
   first
     | exact ⟨⟨false, rfl, ⟨(fun h => by cases h), fun h => absurd h hno⟩⟩, hX⟩
     | exact ⟨⟨_, rfl, ⟨fun h => ⟨hall, by simpa using hb10_5, toStr_inj (of_decide_eq_true h)⟩, fun h => decide_eq_true (congrArg toStr h.2.2)⟩⟩, hX⟩
     | exact ⟨⟨false, rfl, ⟨(fun h => by cases h), fun h => absurd h.2.1 (by simpa using hb10_5)⟩⟩, hX⟩
  have hxx : findF C.L (shaF (l.getD i [])) = some (l.getD i []) := by
    rw [hx]; exact congrArg some (toStr_inj (Classical.byContradiction hc40))
  refine c_skip (t_n (r_plain ?_))
  refine pM ?_
  refine p1 (x_loadB ua64 rfl hB9 (hv_sz sz64 _)) ?_
  refine o_buildSlice u54 inf64 rfl (by decide) (fun base hb => fill_kn [.agg (hv (shaF (l.getD i [])))] (by intro v hv'; simp only [List.mem_singleton] at hv'; subst hv'; simp [Value.cells, hv, hcs_len]) base hb) ?_
  intro w7 g43 hN43
  have hE7 := hN43.ext
  have hX := hX.ext hE7
  have hO := hO.ext hE7
  have hJ : Own kHash 64 0 0 w7 (some ⟨g43, 0, none⟩) 1 1 [shaF (l.getD i [])] := own_lit [shaF (l.getD i [])] hN43 (Nat.zero_le _) (by simp)
  have hB1 := hX.size
  refine o_append (d := kHash) ([shaF (l.getD i [])]) u54 inf64 rfl kHash_pos rfl rfl hO (src_pure u54 hJ.sl (by decide)) rfl (hash_all _ _ _) (rfl) (by omega) (by omega) (by omega) (by omega) (by decide) ?_
  intro p44 c44 w8 hO hM8
  have hX := hX.mod hM8 (Nat.le_refl _)
  refine pA (r_nil (b_n (t_n (r_plain ?_))))
  refine pM ?_
  refine p1 (x_add rfl rfl (fits_i64 (by omega) (by omega))) ?_
  refine pA (r_nil ?_)
  refine t_n (aK ((i + 1, p44, m7 + 1, c44)) ⟨rfl, rfl, trivial⟩ ?_)
  exact ⟨⟨hX, by omega, by rw [take_snoc (by omega), List.map_append]; exact hO, fun j hj => if h : j < i then hA j h else by rw [show j = i from by omega]; exact hxx⟩, by first | (dsimp only; omega) | ((show _ < _); omega)⟩
 have hkk : l.take i = l := List.take_of_length_le (by omega)
 rw [hkk] at hO
 have hall : ∀ x ∈ l, findF C.L (shaF x) = some x := fun x hx => by
   obtain ⟨a, ha, ea⟩ := List.mem_iff_getElem.1 hx
   have ea : l.getD a [] = x := by rw [List.getD_eq_getElem?_getD, List.getElem?_eq_getElem ha, ← ea]; rfl
   rw [← ea]; exact hA a (by omega)
 refine c_exit (t_e (t_e (b_hit (t_n (c_seq ?_)))))
 refine r_held (fun w1 w2 => Ext w1 w2) mixed ?_
 intro w9 hE9
 have hX := hX.ext hE9
 have hCX := hCX.ext hE9
 have hO := hO.ext hE9
 have hSr10 : (fun w1 w2 => Ext w1 w2) w9 w9 := Ext.refl w9
 refine hT 0 rfl hSr10 (fun wS hSS => by (exact (x_move (by conv => lhs; whnf)))) ?_
 refine hT 2 rfl hSr10 (fun wS hSS => by (exact (x_move (by conv => lhs; whnf)))) ?_
 refine h1L 1 (fun Q1 hQ1 => ?_)
 refine o_call Tryz.func30 fn30 fb30 (store_List g gd r S Sd μ pi nx ni ci C k _ hCX hn) rfl ?_
 rintro v10 w10 ⟨⟨qa, ma, ca, rfl, hLa⟩, hE10⟩
 have hX := hX.ext hE10
 have hCX := hCX.ext hE10
 have hO := hO.ext hE10
 have hSr10 := hSr10.ext hE10
 refine hop_end hQ1 ⟨hSr10, ?_⟩
 refine h1L 3 (fun Q3 hQ3 => ?_)
 refine o_call Tryz.func39 fn39 fb39 (hashes_Sort (l.map shaF) _ _ _ _ _ hO.sl (by omega)) rfl ?_
 rintro v11 w11 ⟨⟨qs, ms, cs, rfl, hms_, hLs⟩, hE11⟩
 have hX := hX.ext hE11
 have hCX := hCX.ext hE11
 have hSr10 := hSr10.ext hE11
 have hLa := hLa.ext hE11
 refine hop_end hQ3 ⟨hSr10, ?_⟩
 refine h1L 4 (fun Q4 hQ4 => ?_)
 refine o_call Tryz.func41 fn41 fb41 (hashes_Same (srt (C.L.map shaF)) (srt (l.map shaF)) _ _ _ _ _ _ _ _ _ hLa.sl hLs.sl) rfl ?_
 rintro v12 w12 ⟨rfl, hE12⟩
 have hX := hX.ext hE12
 have hCX := hCX.ext hE12
 have hSr10 := hSr10.ext hE12
 refine hop_end hQ4 ⟨hSr10, ?_⟩
 refine h_takeb 5 rfl (by kernel_rfl) (by kernel_rfl) (by kernel_rfl) hSr10 (fun wS hSS => by ( exact (x_move (by conv => lhs; whnf)))) (fun hb10_5 => ?_) (fun hb10_5 => ?_)
 ·refine h_takeg 6 50 rfl rfl rfl (by kernel_rfl) (by kernel_rfl) (by kernel_rfl) hSr10 (fun wS hSS => by ( exact (x_move (by conv => lhs; whnf)))) ?_
  refine h_takeg 9 50 rfl rfl rfl (by kernel_rfl) (by kernel_rfl) (by kernel_rfl) hSr10 (fun wS hSS => by ( exact (x_move (by conv => lhs; whnf)))) ?_
  refine h_two 7 10 _ _ rfl rfl (by kernel_rfl) (hop_of_list (fun Q7 hQ7 => ?_)) (hop_of_list (fun Q10 hQ10 => ?_))
  ·skip
   refine g_drop 50 rfl rfl ?_
   refine o_call Tryz.func31 fn31 fb31 (store_Index g gd r S Sd μ pi nx ni ci C k _ hCX hn) rfl ?_
   rintro v13 w13 ⟨⟨qi, mi, cj, rfl, hIx⟩, hE13⟩
   have hX := hX.ext hE13
   have hSr10 := hSr10.ext hE13
   refine hop_end hQ7 ⟨hSr10, ?_⟩
   refine h_two 8 10 _ _ rfl rfl (by kernel_rfl) (hop_of_list (fun Q8 hQ8 => ?_)) (hop_of_list (fun Q10 hQ10 => ?_))
   ·skip
    refine g1 50 rfl rfl (x_bytes_str u23 u5 u9 rfl hIx.sl) ?_
    refine hop_end hQ8 ⟨hSr10, ?_⟩
    refine h1L 10 (fun Q10 hQ10 => ?_)
    refine g1 50 rfl rfl (x_bytes_str u23 u5 u9 rfl (hix.ext hX)) ?_
    refine hop_end hQ10 ⟨hSr10, ?_⟩
    refine h_takeg 11 50 rfl rfl rfl (by kernel_rfl) (by kernel_rfl) (by kernel_rfl) hSr10 (fun wS hSS => by ( exact (x_eql_str rfl rfl))) ?_
    refine hT 12 rfl hSr10 (fun wS hSS => by (exact (x_pick_t rfl (by conv => lhs; whnf)))) ?_
    refine hT 13 rfl hSr10 (fun wS hSS => by (exact (x_assign (by conv => lhs; whnf)))) ?_
    refine h_done (by kernel_rfl) ?_
    refine t_n (c_ret ?_)
    refine eR1 ?_
    first
      | exact ⟨⟨false, rfl, ⟨(fun h => by cases h), fun h => absurd h hno⟩⟩, hX⟩
      | exact ⟨⟨_, rfl, ⟨fun h => ⟨hall, by simpa using hb10_5, toStr_inj (of_decide_eq_true h)⟩, fun h => decide_eq_true (congrArg toStr h.2.2)⟩⟩, hX⟩
      | exact ⟨⟨false, rfl, ⟨(fun h => by cases h), fun h => absurd h.2.1 (by simpa using hb10_5)⟩⟩, hX⟩
   skip
   refine g1 50 rfl rfl (x_bytes_str u23 u5 u9 rfl (hix.ext hX)) ?_
   refine hop_end hQ10 ⟨hSr10, ?_⟩
   refine h1L 8 (fun Q8 hQ8 => ?_)
   refine g1 50 rfl rfl (x_bytes_str u23 u5 u9 rfl hIx.sl) ?_
   refine hop_end hQ8 ⟨hSr10, ?_⟩
   refine h_takeg 11 50 rfl rfl rfl (by kernel_rfl) (by kernel_rfl) (by kernel_rfl) hSr10 (fun wS hSS => by ( exact (x_eql_str rfl rfl))) ?_
   refine hT 12 rfl hSr10 (fun wS hSS => by (exact (x_pick_t rfl (by conv => lhs; whnf)))) ?_
   refine hT 13 rfl hSr10 (fun wS hSS => by (exact (x_assign (by conv => lhs; whnf)))) ?_
   refine h_done (by kernel_rfl) ?_
   refine t_n (c_ret ?_)
   refine eR1 ?_
   first
     | exact ⟨⟨false, rfl, ⟨(fun h => by cases h), fun h => absurd h hno⟩⟩, hX⟩
     | exact ⟨⟨_, rfl, ⟨fun h => ⟨hall, by simpa using hb10_5, toStr_inj (of_decide_eq_true h)⟩, fun h => decide_eq_true (congrArg toStr h.2.2)⟩⟩, hX⟩
     | exact ⟨⟨false, rfl, ⟨(fun h => by cases h), fun h => absurd h.2.1 (by simpa using hb10_5)⟩⟩, hX⟩
  skip
  refine g1 50 rfl rfl (x_bytes_str u23 u5 u9 rfl (hix.ext hX)) ?_
  refine hop_end hQ10 ⟨hSr10, ?_⟩
  refine h1L 7 (fun Q7 hQ7 => ?_)
  refine g_drop 50 rfl rfl ?_
  refine o_call Tryz.func31 fn31 fb31 (store_Index g gd r S Sd μ pi nx ni ci C k _ hCX hn) rfl ?_
  rintro v14 w14 ⟨⟨qi, mi, cj, rfl, hIx⟩, hE14⟩
  have hX := hX.ext hE14
  have hSr10 := hSr10.ext hE14
  refine hop_end hQ7 ⟨hSr10, ?_⟩
  refine h1L 8 (fun Q8 hQ8 => ?_)
  refine g1 50 rfl rfl (x_bytes_str u23 u5 u9 rfl hIx.sl) ?_
  refine hop_end hQ8 ⟨hSr10, ?_⟩
  refine h_takeg 11 50 rfl rfl rfl (by kernel_rfl) (by kernel_rfl) (by kernel_rfl) hSr10 (fun wS hSS => by ( exact (x_eql_str rfl rfl))) ?_
  refine hT 12 rfl hSr10 (fun wS hSS => by (exact (x_pick_t rfl (by conv => lhs; whnf)))) ?_
  refine hT 13 rfl hSr10 (fun wS hSS => by (exact (x_assign (by conv => lhs; whnf)))) ?_
  refine h_done (by kernel_rfl) ?_
  refine t_n (c_ret ?_)
  refine eR1 ?_
  first
    | exact ⟨⟨false, rfl, ⟨(fun h => by cases h), fun h => absurd h hno⟩⟩, hX⟩
    | exact ⟨⟨_, rfl, ⟨fun h => ⟨hall, by simpa using hb10_5, toStr_inj (of_decide_eq_true h)⟩, fun h => decide_eq_true (congrArg toStr h.2.2)⟩⟩, hX⟩
    | exact ⟨⟨false, rfl, ⟨(fun h => by cases h), fun h => absurd h.2.1 (by simpa using hb10_5)⟩⟩, hX⟩
 refine h_skip 6 50 rfl (by first | exact .inl rfl | exact .inr rfl) rfl (by kernel_rfl) (by kernel_rfl) (by kernel_rfl) hSr10 ?_
 refine h_skip 7 50 rfl (by first | exact .inl rfl | exact .inr rfl) rfl (by kernel_rfl) (by kernel_rfl) (by kernel_rfl) hSr10 ?_
 refine h_skip 8 50 rfl (by first | exact .inl rfl | exact .inr rfl) rfl (by kernel_rfl) (by kernel_rfl) (by kernel_rfl) hSr10 ?_
 refine h_skip 9 50 rfl (by first | exact .inl rfl | exact .inr rfl) rfl (by kernel_rfl) (by kernel_rfl) (by kernel_rfl) hSr10 ?_
 refine h_skip 10 50 rfl (by first | exact .inl rfl | exact .inr rfl) rfl (by kernel_rfl) (by kernel_rfl) (by kernel_rfl) hSr10 ?_
 refine h_skip 11 50 rfl (by first | exact .inl rfl | exact .inr rfl) rfl (by kernel_rfl) (by kernel_rfl) (by kernel_rfl) hSr10 ?_
 refine hT 12 rfl hSr10 (fun wS hSS => by (exact (x_pick_f rfl (by conv => lhs; whnf)))) ?_
 refine hT 13 rfl hSr10 (fun wS hSS => by (exact (x_assign (by conv => lhs; whnf)))) ?_
 refine h_done (by kernel_rfl) ?_
 refine t_n (c_ret ?_)
 refine eR1 ?_
 first
   | exact ⟨⟨false, rfl, ⟨(fun h => by cases h), fun h => absurd h hno⟩⟩, hX⟩
   | exact ⟨⟨_, rfl, ⟨fun h => ⟨hall, by simpa using hb10_5, toStr_inj (of_decide_eq_true h)⟩, fun h => decide_eq_true (congrArg toStr h.2.2)⟩⟩, hX⟩
   | exact ⟨⟨false, rfl, ⟨(fun h => by cases h), fun h => absurd h.2.1 (by simpa using hb10_5)⟩⟩, hX⟩
end Go.Proofs.Eng
end
section
namespace Go.Proofs.Eng
open Go.RowKit
theorem findF_one (c : By) : findF [c] (shaF c) = some c := by unfold findF; rw [List.find?_cons, decide_eq_true rfl]
theorem findF_none_app {L l : List By} {h : Hash} : findF (L ++ l) h = none ↔ findF L h = none ∧ findF l h = none := by rw [findF_append, Option.or_eq_none_iff]
theorem freshL_hit (cs : List By) : ∀ L, ∀ x ∈ cs, findF (L ++ freshL L cs) (shaF x) ≠ none := by
  induction cs with
  | nil => intro L x hx; cases hx
  | cons c cs ih =>
    intro L x hx
    unfold freshL
    by_cases hc : findF L (shaF c) = none
    · rw [if_pos hc, show L ++ c :: freshL (L ++ [c]) cs = L ++ [c] ++ freshL (L ++ [c]) cs by simp]
      rcases List.mem_cons.1 hx with rfl | hx
      · intro h
        have := (findF_none_app.1 (findF_none_app.1 h).1).2
        rw [findF_one] at this; cases this
      · exact ih _ x hx
    · rw [if_neg hc]
      rcases List.mem_cons.1 hx with rfl | hx
      · intro h; exact hc (findF_none_app.1 h).1
      · exact ih _ x hx
theorem freshL_pos {L cs : List By} {c : By} (h : findF L (shaF c) = none) : freshL L (c :: cs) = c :: freshL (L ++ [c]) cs := by rw [freshL]; exact if_pos h
theorem freshL_neg {L cs : List By} {c : By} (h : ¬ findF L (shaF c) = none) : freshL L (c :: cs) = freshL L cs := by rw [freshL]; exact if_neg h
theorem freshL_app (a b : List By) : ∀ L, freshL L (a ++ b) = freshL L a ++ freshL (L ++ freshL L a) b := by
  induction a with
  | nil => intro L; simp [freshL]
  | cons c a ih =>
    intro L
    rw [List.cons_append]
    by_cases hc : findF L (shaF c) = none
    · rw [freshL_pos hc, freshL_pos hc, ih, List.cons_append, show L ++ c :: freshL (L ++ [c]) a = L ++ [c] ++ freshL (L ++ [c]) a by simp]
    · rw [freshL_neg hc, freshL_neg hc, ih]
theorem fresh_room (cs : List By) (hc : ∀ x ∈ cs, x.length ≤ 1048576) : ∀ L, (segB (freshL L cs)).length ≤ (cs.map List.length).sum + 15 * cs.length := by
  induction cs with
  | nil => intro L; simp [freshL, segB]
  | cons c cs ih =>
    intro L
    have h0 := seal_len 1 c (hc c (by simp))
    have hi := ih (fun x hx => hc x (by simp [hx]))
    rw [List.map_cons, List.sum_cons, List.length_cons]
    unfold freshL
    split
    · have h1 := hi (L ++ [c])
      have e : segB (c :: freshL (L ++ [c]) cs) = sealF 1 c ++ segB (freshL (L ++ [c]) cs) := rfl
      rw [e, List.length_append]; omega
    · have h1 := hi L; omega
theorem fresh_twice (all : List By) : freshL [] (all ++ all) = freshL [] all := by
  rw [freshL_app, freshL_nil_of (L := [] ++ freshL [] all) (cs := all) (fun c hc => freshL_hit all [] c hc), List.append_nil]
theorem tw_put {C : CS} {all : List By} (h : Rst C 1048576 5) (hL : C.L = []) (hz : C.size = 0) (hi : C.index = []) (hs : C.seg = 1) (h1 : all.length ≤ 20) (h2 : ∀ x ∈ all, x.length ≤ 4000) (h3 : (all.map List.length).sum ≤ 4000) :
    (putC C (all ++ all) []).2 = 0 ∧ Rst (putC C (all ++ all) []).1 1048576 11 ∧ (putC C (all ++ all) []).1.L = freshL [] all ∧ (putC C (all ++ all) []).1.index = [] ∧ (putC C (all ++ all) []).1.size ≤ 4300 := by
  have hr := fresh_room all (fun x hx => by have := h2 x hx; omega) []
  have e : freshL C.L (all ++ all) = freshL [] all := by rw [hL]; exact fresh_twice all
  have hok : (Mf.mk 1 (0 + (segB (freshL [] all)).length) []).Ok := ⟨by show 1 ≤ 1; omega, by show 1 ≤ 999999; omega, by show 0 + _ ≤ _; omega, by show 0 ≤ _; omega⟩
  have hm := manB_len hok
  have hf := man_first
  simp only [List.length_nil] at hm
  obtain ⟨a, b, c, d, _, f⟩ := h.put (cs := all ++ all) (ix := []) (fun x hx => by have := h2 x ((List.mem_append.1 hx).elim id id); omega) (by show 0 ≤ _; omega) (by omega) (by rw [e, hz, hi, hs]; omega)
  rw [e] at c f
  exact ⟨a, b, by rw [c, hL]; rfl, d, by rw [f, hz]; omega⟩
theorem tw_again {C : CS} {i : Nat} {x ix : By} (h : Rst C 1048576 i) (hx : findF C.L (shaF x) ≠ none) (h1 : x.length ≤ 4000) (hz : C.size ≤ 4300) (hi : C.index.length ≤ 4000) (hi2 : ix.length ≤ 4000) :
    (putC C [x] ix).2 = 0 ∧ Rst (putC C [x] ix).1 1048576 (i + 6) ∧ (putC C [x] ix).1.L = C.L ∧ (putC C [x] ix).1.index = ix ∧ (putC C [x] ix).1.size = C.size := by
  have e : freshL C.L [x] = [] := freshL_nil_of fun c hc => by rw [List.mem_singleton.1 hc]; exact hx
  have hm := manB_len h.ok
  have hok : (Mf.mk C.seg C.size ix).Ok := ⟨h.ok.lo, h.ok.hi, by show C.size ≤ _; omega, by show ix.length ≤ _; omega⟩
  have hm2 := manB_len hok
  simp only at hm hm2
  have e0 : C.size + (segB []).length = C.size := rfl
  obtain ⟨a, b, c, d, _, f⟩ := h.put (cs := [x]) (ix := ix) (fun y hy => by rw [List.mem_singleton.1 hy]; omega) (by omega) (by omega) (by rw [e, e0]; show _ + _ + 0 + _ ≤ _; omega)
  rw [e] at c f
  exact ⟨a, b, by rw [c, List.append_nil], d, by rw [f]; rfl⟩
end Go.Proofs.Eng
end
section
set_option maxRecDepth 100000
set_option maxHeartbeats 4000000
namespace Go.Proofs.Eng
open Go.RowKit
open Extern.Stop (cell)
theorem fb10 : Tryz.f10.body.isNone = false := by kernel_rfl
theorem fb16 : Tryz.f16.body.isNone = false := by kernel_rfl
theorem fb9 : Tryz.f9.body.isNone = false := by kernel_rfl
theorem fn10 : ngB Tryz.f10 = false := by kernel_rfl
theorem fn16 : ngB Tryz.f16 = false := by kernel_rfl
theorem fn9 : ngB Tryz.f9 = false := by kernel_rfl
theorem inf26 : (Tryz.prog.info? 26).map (fun i => (i.zero, i.size, i.bytes)) = some (some (.agg #[.int .u8 0, .slice none 0 0, .slice none 0 0, .int .i64 0, .bool false, .slice none 0 0]), 6, 96) := by kernel_rfl
theorem pl26 : placed Tryz.prog 26 = some (.agg #[.int .u8 0, .slice none 0 0, .slice none 0 0, .int .i64 0, .bool false, .slice none 0 0], [(0, 1), (1, 1), (2, 1), (3, 1), (4, 1), (5, 1)]) := by kernel_rfl
end Go.Proofs.Eng
end
section
set_option maxRecDepth 100000
set_option maxHeartbeats 4000000
namespace Go.Proofs.Eng
open Go.RowKit
open Extern.Stop (cell)
theorem tw_has {C : CS} {all : List By} (hL : C.L = freshL [] all) (ha : ∀ x ∈ all, ∀ y ∈ all, shaF x = shaF y → x = y) : HasP C all C.index := by
  have hit : ∀ x ∈ all, findF C.L (shaF x) ≠ none := fun x hx => by rw [hL]; exact freshL_hit all [] x hx
  have hin : ∀ c ∈ C.L, c ∈ all := fun c hc => by rw [hL] at hc; exact (freshL_new all [] c hc).2
  refine ⟨fun x hx => ?_, srt_eq (rise_srt _) fun z => ?_, rfl⟩
  · cases e : findF C.L (shaF x) with
    | none => exact absurd e (hit x hx)
    | some c => obtain ⟨h1, h2⟩ := findF_of e; rw [ha c (hin c h2) x hx h1]
  · rw [mem_srt, List.mem_map, List.mem_map]
    constructor
    · rintro ⟨x, hx, rfl⟩; exact ⟨x, hin x hx, rfl⟩
    · rintro ⟨x, hx, rfl⟩
      cases e : findF C.L (shaF x) with
      | none => exact absurd e (hit x hx)
      | some c => obtain ⟨h1, h2⟩ := findF_of e; exact ⟨c, h2, h1⟩
theorem law_ChunksTwice (all : List By) (p q : Option Addr) (n c m c2 : Nat) (w : World) (hl : Sl kLo 23 w.heap.size w p n c all) (ix : By) (hi : Lo w.heap.size w q m c2 ix) (hg : Gt w) :
    Ret Tryz.prog 3 [.slice p n c, .slice q m c2] w (fun v w' => v = .bool true ∧ Ext w w') := by
 have hgs := hg.size
 have hX := Ext.refl w
 refine eN 75 Tryz.func3 ?_
 refine c_seq (r_plain ?_)
 refine pA (r_nil (t_n (c_seq (c_seq (r_plain ?_)))))
 refine pM (pM ?_)
 refine p1 (x_buildA pl26 (by conv => lhs; whnf)) ?_
 refine o_buildSlice u27 inf26 rfl (by decide) (fun base hb => fill_one (by rfl) base hb) ?_
 intro w1 g12 hN12
 have hE1 := hN12.ext
 have hX := hX.ext hE1
 have hA : Sl kCA 26 w.heap.size w1 _ 1 1 [⟨0, [], ix, 0, false, []⟩] := act_one hN12 (hi.ext hX) (Nat.le_refl _)
 refine o_call Tryz.func9 fn9 fb9 (ref20_Few _ _ _ _ _ _ (hl.ext hX) _ _ _ _ _ hA) rfl ?_
 rintro v2 w2 ⟨⟨bf, rfl, hbf⟩, hE2⟩
 have hX := hX.ext hE2
 first | refine p1 (x_notd rfl) ?_ | refine p1 (x_not rfl) ?_
 refine p1b (x_move (by conv => lhs; whnf)) (fun hb1_6 => ?_) (fun hb1_6 => ?_)
 ·refine gF 15 (gF 15 (gF 15 ?_))
  refine p1 (x_pick_t rfl (by conv => lhs; whnf)) ?_
  refine r_nil (t_n ?_)
  refine c_t rfl ?_
  refine c_seq (r_plain ?_)
  refine o_call Tryz.func11 fn11 fb11 (law20_awake _ (hg.ext hX)) rfl ?_
  rintro v3 w3 ⟨rfl, hE3⟩
  have hX := hX.ext hE3
  refine pA (r_nil (t_n (c_ret (t_r ?_))))
  refine eR1 ?_
  exact ⟨rfl, hX⟩
 have hbt : bf = true := by simpa using hb1_6
 obtain ⟨hf1, _, hf3⟩ := hbf hbt
 have hms : msum [ix] = min ix.length 4001 := rfl
 have hms2 : msum ([(⟨0, [], ix, 0, false, []⟩ : CAct)].map CAct.index) = msum [ix] := rfl
 rw [hms2, hms] at hf3
 obtain ⟨hle, hsum⟩ := msum_le (l := all) (by omega)
 have hsum : (all.map List.length).sum ≤ 4000 := by omega
 have hixl : ix.length ≤ 4000 := by omega
 have hln := hl.len
 have hcap := hl.cap
 refine gM 15 ?_
 refine g_drop 15 rfl rfl ?_
 refine o_call Tryz.func10 fn10 fb10 (law20_apart all _ p n c _ (hl.ext hX) hX.size hle (hg := hg.ext hX)) rfl ?_
 rintro v4 w4 ⟨⟨ba, rfl, hba⟩, hE4⟩
 have hX := hX.ext hE4
 first | refine g1 15 rfl rfl (x_notd rfl) ?_ | refine g1 15 rfl rfl (x_not rfl) ?_
 refine p1 (x_pick_f rfl (by conv => lhs; whnf)) ?_
 refine r_nil (t_n ?_)
 first | refine c_dec rfl (fun hc19 => ?_) (fun hc19 => ?_) | refine c_if rfl (fun hc19 => ?_) (fun hc19 => ?_)
 ·refine c_seq (r_plain ?_)
  refine o_call Tryz.func11 fn11 fb11 (law20_awake _ (hg.ext hX)) rfl ?_
  rintro v5 w5 ⟨rfl, hE5⟩
  have hX := hX.ext hE5
  refine pA (r_nil (t_n (c_ret (t_r ?_))))
  refine eR1 ?_
  exact ⟨rfl, hX⟩
 have hap := hba (by simpa using hc19)
 refine c_skip (t_n (c_seq (r_plain ?_)))
 have hXs1 := hX.size
 refine o_call Tryz.func13 fn13 fb13 (disk_New 1048576 _) rfl ?_
 rintro v6 w6 ⟨⟨gd, rfl, hD⟩, hE6⟩
 have hX := hX.ext hE6
 have hD : Dsk (since w) _ gd (newD 1048576) := hD.mono (fun k _ h => h.elim False.elim fun q => Nat.le_trans hXs1 q.1)
 have hXs := hX.size
 refine o_call Tryz.func12 fn12 fb12 (chunks_Open gd (since w) (newD 1048576) _ hD (newD_ok 1048576) (by show 0 < _; omega) (by show (-1 : Int) ≤ _; omega) (fun x hx => by cases hx) (fun k h => Nat.le_trans hgs (show w.heap.size ≤ k from h)) (hg.ext hX)) rfl ?_
 rintro v7 w7 ⟨⟨pv7, rfl, hor7⟩, hM7⟩
 obtain ⟨hn1, hn2, hn3, hn4, hn5, hn6⟩ := new_open (most := 1048576) (M := 1048576) (by rfl) (by have := man_first; omega)
 obtain ⟨ho2, g, rfl, hC⟩ := hor7.resolve_right (fun h => h.1 hn1)
 rw [ho2]
 obtain ⟨C1, hC1⟩ : ∃ c, c = (openC (newD 1048576)).1 := ⟨_, rfl⟩
 rw [← hC1] at hC hn2 hn3 hn4 hn5 hn6
 have hX := hX.modS hM7 (since_le w)
 have hC : Cst (since w) w7 g gd C1 := hC.mono (fun j _ h => h.elim (fun h => h) fun q => Nat.le_trans hXs q.1)
 obtain ⟨Z, hZ⟩ : ∃ z, z = w7.heap.size := ⟨_, rfl⟩
 have hXZ := Ext.refl w7
 have hwZ := hX.size
 obtain ⟨hp1, hp2, hp3, hp4, hp5⟩ := tw_put hn2 hn3 hn4 hn5 hn6 hf1 hle hsum
 refine pM ?_
 refine p1 (x_extract rfl rfl) ?_
 refine p1 (x_extract rfl rfl) ?_
 refine pA (pA (r_nil (t_n (c_seq (c_seq (r_plain ?_))))))
 refine pM ?_
 refine p1 ((x_neq rfl rfl).cast (congrArg Value.bool (decide_eq_false (by simp)))) ?_
 refine pM (gM 28 ?_)
 refine g1 28 rfl rfl ((x_eql_ptrnil u30 rfl rfl).cast (congrArg Value.bool (decide_eq_false (by simp)))) ?_
 refine p1 (x_pick_f rfl (by conv => lhs; whnf)) ?_
 refine pM (gM 32 ?_)
 refine g_drop 32 rfl rfl ?_
 refine o_buildSlice u22 inf23 rfl (by decide) (fun base hb => by have h0 : base = #[] := Array.eq_empty_of_size_eq_zero (by simpa using hb); subst h0; rfl) ?_
 intro w8 g34 hN34
 have hE8 := hN34.ext
 have hX := hX.ext hE8
 have hXZ := hXZ.ext hE8
 have hZs0 := hXZ.size
 have hJ : Own kLo 23 w.heap.size Z w8 _ 0 0 [] := lo_empty hN34 Z (by have := hN34.g_eq; have := hN34.size; omega)
 refine gM 32 ?_
 refine g_drop 32 rfl rfl ?_
 obtain ⟨css1, hA1, hsr1⟩ := src_kind u22 (hl.ext hX) kLo_pos
 have hZs := hXZ.size
 refine o_append (d := kLo) (all) u22 inf23 rfl kLo_pos rfl rfl hJ (hsr1) hln (hA1) (rfl) (by omega) (by omega) (by omega) (by omega) (by simp [kLo]) ?_
 intro p36 c36 w9 hJ hM9
 have hX := hX.mod hM9 ((by omega))
 have hXZ := hXZ.mod hM9 (by omega)
 refine gM 32 ?_
 refine g_drop 32 rfl rfl ?_
 obtain ⟨css2, hA2, hsr2⟩ := src_kind u22 (hl.ext hX) kLo_pos
 have hZs := hXZ.size
 refine o_append (d := kLo) (all) u22 inf23 rfl kLo_pos rfl rfl hJ (hsr2) hln (hA2) (rfl) (by omega) (by omega) (by omega) (by omega) (by simp [kLo]) ?_
 intro p38 c38 w10 hJ hM10
 have hX := hX.mod hM10 ((by omega))
 have hXZ := hXZ.mod hM10 (by omega)
 refine g_drop 32 rfl rfl ?_
 obtain ⟨Sd, r, μ, pi, ni, ci, nx, hCX⟩ := hC.ext hXZ
 have hln2 : C1.L.length ≤ 4194304 := by rw [hn3]; simp
 refine o_call Tryz.func14 fn14 fb14 (store_Put g gd r (since w) Sd μ pi nx ni ci C1 5 _ hCX (hn2.cn (by omega) hln2) (fun j h => Nat.le_trans hgs h) (hg.ext hX) (by omega) (all ++ all) _ _ _ _ hJ.sl.loSl hX.size (by omega) [] _ _ _ (Out.nil _ _)) rfl ?_
 rintro v11 w11 ⟨rfl, hC, hM11⟩
 rw [hp1]
 have hXs2 := hX.size
 have hX := hX.modS hM11 (since_le w)
 obtain ⟨C2, hC2⟩ : ∃ c, c = (putC C1 (all ++ all) []).1 := ⟨_, rfl⟩
 rw [← hC2] at hC hp2 hp3 hp4 hp5
 have hC : Cst (since w) w11 g gd C2 := hC.mono (fun j _ h => h.elim (fun h => h) fun q => Nat.le_trans hXs2 q.1)
 refine g1 32 rfl rfl ((x_neq rfl rfl).cast (congrArg Value.bool (decide_eq_false (by simp)))) ?_
 refine p1 (x_pick_f rfl (by conv => lhs; whnf)) ?_
 refine r_nil (t_n ?_)
 refine c_f rfl ?_
 refine c_skip (t_n (c_seq ?_))
 have hC0 := hC
 obtain ⟨Sd, r, μ, pi, ni, ci, nx, hCX⟩ := hC0
 have hfl := freshL_len all []
 have hU := hp2.cn (by omega) (by rw [hp3]; omega)
 refine r_plain ?_
 refine pM ?_
 refine o_call Tryz.func15 fn15 fb15 (store_Size g gd r _ Sd μ pi nx ni ci C2 11 _ hCX hU) rfl ?_
 rintro v12 w12 ⟨rfl, hE12⟩
 have hX := hX.ext hE12
 have hC := hC.ext hE12
 refine pA (r_nil (t_n (c_seq (c_seq (r_plain ?_)))))
 refine pA (r_nil (t_n (c_block ?_)))
 refine c_loop (ι := Nat × CS × Nat) [4, 8, 44, 45, 46, 47, 48, 49, 50, 51, 52, 53, 54, 55, 56, 57, 58] (fun (k, C, j) => [(8, .int .i64 (k : Int))]) (fun (k, C, j) w' => Ext w w' ∧ (k ≤ n ∧ Cst (since w) w' g gd C ∧ Rst C 1048576 j ∧ j ≤ 11 + 6 * k ∧ C.L = freshL [] all ∧ C.size = C2.size ∧ C.index = if k = 0 then [] else ix)) (fun (k, C, j) => n - k) ((0, C2, 11)) ⟨rfl, trivial⟩ ⟨hX, by omega, hC, hp2, by omega, hp3, rfl, hp4⟩ ?_
 rintro ⟨k, C, j⟩ GL0 w13 ⟨hE13, hk, hC, hR, hj, hcl, hcz, hci⟩
 have hX := hE13
 have hcn := hR.cn (by omega) (by rw [hcl]; omega)
 have hcil : C.index.length ≤ 4000 := by rw [hci]; split <;> first | exact Nat.zero_le _ | exact hixl
 refine c_seq (c_seq (r_plain ?_))
 refine pM (pM ?_)
 refine p1 (x_len_slice u22 rfl) ?_
 refine p1 (x_lss rfl rfl) ?_
 refine r_nil (t_n ?_)
 first | refine c_dec rfl (fun hc47 => ?_) (fun hc47 => ?_) | refine c_if rfl (fun hc47 => ?_) (fun hc47 => ?_)
 ·refine c_skip (t_n (c_seq (c_block (c_seq (r_plain ?_)))))
  refine pM (pM (pM (pM ?_)))
  refine p1 ((x_add rfl rfl (fits_i64 (by omega) (by omega))).cast (congrArg (Value.int .i64) (by omega : _ = ((k + 1 : Nat) : Int)))) ?_
  refine p1 (x_slice_lhN u22 sz23 rfl rfl rfl (by omega) (by omega)) ?_
  refine pM ?_
  obtain ⟨Sd, r, μ, pi, ni, ci, nx, hCX⟩ := hC
  have hmem := mem_of_getD (z := []) (xs := all) (i := k) (by omega) rfl
  have hxl := hle _ hmem
  have hrow : Sl (kSl kByte 5) 23 w.heap.size w13 (adw p c k 1) (k + 1 - k) (c - k) [all.getD k []] := by
    have h1 := (((hl.ext hX).dropI k (by omega)).take 1 (by omega)).loSl
    have e1 : (all.drop k).take 1 = [all.getD k []] := by rw [List.drop_eq_getElem_cons (by omega), List.getD_eq_getElem?_getD, List.getElem?_eq_getElem (by omega)]; rfl
    rw [e1] at h1
    rw [show k + 1 - k = 1 by omega]
    exact h1
  obtain ⟨ha1, ha2, ha3, ha4, ha5⟩ := tw_again hR (x := all.getD k []) (ix := ix) (by rw [hcl]; exact freshL_hit all [] _ hmem) hxl (by omega) hcil hixl
  have hXs3 := hX.size
  refine o_call Tryz.func14 fn14 fb14 (store_Put g gd r (since w) Sd μ pi nx ni ci C j _ hCX hcn (fun j h => Nat.le_trans hgs h) (hg.ext hX) (by omega) [all.getD k []] _ _ _ _ hrow hX.size (by omega) ix _ _ _ (Out.ofSl (hi.ext hX).sl5 (fun hne h => by have := hi.low hne; have : w.heap.size ≤ ab q := h; omega))) rfl ?_
  rintro v14 w14 ⟨rfl, hC, hM14⟩
  rw [ha1]
  have hX := hX.modS hM14 (since_le w)
  have hC : Cst (since w) w14 g gd (putC C [all.getD k []] ix).1 := hC.mono (fun j _ h => h.elim (fun h => h) fun q => Nat.le_trans hXs3 q.1)
  refine p1 ((x_neq rfl rfl).cast (congrArg Value.bool (decide_eq_false (by simp)))) ?_
  refine r_nil (t_n ?_)
  refine c_f rfl ?_
  refine c_skip (b_n (t_n (r_plain ?_)))
  refine pM ?_
  refine p1 (x_add rfl rfl (fits_i64 (by omega) (by omega))) ?_
  refine pA (r_nil ?_)
  refine t_n (At.mk ((k + 1, (putC C [all.getD k []] ix).1, j + 6)) (by repeat (first | exact Agr.refl _ _ | exact Agr.hav _ _ _ | refine Agr.upd rfl ?_ | refine Agr.updR rfl ?_ | refine Agr.updL ?_ _ rfl | refine Agr.hav' rfl ?_)) ⟨rfl, trivial⟩ ?_)
  exact ⟨⟨hX, by omega, hC, ha2, by omega, ha3.trans hcl, ha5.trans hcz, ha4⟩, by first | (dsimp only; omega) | ((show _ < _); omega)⟩
 refine c_exit (t_e (t_e (b_hit (t_n (c_seq (c_seq ?_))))))
 have hkn : k = n := by omega
 have hHas := tw_has hcl hap
 refine r_plain ?_
 refine pM ?_
 refine p1 (x_len_slice u22 rfl) ?_
 refine p1 (x_eql rfl rfl) ?_
 refine r_nil (t_n ?_)
 first | refine c_dec rfl (fun hc61 => ?_) (fun hc61 => ?_) | refine c_if rfl (fun hc61 => ?_) (fun hc61 => ?_)
 ·have hIx := (Out.nil (since w) w).sl5
  have hci2 : C.index = [] := by rw [hci, if_pos (by omega)]
  rw [hci2] at hHas
  refine r_plain ?_
  refine pA (r_nil (t_n (c_seq ?_)))
  have hC0 := hC
  obtain ⟨Sd, r, μ, pi, ni, ci, nx, hCX⟩ := hC0
  refine r_plain ?_
  refine pM ?_
  refine o_call Tryz.func15 fn15 fb15 (store_Size g gd r _ Sd μ pi nx ni ci C j _ hCX hcn) rfl ?_
  rintro v15 w15 ⟨rfl, hE15⟩
  have hX := hX.ext hE15
  have hC := hC.ext hE15
  refine pM ?_
  refine p1 ((x_eql rfl rfl).cast (congrArg Value.bool (decide_eq_true (by rw [hcz])))) ?_
  refine pM (gM 66 (gM 66 (gM 66 ?_)))
  have hC1_ := hC
  obtain ⟨Sd, r, μ, pi, ni, ci, nx, hCX⟩ := hC1_
  refine g_drop 66 rfl rfl ?_
  refine o_call Tryz.func16 fn16 fb16 (law20_has g gd r _ Sd μ pi nx ni ci C j _ hCX hcn (hg.ext hX) all _ p n c (hl.ext hX) hX.size (by omega) (fun x hx => by have := hle x hx; omega) _ _ _ _ _ _ (hIx.ext hX)) rfl ?_
  rintro v16 w16 ⟨⟨bh, rfl, hbh⟩, hE16⟩
  have hX := hX.ext hE16
  have hbt2 : bh = true := hbh.2 hHas
  subst hbt2
  refine p1 (x_pick_t rfl (by conv => lhs; whnf)) ?_
  refine pM ?_
  refine g_drop 72 rfl rfl ?_
  refine o_call Tryz.func11 fn11 fb11 (law20_awake _ (hg.ext hX)) rfl ?_
  rintro v17 w17 ⟨rfl, hE17⟩
  have hX := hX.ext hE17
  refine p1 (x_pick_t rfl (by conv => lhs; whnf)) ?_
  refine pA (r_nil (t_n (c_ret ?_)))
  refine eR1 ?_
  exact ⟨rfl, hX⟩
 have hIx := hi.sl5
 have hci2 : C.index = ix := by rw [hci, if_neg (by omega)]
 rw [hci2] at hHas
 refine c_skip (t_n (c_seq ?_))
 have hC0 := hC
 obtain ⟨Sd, r, μ, pi, ni, ci, nx, hCX⟩ := hC0
 refine r_plain ?_
 refine pM ?_
 refine o_call Tryz.func15 fn15 fb15 (store_Size g gd r _ Sd μ pi nx ni ci C j _ hCX hcn) rfl ?_
 rintro v18 w18 ⟨rfl, hE18⟩
 have hX := hX.ext hE18
 have hC := hC.ext hE18
 refine pM ?_
 refine p1 ((x_eql rfl rfl).cast (congrArg Value.bool (decide_eq_true (by rw [hcz])))) ?_
 refine pM (gM 66 (gM 66 (gM 66 ?_)))
 have hC1_ := hC
 obtain ⟨Sd, r, μ, pi, ni, ci, nx, hCX⟩ := hC1_
 refine g_drop 66 rfl rfl ?_
 refine o_call Tryz.func16 fn16 fb16 (law20_has g gd r _ Sd μ pi nx ni ci C j _ hCX hcn (hg.ext hX) all _ p n c (hl.ext hX) hX.size (by omega) (fun x hx => by have := hle x hx; omega) _ _ _ _ _ _ (hIx.ext hX)) rfl ?_
 rintro v19 w19 ⟨⟨bh, rfl, hbh⟩, hE19⟩
 have hX := hX.ext hE19
 have hbt2 : bh = true := hbh.2 hHas
 subst hbt2
 refine p1 (x_pick_t rfl (by conv => lhs; whnf)) ?_
 refine pM ?_
 refine g_drop 72 rfl rfl ?_
 refine o_call Tryz.func11 fn11 fb11 (law20_awake _ (hg.ext hX)) rfl ?_
 rintro v20 w20 ⟨rfl, hE20⟩
 have hX := hX.ext hE20
 refine p1 (x_pick_t rfl (by conv => lhs; whnf)) ?_
 refine pA (r_nil (t_n (c_ret ?_)))
 refine eR1 ?_
 exact ⟨rfl, hX⟩
end Go.Proofs.Eng
end
