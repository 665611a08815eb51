import Derived.Test.YtlmfpocifkpggaaGreatDoorKN5
set_option linter.unusedVariables false
set_option linter.unusedSimpArgs false
set_option linter.unusedSectionVars false
section
namespace Go.Proofs.Eng
open Go.RowKit
structure Vu (D : DS) (M i : Nat) (V : ByteArray → Option Fb) (u n : Nat) : Prop where
  up : UpD D M i
  v : ∀ k, ascF D.l k = V k
  used : usedL D.l = u
  len : D.l.length = n
theorem fb_get {o : Option Fb} {f : Fb} (h : o = some f) : (o.map fun f => f.1.length).getD 0 = f.1.length := by rw [h]; rfl
section
variable {D : DS} {M i u n : Nat} {V : ByteArray → Option Fb} {k : ByteArray}
theorem vu_of (h : Vu D M i V u n) (act : List Fl) (o : Option Fb) (ha : act = insA D.l k o) (hg : Good { D with l := act, left := -1, steps := D.steps + 1 } (i + 1)) {u' n' : Nat} (hu : u' + ((V k).map fun f => f.1.length).getD 0 = u + (o.map fun f => f.1.length).getD 0) (hn : n' + (if V k = none then 0 else 1) = n + (if o = none then 0 else 1)) :
    Vu { D with l := act, left := -1, steps := D.steps + 1 } M (i + 1) (mset V k o) u' n' := by
  have hr := h.up.good.ok.rise
  refine ⟨up_of h.up hg, fun z => ?_, ?_, ?_⟩
  · show ascA act z = _
    rw [ha, ← asc_insA hr]
    unfold mset
    split
    · rfl
    · exact h.v z
  · show usedL act = u'
    have := usedL_ins hr k o
    have hv : ascA D.l k = V k := h.v k
    rw [hv] at this
    rw [ha]; have := h.used; omega
  · show act.length = n'
    have := ins_len hr k o
    have hv : ascA D.l k = V k := h.v k
    rw [hv] at this
    rw [ha]; have := h.len; omega
theorem vu_create (h : Vu D M i V u n) (hn : namedD k = true) (hk : V k = none) (hl : n < 64) : (createD D k).2 = 0 ∧ Vu (createD D k).1 M (i + 1) (mset V k (some ([], 0))) u (n + 1) := by
  have hg := good_create h.up.good k
  unfold createD at hg ⊢
  rw [look_ok (by simp [hn]) h.up.down, if_neg (by simp), if_neg (by rw [h.v, hk]; simp), if_neg (by rw [h.len]; omega), up_go h.up] at hg ⊢
  exact ⟨rfl, vu_of h _ _ rfl hg (by rw [hk]; rfl) (by rw [if_pos hk]; rfl)⟩
theorem vu_append (h : Vu D M i V u n) (hn : namedD k = true) {f : Fb} (hk : V k = some f) {p : By} (hr : u + p.length ≤ M) : (appendD D k p).2 = 0 ∧ Vu (appendD D k p).1 M (i + 1) (mset V k (some (f.1 ++ p, f.2))) (u + p.length) n := by
  have hg := good_append h.up.good k p
  have hgf : getF D k = f := by unfold getF; rw [h.v, hk]; rfl
  unfold appendD at hg ⊢
  rw [look_ok (by simp [hn]) h.up.down, if_neg (by simp), if_neg (by rw [h.v, hk]; simp), hgf, h.up.most, h.used, if_neg (by omega), up_go h.up] at hg ⊢
  exact ⟨rfl, vu_of h _ _ rfl hg (by rw [fb_get hk]; simp; omega) (by rw [if_neg (by rw [hk]; simp), if_neg (by simp)])⟩
theorem vu_sync (h : Vu D M i V u n) (hn : namedD k = true) {f : Fb} (hk : V k = some f) : (syncD D k).2 = 0 ∧ Vu (syncD D k).1 M (i + 1) (mset V k (some (f.1, f.1.length))) u n := by
  have hg := good_sync h.up.good k
  have hgf : getF D k = f := by unfold getF; rw [h.v, hk]; rfl
  unfold syncD at hg ⊢
  rw [look_ok (by simp [hn]) h.up.down, if_neg (by simp), if_neg (by rw [h.v, hk]; simp), hgf, up_go h.up] at hg ⊢
  exact ⟨rfl, vu_of h _ _ rfl hg (by rw [fb_get hk]; rfl) (by rw [if_neg (by rw [hk]; simp), if_neg (by simp)])⟩
theorem vu_read (h : Vu D M i V u n) (hn : namedD k = true) {f : Fb} (hk : V k = some f) : readD D k = (f.1, 0) := up_read h.up hn (by rw [h.v, hk])
theorem vu_none (h : Vu D M i V u n) (hn : namedD k = true) (hk : V k = none) : readD D k = ([], 22) := by
  unfold readD
  rw [look_ok (by simp [hn]) h.up.down, if_neg (by simp), if_pos (by rw [h.v, hk])]
theorem vu_ren (h : Vu D M i V u n) {old now : ByteArray} (hn : namedD old = true) (hn2 : namedD now = true) (hne : old ≠ now) {f : Fb} (hk : V old = some f) :
    (renameD D old now).2 = 0 ∧ ∃ u' n', Vu (renameD D old now).1 M (i + 1) (mset (mset V now (some f)) old none) u' n' ∧ u' + ((V now).map fun f => f.1.length).getD 0 = u ∧ n' + (if V now = none then 0 else 1) = n := by
  have hg := good_rename h.up.good old now
  have hgf : getF D old = f := by unfold getF; rw [h.v, hk]; rfl
  have hr := h.up.good.ok.rise
  have ho : ascF D.l old ≠ none := by rw [h.v, hk]; simp
  unfold renameD at hg ⊢
  rw [look_ok (by simp [hn, hn2]) h.up.down, if_neg (by simp), if_neg ho, hgf, up_go h.up] at hg ⊢
  have hl : renL D.l old now f = insA (insA D.l now (some f)) old none := if_neg hne
  rw [hl] at hg ⊢
  have hr2 := rise_insA hr now (some f)
  have h1 := usedL_ins hr now (some f)
  have h2 := usedL_ins hr2 old none
  have h3 := ins_len hr now (some f)
  have h4 := ins_len hr2 old none
  have hv : ascA D.l now = V now := h.v now
  have hvo : ascA (insA D.l now (some f)) old = some f := by rw [← asc_insA hr]; unfold mset; rw [if_neg hne]; exact (h.v old).trans hk
  rw [hv] at h1 h3
  rw [hvo] at h2 h4
  simp only [Option.map_some, Option.getD_some, Option.map_none, Option.getD_none, reduceCtorEq, if_false, if_true] at h1 h2 h3 h4
  refine ⟨rfl, _, _, ⟨up_of h.up hg, fun z => ?_, rfl, rfl⟩, ?_, ?_⟩
  · show ascA (insA (insA D.l now (some f)) old none) z = _
    rw [← asc_insA hr2]
    unfold mset
    split
    · rfl
    · rw [← asc_insA hr]
      unfold mset
      split
      · rfl
      · exact h.v z
  · have := h.used; show usedL (insA (insA D.l now (some f)) old none) + _ = _; omega
  · have := h.len; show (insA (insA D.l now (some f)) old none).length + _ = _; split at h3 <;> simp_all <;> omega
end
theorem named_man : namedD nMan = true := by decide
theorem named_new : namedD nNew = true := by decide
theorem man_ne_new : nMan ≠ nNew := by decide
theorem nSeg_len {k : Nat} (h1 : 1 ≤ k) (h2 : k ≤ 999999) : (nSeg k).size = 10 := by
  unfold nSeg nameF
  rw [if_neg (by omega)]
  show (toStr (nameL _)).size = 10
  unfold toStr
  simp [ByteArray.size, nameL_len]
theorem named_seg {k : Nat} (h1 : 1 ≤ k) (h2 : k ≤ 999999) : namedD (nSeg k) = true := by
  have hs := nSeg_len h1 h2
  unfold namedD
  rw [decide_eq_true (by omega), Bool.true_and, List.all_eq_true]
  intro c hc
  have e : (nSeg k).data.toList = nameL ((k : Int).toNat) := by unfold nSeg nameF toStr; rw [if_neg (by omega)]
  rw [e] at hc
  unfold nameL at hc
  rcases List.mem_append.1 hc with h | h
  · clear hc; revert h; revert c; decide
  · have := dig_mem 6 _ c h
    exact decide_eq_true (by omega)
theorem seg_ne_man {k : Nat} (h1 : 1 ≤ k) (h2 : k ≤ 999999) : nSeg k ≠ nMan := fun e => by have := nSeg_len h1 h2; rw [e] at this; revert this; decide
theorem seg_ne_new {k : Nat} (h1 : 1 ≤ k) (h2 : k ≤ 999999) : nSeg k ≠ nNew := fun e => by have := nSeg_len h1 h2; rw [e] at this; revert this; decide
theorem not_seg_man : ¬ SegN nMan := fun ⟨k, h1, h2, e⟩ => seg_ne_man h1 h2 e.symm
theorem vu_write {D : DS} {M i u n : Nat} {V : ByteArray → Option Fb} (h : Vu D M i V u n) (hk : V nNew = none) (hl : n < 64) {b : By} (hr : u + b.length ≤ M) :
    (writeD D b).2 = 0 ∧ ∃ u' n', Vu (writeD D b).1 M (i + 4) (mset V nMan (some (b, b.length))) u' n' ∧ u' + ((V nMan).map fun f => f.1.length).getD 0 = u + b.length ∧ n' + (if V nMan = none then 0 else 1) = n + 1 := by
  have hne : nNew ≠ nMan := fun e => man_ne_new e.symm
  obtain ⟨a1, a2⟩ := vu_create h named_new hk hl
  have k1 : mset V nNew (some ([], 0)) nNew = some ([], 0) := by unfold mset; rw [if_pos rfl]
  obtain ⟨b1, b2⟩ := vu_append a2 named_new k1 (p := b) hr
  have k2 : mset (mset V nNew (some ([], 0))) nNew (some (([] : By) ++ b, 0)) nNew = some (([] : By) ++ b, 0) := by unfold mset; rw [if_pos rfl]
  obtain ⟨c1, c2⟩ := vu_sync b2 named_new k2
  obtain ⟨d1, u', n', d2, d3, d4⟩ := vu_ren c2 (old := nNew) (now := nMan) named_new named_man hne (f := (([] : By) ++ b, (([] : By) ++ b).length)) (by unfold mset; rw [if_pos rfl])
  have e : writeD D b = renameD (syncD (appendD (createD D nNew).1 nNew b).1 nNew).1 nNew nMan := by
    unfold writeD
    rw [andD_ok a1, andD_ok b1, andD_ok c1]
  have hm : ∀ x : Option Fb, mset (mset (mset V nNew (some ([], 0))) nNew (some (([] : By) ++ b, 0))) nNew x nMan = V nMan := fun x => by
    unfold mset; rw [if_neg man_ne_new, if_neg man_ne_new, if_neg man_ne_new]
  rw [hm] at d3 d4
  refine ⟨by rw [e]; exact d1, u', n', ?_, d3, d4⟩
  rw [e]
  have hv : mset (mset (mset (mset (mset V nNew (some ([], 0))) nNew (some (([] : By) ++ b, 0))) nNew (some (([] : By) ++ b, (([] : By) ++ b).length))) nMan (some (([] : By) ++ b, (([] : By) ++ b).length))) nNew none = mset V nMan (some (b, b.length)) := by
    funext z
    unfold mset
    simp only [List.nil_append]
    by_cases e1 : z = nNew
    · subst e1; rw [if_pos rfl, if_neg hne, hk]
    · rw [if_neg e1]
      by_cases e2 : z = nMan
      · rw [if_pos e2, if_pos e2]
      · rw [if_neg e2, if_neg e2, if_neg e1, if_neg e1, if_neg e1]
  rw [hv] at d2
  exact d2
theorem clean_keep {keep : ByteArray} {D : DS} : ∀ {ns : List ByteArray}, (∀ x ∈ ns, keepN x keep = true) → cleanL keep D ns = (D, 0)
  | [], _ => rfl
  | x :: ns, h => by
    unfold cleanL
    rw [if_pos (h x (by simp))]
    exact clean_keep fun y hy => h y (by simp [hy])
structure Rst (C : CS) (M i : Nat) : Prop where
  ex : ∃ V u, Vu C.D M i V u 2 ∧ V nMan = some (manB ⟨C.seg, C.size, C.index⟩, (manB ⟨C.seg, C.size, C.index⟩).length) ∧ V (nSeg C.seg) = some (segB C.L, C.size) ∧ (∀ k, k ≠ nMan → k ≠ nSeg C.seg → V k = none) ∧ u = (manB ⟨C.seg, C.size, C.index⟩).length + C.size
  ok : (Mf.mk C.seg C.size C.index).Ok
  sz : (segB C.L).length = C.size
  cl : ∀ c ∈ C.L, c.length ≤ 1048576
  dead : C.dead = false
  next : C.next = none
theorem getSg_seg {l : List By} (h : ∀ c ∈ l, c.length ≤ 1048576) : getSg (segB l) = (l, 0) := by
  unfold getSg
  have h1 : chunksF (segB l) = some l := chunks_put l h
  rw [h1]
theorem Rst.open {C : CS} {M i : Nat} (h : Rst C M i) : openC C.D = (C, 0) := by
  obtain ⟨V, u, hv, h1, h2, h3, h4⟩ := h.ex
  have hlo := h.ok.lo
  have hhi := h.ok.hi
  have hrm := vu_read hv named_man h1
  have hrs := vu_read hv (named_seg hlo hhi) h2
  have hmo : ManOf (readD C.D nMan).1 ⟨C.seg, C.size, C.index⟩ := by rw [hrm]; exact ⟨h.ok, rfl⟩
  have hs := h.sz
  have hfull : (segB C.L).take C.size = segB C.L := List.take_of_length_le (by omega)
  rw [openC_load (by rw [hrm]), loadC_man hmo]
  simp only []
  rw [hrs]
  simp only []
  rw [hfull, getSg_seg h.cl, if_neg (by simp; omega)]
  have hkeep : cleanD C.D (nSeg C.seg) = (C.D, 0) := clean_keep fun x hx => by
    rw [keepN_iff]
    have hx2 : ascF C.D.l x ≠ none := asc_someA.2 hx
    rw [hv.v] at hx2
    by_cases e1 : x = nMan
    · subst e1; exact ⟨man_ne_new, .inl not_seg_man⟩
    · by_cases e2 : x = nSeg C.seg
      · subst e2; exact ⟨seg_ne_new hlo hhi, .inr rfl⟩
      · exact absurd (h3 x e1 e2) hx2
  have hlr : loadR C.D ⟨C.seg, C.size, C.index⟩ = (C.D, 0) := by
    unfold loadR
    simp only []
    rw [hrs, if_neg (by simp only []; omega)]
    exact hkeep
  rw [hlr]
  have hL : (getSg ((readD C.D (nSeg C.seg)).1.take C.size)).1 = C.L := by rw [hrs]; simp only []; rw [hfull, getSg_seg h.cl]
  have : loadS C.D ⟨C.seg, C.size, C.index⟩ = C := by
    unfold loadS
    simp only []
    rw [hL]
    have hd := h.dead
    have hn := h.next
    cases C; simp_all
  rw [this]
theorem vu_new (most : Int) : Vu (newD most) (max 0 (min most 16777216)).toNat 0 (fun _ => none) 0 0 := ⟨⟨good_new most, rfl, rfl, rfl⟩, fun _ => rfl, rfl, rfl⟩
theorem new_open {most : Int} {M : Nat} (hm : M = (max 0 (min most 16777216)).toNat) (hr : (manB ⟨1, 0, []⟩).length ≤ M) :
    (openC (newD most)).2 = 0 ∧ Rst (openC (newD most)).1 M 5 ∧ (openC (newD most)).1.L = [] ∧ (openC (newD most)).1.size = 0 ∧ (openC (newD most)).1.index = [] ∧ (openC (newD most)).1.seg = 1 := by
  subst hm
  have h0 := vu_new most
  have hok : (Mf.mk 1 0 []).Ok := ⟨by show 1 ≤ 1; omega, by show 1 ≤ 999999; omega, by show 0 ≤ _; omega, by show 0 ≤ _; omega⟩
  have hrn := vu_none h0 named_man rfl
  have hcl : cleanD (newD most) (toStr []) = (newD most, 0) := rfl
  obtain ⟨a1, a2⟩ := vu_create h0 (named_seg (k := 1) (by omega) (by omega)) rfl (by omega)
  have hk : mset (fun _ => none : ByteArray → Option Fb) (nSeg 1) (some ([], 0)) nNew = none := by unfold mset; rw [if_neg (fun e => seg_ne_new (k := 1) (by omega) (by omega) e.symm)]
  obtain ⟨b1, u', n', b2, b3, b4⟩ := vu_write a2 hk (by omega) (b := manB ⟨1, 0, []⟩) (by omega)
  have hkm : mset (fun _ => none : ByteArray → Option Fb) (nSeg 1) (some ([], 0)) nMan = none := by unfold mset; rw [if_neg (fun e => seg_ne_man (k := 1) (by omega) (by omega) e.symm)]
  rw [hkm] at b3 b4
  simp only [Option.map_none, Option.getD_none, if_true] at b3 b4
  have hn2 : n' = 2 := by omega
  subst hn2
  have hrun : runD openOps (newD most) = writeD (createD (newD most) (nSeg 1)).1 (manB ⟨1, 0, []⟩) := by
    simp only [openOps, runD, andD_end]
    rw [hcl, andD_ok (r := (newD most, 0)) rfl, andD_ok a1]
    unfold writeM
    rw [if_pos (errM_ok.2 hok)]
  have ho := openC_new (D := newD most) (by rw [hrn])
  rw [ho, hrun]
  refine ⟨b1, ⟨⟨_, u', b2, ?_, ?_, ?_, (by show u' = (manB ⟨1, 0, []⟩).length + 0; omega)⟩, hok, rfl, (by intro c hc; cases hc), rfl, rfl⟩, rfl, rfl, rfl, rfl⟩
  · unfold mset; rw [if_pos rfl]
  · show mset _ nMan _ (nSeg 1) = _
    unfold mset; rw [if_neg (seg_ne_man (k := 1) (by omega) (by omega)), if_pos rfl]; rfl
  · intro k h1 h2
    unfold mset; rw [if_neg h1, if_neg h2]
theorem Rst.put {C : CS} {M i : Nat} (h : Rst C M i) {cs : List By} {ix : By} (hc : ∀ c ∈ cs, c.length ≤ 1048576) (hi : ix.length ≤ 524288) (hM : M ≤ 16777216)
    (hr : (manB ⟨C.seg, C.size, C.index⟩).length + C.size + (segB (freshL C.L cs)).length + (manB ⟨C.seg, C.size + (segB (freshL C.L cs)).length, ix⟩).length ≤ M) :
    (putC C cs ix).2 = 0 ∧ Rst (putC C cs ix).1 M (i + 6) ∧ (putC C cs ix).1.L = C.L ++ freshL C.L cs ∧ (putC C cs ix).1.index = ix ∧ (putC C cs ix).1.seg = C.seg ∧ (putC C cs ix).1.size = C.size + (segB (freshL C.L cs)).length := by
  obtain ⟨V, u, hv, h1, h2, h3, h4⟩ := h.ex
  have hlo := h.ok.lo
  have hhi := h.ok.hi
  simp only at hlo hhi
  have hns := named_seg hlo hhi
  have hmain := putC_main (C := C) (cs := cs) (ix := ix) (by rw [h.dead]; simp) (by rintro (e | ⟨c, hc1, hc2⟩); (· omega); (· have := hc c hc1; omega))
  obtain ⟨l, hl⟩ : ∃ l, l = freshL C.L cs := ⟨_, rfl⟩
  rw [← hl] at hmain hr ⊢
  have hlc : ∀ c ∈ l, c.length ≤ 1048576 := fun c hcl => hc c (by rw [hl] at hcl; exact (freshL_new cs C.L c hcl).2)
  have hok : (Mf.mk C.seg (C.size + (segB l).length) ix).Ok := ⟨hlo, hhi, by show C.size + _ ≤ _; omega, hi⟩
  -- the first step
  have hp1 : ∃ D1 j, put1 C l = (D1, 0) ∧ Vu D1 M j (mset V (nSeg C.seg) (some (segB (C.L ++ l), C.size + (segB l).length))) (u + (segB l).length) 2 ∧ j ≤ i + 2 := by
    have hsa : segB C.L ++ segB l = segB (C.L ++ l) := by unfold segB; rw [List.flatMap_append]
    by_cases he : l = []
    · refine ⟨C.D, i, put1_nil he, ?_, by omega⟩
      have hV : mset V (nSeg C.seg) (some (segB (C.L ++ l), C.size + (segB l).length)) = V := by
        funext z; unfold mset
        split
        · rename_i e; subst e; rw [h2, he]; simp [segB]
        · rfl
      rw [hV, he]; exact hv
    · obtain ⟨a1, a2⟩ := vu_append hv hns h2 (p := segB l) (by omega)
      obtain ⟨b1, b2⟩ := vu_sync a2 hns (f := (segB C.L ++ segB l, C.size)) (by unfold mset; rw [if_pos rfl])
      refine ⟨(syncD (appendD C.D (nSeg C.seg) (segB l)).1 (nSeg C.seg)).1, i + 2, ?_, ?_, Nat.le_refl _⟩
      · rw [put1_cons he]
        simp only [runD, andD_end]
        rw [andD_ok a1]
        exact Prod.ext rfl b1
      · have hV : mset (mset V (nSeg C.seg) (some (segB C.L ++ segB l, C.size))) (nSeg C.seg) (some (segB C.L ++ segB l, (segB C.L ++ segB l).length)) = mset V (nSeg C.seg) (some (segB (C.L ++ l), C.size + (segB l).length)) := by
          funext z; unfold mset
          split
          · rw [List.length_append, h.sz, hsa]
          · rfl
        rw [← hV]; exact b2
  obtain ⟨D1, j, hp, hv1, hj⟩ := hp1
  have hnn : mset V (nSeg C.seg) (some (segB (C.L ++ l), C.size + (segB l).length)) nNew = none := by
    unfold mset; rw [if_neg (fun e => seg_ne_new hlo hhi e.symm)]; exact h3 _ (fun e => man_ne_new e.symm) (fun e => seg_ne_new hlo hhi e.symm)
  obtain ⟨w1, u', n', w2, w3, w4⟩ := vu_write hv1 hnn (by omega) (b := manB ⟨C.seg, C.size + (segB l).length, ix⟩) (by omega)
  have hmm : mset V (nSeg C.seg) (some (segB (C.L ++ l), C.size + (segB l).length)) nMan = some (manB ⟨C.seg, C.size, C.index⟩, (manB ⟨C.seg, C.size, C.index⟩).length) := by
    unfold mset; rw [if_neg (fun e => seg_ne_man hlo hhi e.symm)]; exact h1
  rw [hmm] at w3 w4
  simp only [Option.map_some, Option.getD_some, reduceCtorEq, if_false] at w3 w4
  have hn2 : n' = 2 := by omega
  subst hn2
  have hR : putR C l ix = writeD D1 (manB ⟨C.seg, C.size + (segB l).length, ix⟩) := by
    unfold putR
    rw [hp]
    show writeM D1 _ = _
    unfold writeM
    rw [if_pos (errM_ok.2 hok)]
  rw [hmain, hR, if_neg (by rw [w1]; simp)]
  have w2 : Vu (writeD D1 (manB ⟨C.seg, C.size + (segB l).length, ix⟩)).1 M (i + 6) _ u' 2 := ⟨⟨w2.up.good.mono (by omega), w2.up.down, w2.up.left, w2.up.most⟩, w2.v, w2.used, w2.len⟩
  refine ⟨rfl, ⟨⟨_, u', w2, ?_, ?_, ?_, (by show u' = (manB ⟨C.seg, C.size + (segB l).length, ix⟩).length + (C.size + (segB l).length); omega)⟩, hok, ?_, ?_, h.dead, h.next⟩, rfl, rfl, rfl, rfl⟩
  · unfold mset; rw [if_pos rfl]
  · show mset _ nMan _ (nSeg C.seg) = _
    unfold mset; rw [if_neg (seg_ne_man hlo hhi), if_pos rfl]
  · intro k e1 e2
    show mset _ nMan _ k = none
    unfold mset; rw [if_neg e1, if_neg e2]; exact h3 k e1 e2
  · show (segB (C.L ++ l)).length = C.size + (segB l).length
    have e : segB (C.L ++ l) = segB C.L ++ segB l := by unfold segB; rw [List.flatMap_append]
    rw [e, List.length_append, h.sz]
  · intro c hcl
    rcases List.mem_append.1 hcl with e | e
    · exact h.cl c e
    · exact hlc c e
theorem Rst.cn {C : CS} {M i : Nat} (h : Rst C M i) (hM : M ≤ 16777216) (hl : C.L.length ≤ 4194304) : CN C i := by
  obtain ⟨V, u, hv, h1, h2, h3, h4⟩ := h.ex
  have := h.ok.ix
  have := h.ok.sz
  exact ⟨hv.up.good, h.ok.hi, (by have := h.ok.sz; simp only at this; omega), (by simp only at *; omega), (fun g z e => by rw [h.next] at e; cases e), hl, h.cl⟩
theorem manB_len {m : Mf} (h : m.Ok) : (manB m).length ≤ m.index.length + 35 := by
  have h1 := lebU_len10 (n := m.seg) (by have := h.hi; omega)
  have h2 := lebU_len10 (n := m.size) (by have := h.sz; omega)
  have h3 := seal_len 3 (manBody m) (manBody_len h)
  have h4 : (manBody m).length = (lebU m.seg).length + ((lebU m.size).length + m.index.length) := by simp [manBody]
  unfold manB
  omega
theorem ok_first : (Mf.mk 1 0 []).Ok := ⟨by show 1 ≤ 1; omega, by show 1 ≤ 999999; omega, by show 0 ≤ _; omega, by show 0 ≤ _; omega⟩
theorem man_first : (manB ⟨1, 0, []⟩).length ≤ 35 := manB_len ok_first
theorem aw20_seg : (segB [[97]]).length = 7 := by
  have h := aw_flat
  unfold segB
  rw [h]; exact aw_seal
theorem aw20_put {C : CS} (h : Rst C 1000 5) (hL : C.L = []) (hz : C.size = 0) (hi : C.index = []) (hs : C.seg = 1) :
    (putC C [[97]] [105]).2 = 0 ∧ Rst (putC C [[97]] [105]).1 1000 11 ∧ (putC C [[97]] [105]).1.L = [[97]] ∧ (putC C [[97]] [105]).1.index = [105] ∧ (putC C [[97]] [105]).1.size = 7 := by
  have hok : (Mf.mk 1 7 [105]).Ok := ⟨by show 1 ≤ 1; omega, by show 1 ≤ 999999; omega, by show 7 ≤ _; omega, by show 1 ≤ _; omega⟩
  have hm := manB_len hok
  have hf := man_first
  have e : freshL C.L [[97]] = [[97]] := by rw [hL]; rfl
  simp only [List.length_cons, List.length_nil] at hm
  obtain ⟨a, b, c, d, _, f⟩ := h.put (cs := [[97]]) (ix := [105]) (by intro x hx; simp only [List.mem_singleton] at hx; subst hx; show 1 ≤ _; omega) (by show 1 ≤ _; omega) (by omega) (by rw [e, aw20_seg, hz, hi, hs, show 0 + 7 = 7 from rfl]; omega)
  rw [e] at c f
  exact ⟨a, b, by rw [c, hL]; rfl, d, by rw [f, hz, aw20_seg]⟩
end Go.Proofs.Eng
end
section
set_option maxRecDepth 100000
set_option maxHeartbeats 4000000
namespace Go.Proofs.Eng
open Go.RowKit
open Extern.Stop (cell)
theorem fb11 : Tryz.f11.body.isNone = false := by kernel_rfl
theorem fb12 : Tryz.f12.body.isNone = false := by kernel_rfl
theorem fb13 : Tryz.f13.body.isNone = false := by kernel_rfl
theorem fb14 : Tryz.f14.body.isNone = false := by kernel_rfl
theorem fb15 : Tryz.f15.body.isNone = false := by kernel_rfl
theorem fb28 : Tryz.f28.body.isNone = false := by kernel_rfl
theorem fb29 : Tryz.f29.body.isNone = false := by kernel_rfl
theorem fb30 : Tryz.f30.body.isNone = false := by kernel_rfl
theorem fb31 : Tryz.f31.body.isNone = false := by kernel_rfl
theorem fb32 : Tryz.f32.body.isNone = false := by kernel_rfl
theorem fn11 : (Tryz.f11.name == "runtime.NumGoroutine") = false := by kernel_rfl
theorem fn12 : (Tryz.f12.name == "runtime.NumGoroutine") = false := by kernel_rfl
theorem fn13 : (Tryz.f13.name == "runtime.NumGoroutine") = false := by kernel_rfl
theorem fn14 : (Tryz.f14.name == "runtime.NumGoroutine") = false := by kernel_rfl
theorem fn15 : (Tryz.f15.name == "runtime.NumGoroutine") = false := by kernel_rfl
theorem fn28 : (Tryz.f28.name == "runtime.NumGoroutine") = false := by kernel_rfl
theorem fn29 : (Tryz.f29.name == "runtime.NumGoroutine") = false := by kernel_rfl
theorem fn30 : (Tryz.f30.name == "runtime.NumGoroutine") = false := by kernel_rfl
theorem fn31 : (Tryz.f31.name == "runtime.NumGoroutine") = false := by kernel_rfl
theorem fn32 : (Tryz.f32.name == "runtime.NumGoroutine") = false := by kernel_rfl
end Go.Proofs.Eng
end
section
set_option maxRecDepth 100000
set_option maxHeartbeats 4000000
namespace Go.Proofs.Eng
open Go.RowKit
open Extern.Stop (cell)
theorem law20_awake (w : World) (hg : Gt w) :
    Ret Tryz.prog 11 [] w (fun v w' => v = .bool true ∧ Ext w w') := by
 have hgs := hg.size
 have hX := Ext.refl w
 refine enter 65 _ Tryz.func11 rfl rfl (Nat.le_of_ble_eq_true rfl) rfl ?_
 refine c_seq (r_plain ?_)
 refine p1 (x_assign (by conv => lhs; whnf)) ?_
 refine r_nil (t_n (c_seq (r_plain ?_)))
 have hXs1 := hX.size
 refine o_call Tryz.func13 fn13 fb13 (disk_New 1000 _) rfl ?_
 rintro v1 w1 ⟨⟨gd, rfl, hD⟩, hE1⟩
 have hX := hX.ext hE1
 have hg := hg.ext hE1
 have hD : Dsk (since w) _ gd (newD 1000) := hD.mono (fun k _ h => h.elim False.elim fun q => Nat.le_trans hXs1 q.1)
 refine p1 (x_assign (by conv => lhs; whnf)) ?_
 refine r_nil (t_n (c_seq (r_plain ?_)))
 refine p1 (x_move (by conv => lhs; whnf)) ?_
 have hXs := hX.size
 refine o_call Tryz.func12 fn12 fb12 (chunks_Open gd (since w) (newD 1000) _ hD (newD_ok 1000) (by show 0 < _; omega) (by show (-1 : Int) ≤ _; omega) (fun x hx => by cases hx) (fun k h => Nat.le_trans hgs (show w.heap.size ≤ k from h)) hg) rfl ?_
 rintro v2 w2 ⟨⟨pv2, rfl, hor2⟩, hM2⟩
 obtain ⟨hn1, hn2, hn3, hn4, hn5, hn6⟩ := new_open (most := 1000) (M := 1000) (by rfl) (by have := man_first; omega)
 obtain ⟨ho2, g, rfl, hC⟩ := hor2.resolve_right (fun h => h.1 hn1)
 rw [ho2]
 obtain ⟨C1, hC1⟩ : ∃ c, c = (openC (newD 1000)).1 := ⟨_, rfl⟩
 rw [← hC1] at hC hn2 hn3 hn4 hn5 hn6
 have hX := hX.modS hM2 (since_le w)
 have hg := hg.modS hM2 (fun k h => Nat.le_trans hgs (show w.heap.size ≤ k from h))
 have hC := hC.sub (w := w) (fun j h => h.elim (fun h => h) fun q => Nat.le_trans hXs q.1)
 obtain ⟨Z, hZ⟩ : ∃ z, z = w2.heap.size := ⟨_, rfl⟩
 rw [← hZ] at hC
 have hXZ := Ext.refl w2
 have hwZ := hX.size
 obtain ⟨hp1, hp2, hp3, hp4, hp5⟩ := aw20_put hn2 hn3 hn4 hn5 hn6
 refine p1 (x_move (by conv => lhs; whnf)) ?_
 refine p1 (x_extract rfl rfl) ?_
 refine p1 (x_extract rfl rfl) ?_
 refine p1 (x_assign (by conv => lhs; whnf)) ?_
 refine p1 (x_assign (by conv => lhs; whnf)) ?_
 refine r_nil (t_n (c_seq (c_seq (r_plain ?_))))
 refine p1 (x_move (by conv => lhs; whnf)) ?_
 refine p1 ((x_neq rfl rfl).cast (congrArg Value.bool (decide_eq_false (by simp)))) ?_
 refine p1 (x_move (by conv => lhs; whnf)) ?_
 refine g1 13 rfl rfl (x_move (by conv => lhs; whnf)) ?_
 refine g1 13 rfl rfl ((x_eql_ptrnil u30 rfl rfl).cast (congrArg Value.bool (decide_eq_false (by simp)))) ?_
 refine p1 (x_pick_f rfl (by conv => lhs; whnf)) ?_
 refine p1 (x_move (by conv => lhs; whnf)) ?_
 refine g1 17 rfl rfl (x_move (by conv => lhs; whnf)) ?_
 refine g_drop 17 rfl rfl ?_
 refine o_buildSlice u23 inf5 rfl (by decide) (fun base hb => fill_one (by rfl) base hb) ?_
 intro w3 g19 hN19
 have hN19 : New _ _ g19 ([(97 : UInt8)].map fun b => [cell b]).flatten.toArray 5 := hN19
 have hg19 := hN19.g_eq
 have hZs := hXZ.size
 have hO19 : Own kByte 5 0 0 w3 (some ⟨g19, 0, none⟩) 1 1 [(97 : UInt8)] := own_lit (B0 := 0) [(97 : UInt8)] hN19 (Nat.zero_le _) (by simp)
 have hJ19 := hO19.sl
 have hE3 := hN19.ext
 have hX := hX.ext hE3
 have hXZ := hXZ.ext hE3
 refine g_drop 17 rfl rfl ?_
 refine o_convBB u23 u5 rfl hN19.blk ?_
 intro w4 hO4 hR4
 have hX := hX.mod (hO4.mod (B := w.heap.size) (by omega)) (Nat.le_refl _)
 have hXZ := hXZ.mod (hO4.mod (B := Z) (by omega)) (by omega)
 have hs19 := (slx hJ19 hR4).re (Nat.le_refl _) 5
 have ho19 := out_new (w := w) (Z := Z) hs19 rfl (by omega)
 refine g_drop 17 rfl rfl ?_
 refine o_buildSlice u22 inf23 rfl (by decide) (fun base hb => fill_one (by rfl) base hb) ?_
 intro w5 g21 hN21
 have hB21 := hN21.blk
 have hE5 := hN21.ext
 have hs19 := hs19.ext hE5
 have hX := hX.ext hE5
 have hXZ := hXZ.ext hE5
 refine g_drop 17 rfl rfl ?_
 refine o_buildSlice u23 inf5 rfl (by decide) (fun base hb => fill_one (by rfl) base hb) ?_
 intro w6 g22 hN22
 have hN22 : New _ _ g22 ([(105 : UInt8)].map fun b => [cell b]).flatten.toArray 5 := hN22
 have hg22 := hN22.g_eq
 have hZs := hXZ.size
 have hO22 : Own kByte 5 0 0 w6 (some ⟨g22, 0, none⟩) 1 1 [(105 : UInt8)] := own_lit (B0 := 0) [(105 : UInt8)] hN22 (Nat.zero_le _) (by simp)
 have hJ22 := hO22.sl
 have hE6 := hN22.ext
 have hX := hX.ext hE6
 have hXZ := hXZ.ext hE6
 have hB21 := hB21.ext hE6
 refine g_drop 17 rfl rfl ?_
 refine o_convBB u23 u5 rfl hN22.blk ?_
 intro w7 hO7 hR7
 have hX := hX.mod (hO7.mod (B := w.heap.size) (by omega)) (Nat.le_refl _)
 have hXZ := hXZ.mod (hO7.mod (B := Z) (by omega)) (by omega)
 have hs22 := (slx hJ22 hR7).re (Nat.le_refl _) 5
 have ho22 := out_new (w := w) (Z := Z) hs22 rfl (by omega)
 have hs19 := (slx (hs19.ext hN22.ext) hR7).re (Nat.le_refl _) 5
 have hB21 := hB21.one hO7 (by decide)
 have hkl := sl1_blk hB21 hs19
 refine g_drop 17 rfl rfl ?_
 obtain ⟨Sd, r, μ, pi, ni, ci, nx, hCX⟩ := hC.ext hXZ
 refine o_call Tryz.func14 fn14 fb14 (store_Put g gd r (sub w Z) Sd μ pi nx ni ci C1 5 _ hCX (hn2.cn (by omega) (by rw [hn3]; simp)) (fun j h => Nat.le_trans hgs h.1) (hg.ext hXZ) (by omega) [[97]] _ _ _ _ hkl (Nat.le_refl _) (by omega) [105] _ _ _ ho22) rfl ?_
 rintro v8 w8 ⟨rfl, hC, hM8⟩
 rw [hp1]
 have hX := hX.modS hM8 (fun k h => h.1)
 have hg := (hg.ext hXZ).modS hM8 (fun j h => Nat.le_trans hgs h.1)
 obtain ⟨C2, hC2⟩ : ∃ c, c = (putC C1 [[97]] [105]).1 := ⟨_, rfl⟩
 rw [← hC2] at hC hp2 hp3 hp4 hp5
 obtain ⟨Sd, r, μ, pi, ni, ci, nx, hCX⟩ := hC
 have hXs3 := hXZ.size
 have hD : Dsk (since w) _ gd C2.D := hCX.d.mono (fun j _ h => (hCX.sub j h).elim (fun h => h.1) fun q => by show w.heap.size ≤ j; have := q.1; omega)
 have hU := hp2.cn (by omega) (by rw [hp3]; simp)
 refine g1 17 rfl rfl ((x_neq rfl rfl).cast (congrArg Value.bool (decide_eq_false (by simp)))) ?_
 refine p1 (x_pick_f rfl (by conv => lhs; whnf)) ?_
 refine r_nil (t_n ?_)
 refine c_f rfl ?_
 refine c_skip (t_n (c_seq (r_plain ?_)))
 refine p1 (x_move (by conv => lhs; whnf)) ?_
 have hXs := hX.size
 refine o_call Tryz.func12 fn12 fb12 (chunks_Open gd (since w) C2.D _ hD hU.good.ok (Nat.lt_of_le_of_lt hU.good.steps (by omega)) hU.good.left hU.good.names (fun k h => Nat.le_trans hgs (show w.heap.size ≤ k from h)) hg) rfl ?_
 rintro v9 w9 ⟨⟨pv9, rfl, hor9⟩, hM9⟩
 obtain ⟨ho3, g2, rfl, hC⟩ := hor9.resolve_right (fun h => h.1 (by rw [hp2.open]))
 rw [ho3]
 rw [hp2.open] at hC
 have hX := hX.modS hM9 (since_le w)
 have hg := hg.modS hM9 (fun k h => Nat.le_trans hgs (show w.heap.size ≤ k from h))
 obtain ⟨Se, r2, μ2, pi2, ni2, ci2, nx2, hCX⟩ := hC
 refine p1 (x_move (by conv => lhs; whnf)) ?_
 refine p1 (x_extract rfl rfl) ?_
 refine p1 (x_extract rfl rfl) ?_
 refine p1 (x_assign (by conv => lhs; whnf)) ?_
 refine p1 (x_assign (by conv => lhs; whnf)) ?_
 refine r_nil (t_n (c_seq (r_plain ?_)))
 refine p1 (x_move (by conv => lhs; whnf)) ?_
 refine p1 ((x_eql rfl rfl).cast (congrArg Value.bool (decide_eq_true (rfl)))) ?_
 refine p1 (x_move (by conv => lhs; whnf)) ?_
 refine g1 34 rfl rfl (x_move (by conv => lhs; whnf)) ?_
 refine g1 34 rfl rfl ((x_neq_ptrnil u30 rfl rfl).cast (congrArg Value.bool (decide_eq_true (by simp)))) ?_
 refine p1 (x_pick_t rfl (by conv => lhs; whnf)) ?_
 refine p1 (x_move (by conv => lhs; whnf)) ?_
 refine g1 38 rfl rfl (x_move (by conv => lhs; whnf)) ?_
 refine g_drop 38 rfl rfl ?_
 refine o_call Tryz.func31 fn31 fb31 (store_Index g2 gd r2 _ Se μ2 pi2 nx2 ni2 ci2 C2 11 _ hCX hU) rfl ?_
 rintro v10 w10 ⟨⟨qi, mi, cj, rfl, hO⟩, hE10⟩
 have hX := hX.ext hE10
 have hCX := hCX.ext hE10
 rw [hp4] at hO
 refine g1 38 rfl rfl (x_bytes_str u23 u5 u9 rfl hO.sl) ?_
 refine g1 38 rfl rfl ((x_eql_str rfl (show _ = Value.string (toStr [105]) from rfl)).cast (congrArg Value.bool (decide_eq_true (rfl)))) ?_
 refine p1 (x_pick_t rfl (by conv => lhs; whnf)) ?_
 refine p1 (x_move (by conv => lhs; whnf)) ?_
 refine g1 44 rfl rfl (x_move (by conv => lhs; whnf)) ?_
 refine g_drop 44 rfl rfl ?_
 refine o_call Tryz.func15 fn15 fb15 (store_Size g2 gd r2 _ Se μ2 pi2 nx2 ni2 ci2 C2 11 _ hCX hU) rfl ?_
 rintro v11 w11 ⟨rfl, hE11⟩
 have hX := hX.ext hE11
 have hCX := hCX.ext hE11
 have hO := hO.ext hE11
 refine g1 44 rfl rfl ((x_eql rfl rfl).cast (congrArg Value.bool (decide_eq_true (by rw [hp5]; rfl)))) ?_
 refine p1 (x_pick_t rfl (by conv => lhs; whnf)) ?_
 refine p1 (x_move (by conv => lhs; whnf)) ?_
 refine g1 49 rfl rfl (x_move (by conv => lhs; whnf)) ?_
 refine g_drop 49 rfl rfl ?_
 refine o_call Tryz.func30 fn30 fb30 (store_List g2 gd r2 _ Se μ2 pi2 nx2 ni2 ci2 C2 11 _ hCX hU) rfl ?_
 rintro v12 w12 ⟨⟨qk, mk, ck, rfl, hK⟩, hE12⟩
 have hX := hX.ext hE12
 have hCX := hCX.ext hE12
 have hO := hO.ext hE12
 have hkl := hK.len
 rw [hp3] at hkl
 have hk1 : mk = 1 := hkl.symm
 refine g1 49 rfl rfl (x_len_slice u54 rfl) ?_
 refine g1 49 rfl rfl ((x_eql rfl rfl).cast (congrArg Value.bool (decide_eq_true (by rw [hk1]; rfl)))) ?_
 refine p1 (x_pick_t rfl (by conv => lhs; whnf)) ?_
 refine p1 (x_move (by conv => lhs; whnf)) ?_
 refine p1 (x_pick_t rfl (by conv => lhs; whnf)) ?_
 refine p1 (x_move (by conv => lhs; whnf)) ?_
 refine p1 (x_pick_t rfl (by conv => lhs; whnf)) ?_
 refine p1 (x_move (by conv => lhs; whnf)) ?_
 refine p1 (x_pick_t rfl (by conv => lhs; whnf)) ?_
 refine p1 (x_move (by conv => lhs; whnf)) ?_
 refine p1 (x_pick_t rfl (by conv => lhs; whnf)) ?_
 refine p1 (x_move (by conv => lhs; whnf)) ?_
 refine p1 (x_pick_t rfl (by conv => lhs; whnf)) ?_
 refine p1 (x_assign (by conv => lhs; whnf)) ?_
 refine r_nil (t_n (c_ret ?_))
 refine end1 rfl (by conv => lhs; whnf) ?_
 exact ⟨rfl, hX⟩
theorem law_ChunksNobody (h : Hash) (p : Option Addr) (n c : Nat) (w : World) (hg : Gt w) :
    Ret Tryz.prog 5 [.slice p n c, .agg (hv h)] w (fun v w' => v = .bool true ∧ Ext w w') := by
 have hX := Ext.refl w
 refine enter 73 _ Tryz.func5 rfl rfl (Nat.le_of_ble_eq_true rfl) rfl ?_
 refine c_seq (r_plain ?_)
 refine o_boxA (by conv => lhs; whnf) ?_
 intro w1 g3 hN3
 have hE1 := hN3.ext
 have hX := hX.ext hE1
 have hB3 := hN3.blk
 refine p1 (x_assign (by conv => lhs; whnf)) ?_
 refine r_nil (t_n (c_seq (r_plain ?_)))
 refine o_call Tryz.func12 fn12 fb12 (chunks_Open_nil _) rfl ?_
 rintro v2 w2 ⟨rfl, hE2⟩
 have hX := hX.ext hE2
 have hB3 := hB3.ext hE2
 refine p1 (x_move (by conv => lhs; whnf)) ?_
 refine p1 (x_extract rfl rfl) ?_
 refine p1 (x_extract rfl rfl) ?_
 refine p1 (x_assign (by conv => lhs; whnf)) ?_
 refine p1 (x_assign (by conv => lhs; whnf)) ?_
 refine r_nil (t_n (c_seq (c_seq (r_plain ?_))))
 refine p1 (x_move (by conv => lhs; whnf)) ?_
 refine p1 ((x_neq_ptrnil u30 rfl rfl).cast (congrArg Value.bool (decide_eq_false (by simp)))) ?_
 refine p1 (x_move (by conv => lhs; whnf)) ?_
 refine g1 17 rfl rfl (x_move (by conv => lhs; whnf)) ?_
 refine g1 17 rfl rfl ((x_neq rfl rfl).cast (congrArg Value.bool (decide_eq_false (by simp)))) ?_
 refine p1 (x_pick_f rfl (by conv => lhs; whnf)) ?_
 refine r_nil (t_n ?_)
 refine c_f rfl ?_
 refine c_skip (t_n (c_seq (r_plain ?_)))
 refine p1 (x_move (by conv => lhs; whnf)) ?_
 refine p1 (x_loadB ua64 rfl hB3 (hv_sz sz64 _)) ?_
 refine o_call Tryz.func28 fn28 fb28 (store_Get_nil h _) rfl ?_
 rintro v3 w3 ⟨rfl, hE3⟩
 have hX := hX.ext hE3
 have hB3 := hB3.ext hE3
 refine p1 (x_move (by conv => lhs; whnf)) ?_
 refine p1 (x_extract rfl rfl) ?_
 refine p1 (x_extract rfl rfl) ?_
 refine p1 (x_assign (by conv => lhs; whnf)) ?_
 refine p1 (x_assign (by conv => lhs; whnf)) ?_
 refine r_nil (t_n (c_seq (r_plain ?_)))
 refine p1 (x_move (by conv => lhs; whnf)) ?_
 refine o_call Tryz.func29 fn29 fb29 (store_Step_nil _ _ _ _) rfl ?_
 rintro v4 w4 ⟨rfl, hE4⟩
 have hX := hX.ext hE4
 have hB3 := hB3.ext hE4
 refine p1 (x_move (by conv => lhs; whnf)) ?_
 refine p1 (x_extract rfl rfl) ?_
 refine p1 (x_extract rfl rfl) ?_
 refine p1 (x_assign (by conv => lhs; whnf)) ?_
 refine p1 (x_assign (by conv => lhs; whnf)) ?_
 refine r_nil (t_n (c_seq (r_plain ?_)))
 refine p1 (x_move (by conv => lhs; whnf)) ?_
 refine p1 (x_move (by conv => lhs; whnf)) ?_
 refine o_call Tryz.func14 fn14 fb14 (store_Put_nil _ _ _ _ _ _ _) rfl ?_
 rintro v5 w5 ⟨rfl, hE5⟩
 have hX := hX.ext hE5
 have hB3 := hB3.ext hE5
 refine p1 ((x_eql rfl rfl).cast (congrArg Value.bool (decide_eq_true (rfl)))) ?_
 refine p1 (x_move (by conv => lhs; whnf)) ?_
 refine g1 36 rfl rfl (x_move (by conv => lhs; whnf)) ?_
 refine g1 36 rfl rfl ((x_eql rfl rfl).cast (congrArg Value.bool (decide_eq_true (rfl)))) ?_
 refine p1 (x_pick_t rfl (by conv => lhs; whnf)) ?_
 refine p1 (x_move (by conv => lhs; whnf)) ?_
 refine g1 40 rfl rfl (x_move (by conv => lhs; whnf)) ?_
 refine g_drop 40 rfl rfl ?_
 refine o_call Tryz.func30 fn30 fb30 (store_List_nil _) rfl ?_
 rintro v6 w6 ⟨rfl, hE6⟩
 have hX := hX.ext hE6
 have hB3 := hB3.ext hE6
 refine g1 40 rfl rfl (x_len_slice u54 rfl) ?_
 refine g1 40 rfl rfl ((x_eql rfl rfl).cast (congrArg Value.bool (decide_eq_true (rfl)))) ?_
 refine p1 (x_pick_t rfl (by conv => lhs; whnf)) ?_
 refine p1 (x_move (by conv => lhs; whnf)) ?_
 refine g1 46 rfl rfl (x_move (by conv => lhs; whnf)) ?_
 refine g_drop 46 rfl rfl ?_
 refine o_call Tryz.func31 fn31 fb31 (store_Index_nil _) rfl ?_
 rintro v7 w7 ⟨rfl, hE7⟩
 have hX := hX.ext hE7
 have hB3 := hB3.ext hE7
 refine g1 46 rfl rfl (x_len_slice u23 rfl) ?_
 refine g1 46 rfl rfl ((x_eql rfl rfl).cast (congrArg Value.bool (decide_eq_true (rfl)))) ?_
 refine p1 (x_pick_t rfl (by conv => lhs; whnf)) ?_
 refine p1 (x_move (by conv => lhs; whnf)) ?_
 refine g1 52 rfl rfl (x_move (by conv => lhs; whnf)) ?_
 refine g_drop 52 rfl rfl ?_
 refine o_call Tryz.func15 fn15 fb15 (store_Size_nil _) rfl ?_
 rintro v8 w8 ⟨rfl, hE8⟩
 have hX := hX.ext hE8
 have hB3 := hB3.ext hE8
 refine g1 52 rfl rfl ((x_eql rfl rfl).cast (congrArg Value.bool (decide_eq_true (rfl)))) ?_
 refine p1 (x_pick_t rfl (by conv => lhs; whnf)) ?_
 refine p1 (x_move (by conv => lhs; whnf)) ?_
 refine g1 57 rfl rfl (x_move (by conv => lhs; whnf)) ?_
 refine g1 57 rfl rfl (x_not rfl) ?_
 refine p1 (x_pick_t rfl (by conv => lhs; whnf)) ?_
 refine p1 (x_move (by conv => lhs; whnf)) ?_
 refine g1 61 rfl rfl (x_move (by conv => lhs; whnf)) ?_
 refine g1 61 rfl rfl ((x_eql rfl rfl).cast (congrArg Value.bool (decide_eq_true (rfl)))) ?_
 refine p1 (x_pick_t rfl (by conv => lhs; whnf)) ?_
 refine p1 (x_move (by conv => lhs; whnf)) ?_
 refine g1 65 rfl rfl (x_move (by conv => lhs; whnf)) ?_
 refine g_drop 65 rfl rfl ?_
 refine o_call Tryz.func32 fn32 fb32 (store_Busy_nil _) rfl ?_
 rintro v9 w9 ⟨rfl, hE9⟩
 have hX := hX.ext hE9
 have hB3 := hB3.ext hE9
 refine g1 65 rfl rfl (x_not rfl) ?_
 refine p1 (x_pick_t rfl (by conv => lhs; whnf)) ?_
 refine p1 (x_move (by conv => lhs; whnf)) ?_
 refine g_drop 70 rfl rfl ?_
 refine o_call Tryz.func11 fn11 fb11 (law20_awake _ (hg.ext hX)) rfl ?_
 rintro v10 w10 ⟨rfl, hE10⟩
 have hX := hX.ext hE10
 have hB3 := hB3.ext hE10
 refine p1 (x_pick_t rfl (by conv => lhs; whnf)) ?_
 refine p1 (x_assign (by conv => lhs; whnf)) ?_
 refine r_nil (t_n (c_ret ?_))
 refine end1 rfl (by conv => lhs; whnf) ?_
 exact ⟨rfl, hX⟩
end Go.Proofs.Eng
end
