import Derived.Test.YtjbfgmkemideiaaE8
import Derived.Test.YtjbfgmkemideiaaP0
import Derived.Shelf.SlSortCmp.InsertionK
set_option linter.unusedVariables false
set_option linter.unusedSimpArgs false
set_option linter.unusedSectionVars false
namespace Go.Proofs.Eng
open Go.RowKit Go.Sort

/-! ### the kit's sort, at a pure kind -/
theorem Ext.grown {w w' : World} (h : Ext w w') : ∃ q os', w' = Sort.grow (w.drewN q) os' := by
  refine ⟨w'.drawn - w.drawn, w'.heap.extract w.heap.size w'.heap.size, ?_⟩
  have e1 : w'.heap = w.heap ++ w'.heap.extract w.heap.size w'.heap.size := by
    apply Array.ext_getElem?
    intro k
    have hs := h.size
    by_cases hk : k < w.heap.size
    · rw [h.old k hk, Array.getElem?_append_left hk]
    · rw [Array.getElem?_append_right (by omega)]
      simp only [Array.getElem?_extract]
      by_cases hk2 : k < w'.heap.size
      · rw [if_pos (by omega)]; congr 1; omega
      · rw [if_neg (by omega), Array.getElem?_eq_none (by omega)]
  have e2 : w'.drawn = w.drawn + (w'.drawn - w.drawn) := by have := h.drawn; omega
  obtain ⟨h1, h2, h3⟩ := (⟨h.os, h.tape, h.output⟩ : w'.os = w.os ∧ w'.tape = w.tape ∧ w'.output = w.output)
  cases w'
  cases w
  simp only [Sort.grow, World.drewN] at *
  subst h1 h2 h3
  rw [← e1, ← e2]
section
variable {α : Type} [Inhabited α] {sz : Nat} {enc : α → List Value} {hl : ∀ x, (enc x).length = sz} {h1 : ∀ x, ∀ v ∈ enc x, v.oneCell' = true}
theorem cmpLays_of_ret {P : Program} {g : Nat} {cf : α → α → Int} (h : ∀ a b w, Ret P g [.agg (enc a).toArray, .agg (enc b).toArray] w (fun v w' => v = .int .i64 (cf a b) ∧ Ext w w')) (blk off size : Nat) (w : World) : CmpLays P g #[] enc sz cf blk off size w := by
  intro m os dk hs x y
  refine Calls.mono (h x y _).out ?_
  rintro e w' ⟨v, rfl, rfl, hx⟩
  exact ⟨rfl, hx.grown⟩
theorem flat_enc : ∀ (xs : List α) (i j : Nat) (v : Value), i < xs.length → (enc (xs.getD i default))[j]? = some v → (∀ x, (enc x).length = sz) → (xs.map enc).flatten[i * sz + j]? = some v := by
  intro xs i j v hi hv hl
  refine Kind.flat_get (s := sz) (fun c hc => ?_) (i := i) (j := j) ?_
  · obtain ⟨x, _, rfl⟩ := List.mem_map.1 hc; exact hl x
  · rw [List.getD_eq_getElem?_getD, List.getElem?_map]
    rw [List.getD_eq_getElem?_getD] at hv
    rw [List.getElem?_eq_getElem hi] at hv ⊢
    exact hv
theorem flat_len (hl : ∀ x, (enc x).length = sz) : ∀ xs : List α, (xs.map enc).flatten.length = xs.length * sz
  | [] => by simp
  | x :: xs => by rw [List.map_cons, List.flatten_cons, List.length_append, hl, flat_len hl xs, List.length_cons, Nat.add_mul]; omega
theorem flatK_eq (hl : ∀ x, (enc x).length = sz) (d' : Array α) : (flatK enc sz d').toList = (d'.toList.map enc).flatten := by
  have hlen : (d'.toList.map enc).flatten.length = d'.size * sz := flat_len hl d'.toList
  apply List.ext_getElem?
  intro t
  by_cases ht : t < d'.size * sz
  · have hk : 0 < sz := by rcases Nat.eq_zero_or_pos sz with h | h; (· subst h; simp at ht); (· exact h)
    have hlt : t / sz < d'.size := Nat.div_lt_of_lt_mul (by rw [Nat.mul_comm]; exact ht)
    have hm : t % sz < sz := Nat.mod_lt _ hk
    have e1 : t = t / sz * sz + t % sz := by have := Nat.div_add_mod t sz; rw [Nat.mul_comm] at this; omega
    have hg := get_flatK enc sz d' t ht
    have hm' : t % sz < (enc d'[t / sz]!).length := by rw [hl]; exact hm
    have hx : (enc d'[t / sz]!)[t % sz]? = some (flatK enc sz d')[t]! := by
      rw [hg, List.getElem?_eq_getElem hm', getElem!_pos (enc d'[t / sz]!) (t % sz) hm']
    have hr := flat_enc (sz := sz) (enc := enc) d'.toList (t / sz) (t % sz) _ (by simpa using hlt) (by
      rw [show d'.toList.getD (t / sz) default = d'[t / sz]! from by rw [getElem!_pos d' _ hlt]; simp [List.getD_eq_getElem?_getD, hlt]]; exact hx) hl
    rw [← e1] at hr
    have hsz : t < (flatK enc sz d').size := by simpa using ht
    rw [hr, Array.getElem?_toList, Array.getElem?_eq_getElem hsz, getElem!_pos (flatK enc sz d') t hsz]
  · rw [List.getElem?_eq_none (by simp; omega), List.getElem?_eq_none (by omega)]
theorem holds_of_own {e : TypeId} {B B0 : Nat} {w : World} {g n c : Nat} {xs : List α} (h : Own (Kind.pure sz enc hl h1) e B B0 w (some ⟨g, 0, none⟩) n c xs) (hn : 0 < n) : HoldsK enc sz w g 0 xs.toArray := by
  obtain ⟨g', cur, css, e1, h2, h3, h4, h5, h6, ha, hlf, ht⟩ := h.block hn
  injection e1 with e1; injection e1 with e1; subst e1
  have hc := all_pure ha
  subst hc
  have hf := flatK_eq hl xs.toArray
  intro j hj
  have hz : (Kind.pure sz enc hl h1).sz = sz := rfl
  have hj' : j < n * sz := by have := h.len; simpa [this] using hj
  refine ⟨?_, frozen_of_row w g _ cur e h3⟩
  have hnc : n * sz ≤ c * sz := Nat.mul_le_mul_right _ h4
  rw [Nat.zero_add]
  refine h3.cell ?_
  have e2 : (xs.map enc).flatten[j]? = cur[j]? := by
    rw [← ht, List.getElem?_take, if_pos (by rw [hz]; exact hj'), Array.getElem?_toList]
  rw [← e2]
  have e3 : (flatK enc sz xs.toArray).toList = (xs.map enc).flatten := hf
  rw [← e3, Array.getElem?_toList, Array.getElem?_eq_getElem hj, getElem!_pos (flatK enc sz xs.toArray) j hj]
  rfl
theorem mod_sortWorld {e : TypeId} {B0 : Nat} {w : World} {g : Nat} {cur : Array Value} (hg : B0 ≤ g) (hB : Blk w g cur e) (m : Nat) (d' : Array α) (os : Array Obj) : Mod B0 e w (sortWorldK enc sz w g 0 m d' os) ∧
    Blk (sortWorldK enc sz w g 0 m d' os) g (putCells id 0 (flatK enc sz d') cur) e := by
  have hlt := hB.lt
  have hsz : (putRowK enc sz (Sort.ahead w m) g 0 d').heap.size = w.heap.size := by unfold putRowK; rw [size_putRow]; rfl
  have hcell : ∀ k, k < w.heap.size → (sortWorldK enc sz w g 0 m d' os).heap[k]? = (putRowK enc sz (Sort.ahead w m) g 0 d').heap[k]? := fun k hk => heap_grow_old _ os (by rw [hsz]; exact hk)
  have hother : ∀ k, k ≠ g → (putRowK enc sz (Sort.ahead w m) g 0 d').heap[k]? = w.heap[k]? := fun k hk => by
    simp only [putRowK, putRow, mapBlock, Sort.ahead, Array.getElem?_modify]
    rw [if_neg (fun e => hk e.symm)]
  have hgb : (putRowK enc sz (Sort.ahead w m) g 0 d').heap[g]? = some (.cells (putCells id 0 (flatK enc sz d') cur) e (0, 0)) := by
    simp only [putRowK, putRow, mapBlock, Sort.ahead, Array.getElem?_modify]
    rw [if_pos trivial]
    have : w.heap[g]? = some (.cells cur e (0, 0)) := hB
    rw [this]; rfl
  have hblk : Blk (sortWorldK enc sz w g 0 m d' os) g (putCells id 0 (flatK enc sz d') cur) e := (hcell g hlt).trans hgb
  refine ⟨⟨?_, fun k hk ho => ?_, fun k hk => ?_, ?_, rfl, rfl, rfl⟩, hblk⟩
  · unfold sortWorldK; rw [size_grow, hsz]; omega
  · have hne : k ≠ g := by
      intro ek; subst ek
      rcases ho with ho | ho
      · omega
      · exact ho hB.ty
    exact (hcell k hk).trans (hother k hne)
  · by_cases ek : k = g
    · subst ek; rw [hblk.ty, hB.ty]
    · exact ty_of_heap ((hcell k hk).trans (hother k ek))
  · show w.drawn ≤ w.drawn + m; omega
theorem own_of_sort {e : TypeId} {B B0 : Nat} {w : World} {g n c : Nat} {xs : List α} (h : Own (Kind.pure sz enc hl h1) e B B0 w (some ⟨g, 0, none⟩) n c xs) (hn : 0 < n) (m : Nat) (d' : Array α) (hd : d'.size = n) (os : Array Obj) :
    Own (Kind.pure sz enc hl h1) e B B0 (sortWorldK enc sz w g 0 m d' os) (some ⟨g, 0, none⟩) n c d'.toList ∧ Mod B0 e w (sortWorldK enc sz w g 0 m d' os) := by
  obtain ⟨g', cur, css, e1, h2, h3, h4, h5, h6, ha, hlf, ht⟩ := h.block hn
  injection e1 with e1; injection e1 with e1; subst e1
  obtain ⟨hm, hb⟩ := mod_sortWorld (enc := enc) (sz := sz) h2 h3 m d' os
  have hz : (Kind.pure sz enc hl h1).sz = sz := rfl
  have hnc : n * sz ≤ c * sz := Nat.mul_le_mul_right _ h4
  refine ⟨Own.remade h2 hb h4 h5 (by rw [hz] at h6 ⊢; simp [putCells, h6]) (by simp [hd]) (pure_all B _ d'.toList) ?_, hm⟩
  rw [← flatK_eq hl d', hz]
  have hs : (flatK enc sz d').size = n * sz := by simp [hd]
  apply List.ext_getElem?
  intro j
  rw [List.getElem?_take]
  rw [hz] at h6
  by_cases hj : j < n * sz
  · rw [if_pos hj, Array.getElem?_toList, Array.getElem?_toList]
    have hjc : j < cur.size := by omega
    simp only [putCells, Array.getElem?_mapIdx, Array.getElem?_eq_getElem hjc, Option.map_some]
    rw [if_pos ⟨Nat.zero_le _, by omega⟩, Nat.sub_zero, Array.getElem?_eq_getElem (show j < (flatK enc sz d').size by omega), getElem!_pos (flatK enc sz d') j (by omega)]
    rfl
  · rw [if_neg hj, Array.getElem?_toList, Array.getElem?_eq_none (by omega)]
end
/-! ### the order is one -/
theorem lex_asymm : ∀ (a b : List UInt8), lex a b = true → lex b a = false
  | x :: l, y :: m, h => by
    unfold lex at h ⊢
    by_cases e : x = y
    · rw [if_pos e] at h; rw [if_pos e.symm]; exact lex_asymm l m h
    · rw [if_neg e] at h; rw [if_neg (fun h => e h.symm)]
      simp only [decide_eq_true_eq, decide_eq_false_iff_not] at h ⊢
      rw [UInt8.lt_iff_toNat_lt] at h ⊢; omega
  | [], _, h => by simp [lex] at h
  | _ :: _, [], h => by simp [lex] at h
theorem lex_trans : ∀ (a b c : List UInt8), lex a b = true → lex b c = true → lex a c = true
  | x :: l, y :: m, z :: n, h, k => by
    unfold lex at h k ⊢
    by_cases e : x = y
    · subst e
      rw [if_pos rfl] at h
      by_cases e2 : x = z
      · rw [if_pos e2] at k ⊢; exact lex_trans l m n h k
      · rw [if_neg e2] at k ⊢; exact k
    · rw [if_neg e] at h
      by_cases e2 : y = z
      · subst e2; rw [if_neg e]; exact h
      · rw [if_neg e2] at k
        simp only [decide_eq_true_eq] at h k
        have h' := UInt8.lt_iff_toNat_lt.1 h
        have k' := UInt8.lt_iff_toNat_lt.1 k
        have e3 : x ≠ z := by intro e3; subst e3; omega
        rw [if_neg e3]
        simp only [decide_eq_true_eq]
        rw [UInt8.lt_iff_toNat_lt]; omega
  | [], _, _, h, _ => by simp [lex] at h
  | _ :: _, [], _, h, _ => by simp [lex] at h
  | _ :: _, _ :: _, [], _, h => by simp [lex] at h
theorem lex_total : ∀ (a b : List UInt8), a.length = b.length → a = b ∨ lex a b = true ∨ lex b a = true
  | x :: l, y :: m, h => by
    unfold lex
    by_cases e : x = y
    · subst e
      rw [if_pos rfl, if_pos rfl]
      rcases lex_total l m (by simpa using h) with h | h | h
      · exact .inl (by rw [h])
      · exact .inr (.inl h)
      · exact .inr (.inr h)
    · rw [if_neg e, if_neg (fun h => e h.symm)]
      right
      simp only [decide_eq_true_eq, UInt8.lt_iff_toNat_lt]
      have : x.toNat ≠ y.toNat := fun h => e (UInt8.toNat_inj.1 h)
      omega
  | [], [], _ => .inl rfl
  | _ :: _, [], h => by simp at h
  | [], _ :: _, h => by simp at h
theorem hlt_asymm {a b : Hash} (h : hlt a b = true) : hlt b a = false := lex_asymm _ _ h
theorem hlt_trans {a b c : Hash} (h : hlt a b = true) (k : hlt b c = true) : hlt a c = true := lex_trans _ _ _ h k
theorem hlt_total (a b : Hash) : a = b ∨ hlt a b = true ∨ hlt b a = true := (lex_total a.1 b.1 (by rw [a.2, b.2])).imp Subtype.ext id
theorem hlt_ne {a b : Hash} (h : hlt a b = true) : a ≠ b := by intro e; subst e; rw [hlt_self] at h; cases h
theorem ltOf_hcmp (a b : Hash) : ltOf hcmp a b = hlt a b := by
  unfold ltOf hcmp
  by_cases e : a = b
  · subst e; simp [hlt_self]
  · rw [if_neg e]
    by_cases h : hlt a b = true
    · simp [h]
    · simp [h]
theorem swo_hash : SWO (ltOf hcmp) where
  irrefl := fun x => by rw [ltOf_hcmp]; exact hlt_self x
  trans := fun x y z h k => by rw [ltOf_hcmp] at *; exact hlt_trans h k
  ntrans := fun x y z h k => by
    rw [ltOf_hcmp] at *
    rcases hlt_total x z with e | e | e
    · rw [e]; exact hlt_self z
    · rcases hlt_total x y with e2 | e2 | e2
      · rw [e2] at e; rw [e] at k; cases k
      · rw [e2] at h; cases h
      · have := hlt_trans e2 e; rw [this] at k; cases k
    · exact hlt_asymm e
/-! ### rising lists are told by what is in them -/
abbrev Rise (l : List Hash) : Prop := l.Pairwise (fun a b => hlt a b = true)
theorem rise_ext : ∀ {l m : List Hash}, Rise l → Rise m → (∀ h, h ∈ l ↔ h ∈ m) → l = m
  | [], [], _, _, _ => rfl
  | [], y :: m, _, _, h => by have := (h y).2 (by simp); simp at this
  | x :: l, [], _, _, h => by have := (h x).1 (by simp); simp at this
  | x :: l, y :: m, hl, hm, h => by
    have hl := List.pairwise_cons.1 hl
    have hm := List.pairwise_cons.1 hm
    have hxy : x = y := by
      rcases List.mem_cons.1 ((h x).1 (by simp)) with e | e
      · exact e
      · rcases List.mem_cons.1 ((h y).2 (by simp)) with e2 | e2
        · exact e2.symm
        · have := hlt_asymm (hl.1 y e2); rw [hm.1 x e] at this; cases this
    subst hxy
    congr 1
    refine rise_ext hl.2 hm.2 fun z => ?_
    constructor
    · intro hz
      rcases List.mem_cons.1 ((h z).1 (by simp [hz])) with e | e
      · exact absurd e.symm (hlt_ne (hl.1 z hz))
      · exact e
    · intro hz
      rcases List.mem_cons.1 ((h z).2 (by simp [hz])) with e | e
      · exact absurd e.symm (hlt_ne (hm.1 z hz))
      · exact e
/-- One after another is told apart from the one ahead alone. -/
def cpt (xs : List Hash) : Nat → List Hash
  | 0 => []
  | m + 1 => if 0 < m ∧ xs.getD m default = xs.getD (m - 1) default then cpt xs m else cpt xs m ++ [xs.getD m default]
theorem cpt_sorted {xs : List Hash} (hs : ∀ i j, i < j → j < xs.length → hlt (xs.getD j default) (xs.getD i default) = false) : ∀ m, m ≤ xs.length →
    Rise (cpt xs m) ∧ (∀ h, h ∈ cpt xs m ↔ ∃ i, i < m ∧ xs.getD i default = h)
  | 0, _ => ⟨List.Pairwise.nil, fun h => by simp [cpt]⟩
  | m + 1, hm => by
    obtain ⟨h1, h2⟩ := cpt_sorted hs m (by omega)
    unfold cpt
    by_cases e : 0 < m ∧ xs.getD m default = xs.getD (m - 1) default
    · rw [if_pos e]
      refine ⟨h1, fun h => (h2 h).trans ⟨fun ⟨i, hi, e⟩ => ⟨i, by omega, e⟩, fun ⟨i, hi, e2⟩ => ?_⟩⟩
      by_cases hi2 : i < m
      · exact ⟨i, hi2, e2⟩
      · have : i = m := by omega
        subst this
        exact ⟨i - 1, by omega, by rw [← e.2]; exact e2⟩
    · rw [if_neg e]
      refine ⟨List.pairwise_append.2 ⟨h1, by simp, fun a ha b hb => ?_⟩, fun h => ?_⟩
      · have hb' : b = xs.getD m default := by simpa using hb
        subst hb'
        obtain ⟨i, hi, rfl⟩ := (h2 a).1 ha
        rcases hlt_total (xs.getD i default) (xs.getD m default) with e3 | e3 | e3
        · exfalso
          apply e
          refine ⟨by omega, ?_⟩
          by_cases hi2 : i = m - 1
          · rw [← hi2]; exact e3.symm
          · have k1 := hs i (m - 1) (by omega) (by omega)
            have k2 := hs (m - 1) m (by omega) (by omega)
            rw [e3] at k1
            rcases hlt_total (xs.getD m default) (xs.getD (m - 1) default) with e4 | e4 | e4
            · exact e4
            · rw [e4] at k2; cases k2
            · rw [e4] at k1; cases k1
        · exact e3
        · have := hs i m hi (by omega); rw [e3] at this; cases this
      · rw [List.mem_append, h2]
        constructor
        · rintro (⟨i, hi, e3⟩ | e3)
          · exact ⟨i, by omega, e3⟩
          · exact ⟨m, by omega, (List.mem_singleton.1 e3).symm⟩
        · rintro ⟨i, hi, e3⟩
          by_cases hi2 : i < m
          · exact .inl ⟨i, hi2, e3⟩
          · have : i = m := by omega
            subst this; right; exact List.mem_singleton.2 e3.symm
theorem cpt_take {xs : List Hash} : ∀ m, m ≤ xs.length → (∀ i, 0 < i → i < m → xs.getD i default ≠ xs.getD (i - 1) default) → cpt xs m = xs.take m
  | 0, _, _ => rfl
  | m + 1, hm, h => by
    unfold cpt
    rw [if_neg (fun e => h m e.1 (by omega) e.2), cpt_take m (by omega) (fun i h1 h2 => h i h1 (by omega)), List.take_succ_eq_append_getElem (by omega)]
    congr 2
    rw [List.getD_eq_getElem?_getD, List.getElem?_eq_getElem (by omega)]; rfl
theorem cpt_eq {xs : List Hash} {m : Nat} (h : 0 < m) (e : xs.getD m default = xs.getD (m - 1) default) : cpt xs (m + 1) = cpt xs m := by
  conv => lhs; unfold cpt
  rw [if_pos ⟨h, e⟩]
theorem cpt_ne {xs : List Hash} {m : Nat} (e : xs.getD m default ≠ xs.getD (m - 1) default) : cpt xs (m + 1) = cpt xs m ++ [xs.getD m default] := by
  conv => lhs; unfold cpt
  rw [if_neg (fun h => e h.2)]
theorem cpt_len (xs : List Hash) : ∀ m, (cpt xs m).length ≤ m
  | 0 => Nat.le_refl _
  | m + 1 => by
    have := cpt_len xs m
    unfold cpt
    split
    · omega
    · simp; omega
theorem drop_more {α : Type} {xs zs : List α} {a b : Nat} (h : zs.drop a = xs.drop a) (hab : a ≤ b) : zs.drop b = xs.drop b := by
  have e : b = a + (b - a) := by omega
  rw [e, ← List.drop_drop, ← List.drop_drop, h]
/-- What a list is, sorted, each once: told by its members. -/
theorem rising_iff {xs : List Hash} : rising xs = true ↔ Rise xs := by
  have key : ∀ m, m + 1 ≤ xs.length → (risingTo xs m = true ↔ Rise (xs.take (m + 1))) := by
    intro m
    induction m with
    | zero =>
      intro h
      simp only [risingTo, true_iff]
      match xs, h with
      | x :: l, _ => simp
    | succ m ih =>
      intro h
      unfold risingTo
      rw [Bool.and_eq_true, ih (by omega), List.take_succ_eq_append_getElem (show m + 1 < xs.length from h)]
      have eg : ∀ (i : Nat) (hi : i < xs.length), xs.getD i default = xs[i] := fun i hi => by rw [List.getD_eq_getElem?_getD, List.getElem?_eq_getElem hi]; rfl
      rw [eg m (by omega), eg (m + 1) (by omega)]
      constructor
      · rintro ⟨h1, h2⟩
        refine List.pairwise_append.2 ⟨h1, by simp, fun a ha b hb => ?_⟩
        have hb' : b = xs[m + 1] := by simpa using hb
        subst hb'
        rw [List.take_succ_eq_append_getElem (show m < xs.length from by omega)] at ha h1
        rcases List.mem_append.1 ha with ha | ha
        · have := (List.pairwise_append.1 h1).2.2 a ha xs[m] (by simp)
          exact hlt_trans this h2
        · have : a = xs[m] := by simpa using ha
          rw [this]; exact h2
      · intro h1
        have h1' := List.pairwise_append.1 h1
        refine ⟨h1'.1, h1'.2.2 xs[m] ?_ xs[m + 1] (List.mem_singleton.2 rfl)⟩
        rw [List.take_succ_eq_append_getElem (show m < xs.length from by omega)]
        exact List.mem_append_right _ (List.mem_singleton.2 rfl)
  unfold rising
  rcases Nat.eq_zero_or_pos xs.length with h | h
  · have : xs = [] := List.eq_nil_of_length_eq_zero h
    subst this
    simp [risingTo]
  · rw [key (xs.length - 1) (by omega), show xs.length - 1 + 1 = xs.length from by omega, List.take_length]
end Go.Proofs.Eng
