import Derived.Test.YtjbfgmkemideiaaE5
set_option linter.unusedVariables false
set_option linter.unusedSimpArgs false
namespace Go.Proofs.Eng
open Go.RowKit
open Extern.Stop (cell)

/-! ### making things -/
section
variable {P : Program} {ops : Array Oper} {Q : Exit → Act → World → Prop} {rest : List Oper} {n : Nat} {f : Nat → Value} {w : World}
variable {op : Op} {ty0 : TypeId} {pos : String} {aft : Array Edge} {dst : Nat} {v z : Value} {x y : Operand} {T e : TypeId} {dst' : Option Nat} {gd : Option (Nat × Bool)}

theorem info_parts' {sz bytes : Nat} (h : (P.info? e).map (fun i => (i.zero, i.size, i.bytes)) = some (some z, sz, bytes)) : ∃ i, P.info? e = some i ∧ i.zero = some z ∧ i.size = sz ∧ i.bytes = bytes := by
  obtain ⟨i, hi, h⟩ := Option.map_eq_some_iff.1 h
  simp only [Prod.mk.injEq] at h
  exact ⟨i, hi, h.1, h.2.1, h.2.2⟩

theorem o_make {sz bytes : Nat} {k k' : IntKind} {l c : Int} (hT : P.underlying T = some (.slice e)) (hi : (P.info? e).map (fun i => (i.zero, i.size, i.bytes)) = some (some z, sz, bytes)) (hx : ev n f x = .int k l) (hy : ev n f y = .int k' c)
    (h0 : 0 ≤ l) (hlc : l ≤ c) (hb : (bytes : Int) * c ≤ 281474976710656) (h63 : c ≤ 9223372036854775807)
    (k : ∀ w' g, New w w' g (madeCells z.cells (c.toNat * sz)) e → Lst P ops Q rest (fr n (upd f dst (.slice (some ⟨g, 0, none⟩) l.toNat c.toNat))) w') :
    Lst P ops Q (⟨some dst, .makeSlice T x y, ty0, pos, aft, none⟩ :: rest) (fr n f) w := by
  obtain ⟨i, hi1, hiz, rfl, rfl⟩ := info_parts' hi
  clear hi
  refine l1 (w' := w.alloc (.cells (madeCells z.cells (c.toNat * i.size)) e)) (v := .slice (some ⟨w.heap.size, 0, none⟩) l.toNat c.toNat) ?_ (k _ _ (New.alloc _ _ _))
  simp only [execOp, hx, hy, Sem.run_bind, run_make (P := P) w T e i z hT hi1 hiz _ _ l c h0 hlc hb h63, Result.andThen_ok]
  rfl

/-- A composite literal: an array or a struct. -/
def placed (P : Program) (T : TypeId) : Option (Value × List (Nat × Nat)) :=
  match P.info? T, P.underlying T with
  | some it, some (.array len e) => match it.zero, P.info? e with
    | some z, some ie => some (z, (List.range len).map fun i => (i * ie.size, ie.size))
    | _, _ => none
  | some it, some (.struct fields) => match it.zero, fields.toList.mapM (fun f => (P.info? f.type).map fun i => (f.offset, i.size)) with
    | some z, some places => some (z, places)
    | _, _ => none
  | _, _ => none
theorem fill_mono {p q : Nat → Option (Nat × Nat)} (h : ∀ i r, p i = some r → q i = some r) : ∀ (ps : List (Nat × Value)) (cs r : Array Value), Instr.fill p cs ps = some r → Instr.fill q cs ps = some r
  | [], cs, r, hr => hr
  | (i, v) :: ps, cs, r, hr => by
    unfold Instr.fill at hr ⊢
    cases hp : p i with
    | none => simp [hp] at hr
    | some s =>
      obtain ⟨off, sz⟩ := s
      rw [h i _ hp]
      simp only [hp] at hr ⊢
      split at hr
      · cases hr
      · rename_i hc; rw [if_neg hc]; exact fill_mono h ps _ r hr
theorem built_of_placed {z : Value} {places : List (Nat × Nat)} {ps : List (Nat × Value)} {cs : Array Value} (hP : placed P T = some (z, places)) (hf : Instr.fill (fun i => places[i]?) z.cells ps = some cs) : P.built T ps = some cs := by
  unfold placed at hP
  unfold Program.built
  cases hi : P.info? T with
  | none => simp [hi] at hP
  | some it =>
    cases hu : P.underlying T with
    | none => simp [hi, hu] at hP
    | some d =>
      cases d <;> simp only [hi, hu] at hP ⊢ <;> try (cases hP; done)
      · rename_i len e
        cases hz : it.zero with
        | none => simp [hz] at hP
        | some z' =>
          cases he : P.info? e with
          | none => simp [hz, he] at hP
          | some ie =>
            simp only [hz, he, Option.some.injEq, Prod.mk.injEq] at hP ⊢
            obtain ⟨rfl, rfl⟩ := hP
            refine fill_mono (fun i r hr => ?_) ps _ _ hf
            rw [List.getElem?_map] at hr
            obtain ⟨j, hj, rfl⟩ := Option.map_eq_some_iff.1 hr
            have := List.getElem?_eq_some_iff.1 hj
            obtain ⟨h1, h2⟩ := this
            simp at h2
            subst h2
            rfl
      · rename_i fields
        cases hz : it.zero with
        | none => simp [hz] at hP
        | some z' =>
          cases hm : fields.toList.mapM (fun f => (P.info? f.type).map fun i => (f.offset, i.size)) with
          | none => simp [hz, hm] at hP
          | some pl =>
            simp only [hz, hm, Option.some.injEq, Prod.mk.injEq] at hP ⊢
            obtain ⟨rfl, rfl⟩ := hP
            refine fill_mono (fun i r hr => ?_) ps _ _ hf
            simpa using hr
def evP (n : Nat) (f : Nat → Value) : List (Nat × Operand) → List (Nat × Value)
  | [] => []
  | (i, x) :: l => (i, ev n f x) :: evP n f l
theorem evP_map (n : Nat) (f : Nat → Value) (l : List (Nat × Operand)) : (l.toArray.map fun (i, x) => (i, ev n f x)).toList = evP n f l := by
  rw [Array.toList_map]
  induction l with
  | nil => rfl
  | cons p l ih =>
    obtain ⟨i, x⟩ := p
    simp only [List.map_cons] at ih ⊢
    rw [ih]; rfl
theorem x_build {parts : List (Nat × Operand)} {places : List (Nat × Nat)} {ps : List (Nat × Value)} {cs : Array Value} (hP : placed P T = some (z, places)) (hp : evP n f parts = ps)
    (hf : Instr.fill (fun i => places[i]?) z.cells ps = some cs) : Ex P w n f ⟨dst', .build T parts.toArray, ty0, pos, aft, gd⟩ (.agg cs) := by
  have hb := built_of_placed hP hf
  rw [← hp, ← evP_map] at hb
  unfold Ex execOp
  simp only [Sem.run_bind, run_build (P := P) w T _ cs hb, Result.andThen_ok]
  rfl

/-- A slice literal. -/
theorem o_buildSlice {sz bytes len : Nat} {parts : List (Nat × Operand)} {ps : List (Nat × Value)} {cs : Array Value} (hT : P.underlying T = some (.slice e)) (hi : (P.info? e).map (fun i => (i.zero, i.size, i.bytes)) = some (some z, sz, bytes))
    (hp : evP n f parts = ps) (hlen : len * sz ≤ 16777216)
    (hf : ∀ base : Array Value, base.size = len * sz → Instr.fill (fun i => some (i * sz, sz)) base ps = some cs)
    (k : ∀ w' g, New w w' g cs e → Lst P ops Q rest (fr n (upd f dst (.slice (some ⟨g, 0, none⟩) len len))) w') :
    Lst P ops Q (⟨some dst, .buildSlice T len parts.toArray, ty0, pos, aft, none⟩ :: rest) (fr n f) w := by
  obtain ⟨i, hi1, hiz, rfl, rfl⟩ := info_parts' hi
  clear hi
  refine l1 (w' := w.alloc (.cells cs e)) (v := .slice (some ⟨w.heap.size, 0, none⟩) len len) ?_ (k _ _ (New.alloc _ _ _))
  have h24 : ¬ len * i.size > 2 ^ 24 := by omega
  have hfill : ∀ (zero : Array Value), Instr.fill (fun j => some (j * i.size, i.size)) ((Array.range (len * i.size)).map (zero[· % zero.size]!)) (parts.toArray.map fun q => (q.1, ev n f q.2)).toList = some cs := fun zero => by
    have hp' : (parts.toArray.map fun q => (q.1, ev n f q.2)).toList = ps := (evP_map n f parts).trans hp
    rw [hp']; exact hf _ (by simp)
  have hso : ∀ w, (sizeOf e).run P w = .ok i.size w := fun w => by simp [sizeOf, typeInfo, hi1]
  have hz : (zeroValue e).run P w = .ok z w := by simp [zeroValue, typeInfo, hi1, hiz]
  show ((do pure (.value (← Instr.buildSlice T len (parts.toArray.map fun (i, x) => (i, ev n f x)))) : Sem Next)).run P w = _
  have key : (Instr.buildSlice T len (parts.toArray.map fun (i, x) => (i, ev n f x))).run P w = .ok (.slice (some ⟨w.heap.size, 0, none⟩) len len) (w.alloc (.cells cs e)) := by
    unfold Instr.buildSlice
    rw [Sem.run_bind, run_underlying hT, Result.andThen_ok]
    simp only [Sem.run_bind, hso, Result.andThen_ok, if_neg h24]
    by_cases h0 : len * i.size = 0
    · simp only [h0, if_true, Sem.run_pure, Result.andThen_ok]
      have hq := hfill #[]
      rw [h0] at hq
      simp only [Sem.run_bind, Sem.run_pure, Result.andThen_ok]
      split
      · rename_i cells hc
        obtain rfl : cells = cs := Option.some.inj (hc.symm.trans hq)
        rfl
      · rename_i hc
        exact absurd hq (hc cs)
    · simp only [if_neg h0, Sem.run_bind, hz, Result.andThen_ok, Sem.run_pure]
      have hq := hfill z.cells
      split
      · rename_i cells hc
        obtain rfl : cells = cs := Option.some.inj (hc.symm.trans hq)
        rfl
      · rename_i hc
        exact absurd hq (hc cs)
  rw [Sem.run_bind, key]; rfl
theorem fill_one {sz : Nat} {v : Value} (hv : v.cells.size = sz) (base : Array Value) (hb : base.size = 1 * sz) : Instr.fill (fun i => some (i * sz, sz)) base [(0, v)] = some v.cells := by
  unfold Instr.fill
  simp only [Nat.zero_mul]
  rw [if_neg (by simp [hv]; omega)]
  unfold Instr.fill
  congr 1
  have key : ∀ (l : List Value) (j : Nat) (b : Array Value), b.size = j + l.length → (l.zipIdx j).foldl (fun cs (p : Value × Nat) => cs.setIfInBounds (0 + p.2) p.1) b = (b.toList.take j ++ l).toArray := by
    intro l
    induction l with
    | nil => intro j b hb; simp at hb ⊢; rw [List.take_of_length_le (by simp; omega)]
    | cons u l ih =>
      intro j b hb
      simp only [List.length_cons] at hb
      rw [List.zipIdx_cons, List.foldl_cons, ih (j + 1) _ (by simp; omega)]
      congr 1
      simp only [Nat.zero_add, Array.toList_setIfInBounds, List.take_set]
      have hj : j < b.toList.length := by simp; omega
      rw [List.take_succ_eq_append_getElem hj, List.set_append_right _ _ (by simp; omega)]
      have : j - (b.toList.take j).length = 0 := by simp; omega
      rw [this]
      simp
  have h := key v.cells.toList 0 base (by simp [hv]; omega)
  simp only [List.take_zero, List.nil_append, Array.toArray_toList] at h
  rw [← Array.foldl_toList, Array.toList_zipIdx]
  exact h
/-! ### slicing -/
def adw (p : Option Addr) (c l sz : Nat) : Option Addr := if c = l then p else adv p (l * sz)
theorem run_bounds_lh {isSlice : Bool} {len cap : Nat} {k k' : IntKind} {a b : Int} (h0 : 0 ≤ a) (h1 : a ≤ b) (h2 : b ≤ (cap : Int)) : (Instr.sliceBounds isSlice len cap (some (.int k a)) (some (.int k' b)) none).run P w = .ok (a.toNat, b.toNat, cap) w := by
  have hb : 0 ≤ b := by omega
  have ha : a ≤ ((b.toNat : Nat) : Int) := by omega
  simp [Instr.sliceBounds, Instr.sliceBound, asIntOf, Sem.run_bind, hb, h2, h0, ha]
  intro h
  exfalso
  omega
theorem run_bounds_l {isSlice : Bool} {len cap : Nat} {k : IntKind} {a : Int} (h0 : 0 ≤ a) (h1 : a ≤ (len : Int)) : (Instr.sliceBounds isSlice len cap (some (.int k a)) none none).run P w = .ok (a.toNat, len, cap) w := by
  simp [Instr.sliceBounds, Instr.sliceBound, asIntOf, Sem.run_bind, h0, h1]
theorem run_bounds_h {isSlice : Bool} {len cap : Nat} {k : IntKind} {b : Int} (h0 : 0 ≤ b) (h1 : b ≤ (cap : Int)) : (Instr.sliceBounds isSlice len cap none (some (.int k b)) none).run P w = .ok (0, b.toNat, cap) w := by
  simp [Instr.sliceBounds, Instr.sliceBound, asIntOf, Sem.run_bind, h0, h1]
theorem run_bounds_0 {isSlice : Bool} {len cap : Nat} : (Instr.sliceBounds isSlice len cap none none none).run P w = .ok (0, len, cap) w := by
  simp [Instr.sliceBounds]
theorem x_slice_l {sz : Nat} (hT : P.underlying T = some (.slice e)) (hz : (P.info? e).map (·.size) = some sz) {p : Option Addr} {len cap : Nat} {k : IntKind} {a : Int} (hx : ev n f x = .slice p len cap) (hy : ev n f y = .int k a) (h0 : 0 ≤ a) (h1 : a ≤ (len : Int)) :
    Ex P w n f ⟨dst', .slice T x (some y) none none, ty0, pos, aft, gd⟩ (.slice (adw p cap a.toNat sz) (len - a.toNat) (cap - a.toNat)) := by
  obtain ⟨ii, hi, hs⟩ := Option.map_eq_some_iff.1 hz
  unfold Ex execOp
  simp only [Option.map, hx, hy]
  simp [Instr.sliceAt, Instr.slice, Sem.run_bind, run_underlying hT, run_bounds_l h0 h1, sizeOf, typeInfo, hi, hs]
  rfl
theorem x_slice_h {sz : Nat} (hT : P.underlying T = some (.slice e)) (hz : (P.info? e).map (·.size) = some sz) {p : Option Addr} {len cap : Nat} {k : IntKind} {a : Int} (hx : ev n f x = .slice p len cap) (hy : ev n f y = .int k a) (h0 : 0 ≤ a) (h1 : a ≤ (cap : Int)) :
    Ex P w n f ⟨dst', .slice T x none (some y) none, ty0, pos, aft, gd⟩ (.slice (adw p cap 0 sz) a.toNat cap) := by
  obtain ⟨ii, hi, hs⟩ := Option.map_eq_some_iff.1 hz
  unfold Ex execOp
  simp only [Option.map, hx, hy]
  simp [Instr.sliceAt, Instr.slice, Sem.run_bind, run_underlying hT, run_bounds_h h0 h1, sizeOf, typeInfo, hi, hs]
  simp [adw, adv]
theorem x_slice_lh {sz : Nat} (hT : P.underlying T = some (.slice e)) (hz : (P.info? e).map (·.size) = some sz) {p : Option Addr} {len cap : Nat} {k k' : IntKind} {a b : Int} (hx : ev n f x = .slice p len cap) {u : Operand} (hy : ev n f y = .int k a) (hu : ev n f u = .int k' b) (h0 : 0 ≤ a) (h1 : a ≤ b) (h2 : b ≤ (cap : Int)) :
    Ex P w n f ⟨dst', .slice T x (some y) (some u) none, ty0, pos, aft, gd⟩ (.slice (adw p cap a.toNat sz) (b.toNat - a.toNat) (cap - a.toNat)) := by
  obtain ⟨ii, hi, hs⟩ := Option.map_eq_some_iff.1 hz
  unfold Ex execOp
  simp only [Option.map, hx, hy, hu]
  simp [Instr.sliceAt, Instr.slice, Sem.run_bind, run_underlying hT, run_bounds_lh h0 h1 h2, sizeOf, typeInfo, hi, hs]
  rfl
/-- 'a[:]' of an array behind its address. -/
theorem x_slice_arr {sz len : Nat} (hT : P.underlying T = some (.array len e)) (hz : (P.info? e).map (·.size) = some sz) {b o : Nat} (hx : ev n f x = .pointer (some ⟨b, o, none⟩)) :
    Ex P w n f ⟨dst', .slice T x none none none, ty0, pos, aft, gd⟩ (.slice (some ⟨b, o, none⟩) len len) := by
  obtain ⟨ii, hi, hs⟩ := Option.map_eq_some_iff.1 hz
  unfold Ex execOp
  simp only [Option.map, hx]
  have e0 : (⟨b, o, none⟩ : Addr).add 0 = ⟨b, o, none⟩ := Addr.add_mid b o 0
  simp [Instr.sliceAt, Instr.sureAddr, Sem.run_bind, run_underlying hT, run_bounds_0, sizeOf, typeInfo, hi, hs, e0]
theorem x_slice_str_lh (hT : P.underlying T = some .string) {s : ByteArray} {k k' : IntKind} {a b : Int} (hx : ev n f x = .string s) {u : Operand} (hy : ev n f y = .int k a) (hu : ev n f u = .int k' b) (h0 : 0 ≤ a) (h1 : a ≤ b) (h2 : b ≤ (s.size : Int)) :
    Ex P w n f ⟨dst', .slice T x (some y) (some u) none, ty0, pos, aft, gd⟩ (.string (s.extract a.toNat b.toNat)) := by
  unfold Ex execOp
  simp only [Option.map, hx, hy, hu]
  simp [Instr.sliceAt, Instr.slice, Sem.run_bind, run_underlying hT, run_bounds_lh h0 h1 h2]
theorem Sl.dropI {α : Type} {d : Kind α} {B : Nat} {p : Option Addr} {len c : Nat} {xs : List α} (h : Sl d e B w p len c xs) (m : Nat) (hm : m ≤ len) : Sl d e B w (adw p c m d.sz) (len - m) (c - m) (xs.drop m) := by
  unfold adw
  by_cases e1 : c = m
  · have hc := h.cap
    have hl := h.len
    rw [if_pos e1, List.drop_of_length_le (by omega), show len - m = 0 from by omega]
    have := h.fit
    exact Sl.nil _ _ _ _ _ _ (by omega)
  · rw [if_neg e1]; exact h.drop m hm
theorem adw_zero (p : Option Addr) (c sz : Nat) : adw p c 0 sz = p := by
  unfold adw
  split
  · rfl
  · rw [Nat.zero_mul]
    cases p with
    | none => rfl
    | some a => show some (a.add 0) = _; simp [Addr.add]
/-! ### bytes to a string -/
def toStr (xs : List UInt8) : ByteArray := ⟨xs.toArray⟩
theorem strOfNums_eq (xs : List UInt8) : strOfNums (xs.map fun b => (b.toNat : Int)) = toStr xs := by
  unfold strOfNums toStr
  congr 1
  rw [List.map_map]
  congr 1
  conv => rhs; rw [← List.map_id xs]
  apply List.map_congr_left
  intro b _
  simp
theorem x_bytes_str {T' : TypeId} (hT : P.underlying T = some (.slice e)) (he : P.underlying e = some (.int .u8)) (hd : P.underlying T' = some .string) {B : Nat} {p : Option Addr} {len c : Nat} {xs : List UInt8} {e' : TypeId} (hx : ev n f x = .slice p len c) (h : Sl kByte e' B w p len c xs) :
    Ex P w n f ⟨dst', .convert T T' x, ty0, pos, aft, gd⟩ (.string (toStr xs)) := by
  unfold Ex execOp
  simp only [hx, Sem.run_bind]
  have key : (convert T T' (.slice p len c)).run P w = .ok (.string (toStr xs)) w := by
    rcases Nat.eq_zero_or_pos len with h0 | h0
    · have hx0 : xs = [] := List.eq_nil_of_length_eq_zero (by rw [h.len, h0])
      subst h0 hx0
      cases p with
      | none => exact run_convert_bytes_nil w T e hT he 0 c T' hd
      | some a => rw [run_convert_bytes_string w T T' e (some a) 0 c hT he hd]; simp [Conv.bytesToString]; rfl
    · have hp := h.adr kByte_pos h0
      have hlen := h.len
      rw [hp, ← strOfNums_eq]
      refine run_convert_bytes_arg w T e hT he (ab p) (ao p) len c _ (by simp [hlen]) (fun i hi => ?_) T' hd
      rw [h.byteAt i hi]
      simp [hlen, hi, List.getD_eq_getElem?_getD]
  rw [key]; rfl
end

/-! ### stores into a block of the call's own -/
section
variable {P : Program} {ops : Array Oper} {Q : Exit → Act → World → Prop} {rest : List Oper} {n : Nat} {f : Nat → Value} {w : World}
variable {ty0 : TypeId} {pos : String} {aft : Array Edge} {v : Value} {x y : Operand} {T t : TypeId}
/-- Block g alone has turned: it holds cs. -/
structure Put (w w' : World) (g : Nat) (cs : Array Value) (t : TypeId) : Prop where
  blk : Blk w' g cs t
  was : ty w g = some t
  size : w'.heap.size = w.heap.size
  old : ∀ k, k ≠ g → w'.heap[k]? = w.heap[k]?
  drawn : w'.drawn = w.drawn
  os : w'.os = w.os
  tape : w'.tape = w.tape
  output : w'.output = w.output
theorem Put.mod {w w' : World} {g : Nat} {cs : Array Value} {t : TypeId} (h : Put w w' g cs t) (B : Nat) (hB : B ≤ g) : Mod B t w w' :=
  ⟨by rw [h.size]; exact Nat.le_refl _, fun k _ ho => h.old k (fun e => by subst e; rcases ho with ho | ho; (· omega); (· exact ho h.was)),
    fun k _ => by by_cases e : k = g; (· subst e; rw [h.blk.ty, h.was]); (· exact ty_of_heap (h.old k e)), by rw [h.drawn]; exact Nat.le_refl _, h.os, h.tape, h.output⟩
theorem Put.keep {w w' : World} {g : Nat} {cs : Array Value} {t : TypeId} (h : Put w w' g cs t) {k : Nat} {cs' : Array Value} {u : TypeId} (hb : Blk w k cs' u) (hne : k ≠ g) : Blk w' k cs' u := (h.old k hne).trans hb
theorem Ext.put {w0 w w' : World} (h : Ext w0 w) {g : Nat} {cs : Array Value} {t : TypeId} (p : Put w w' g cs t) (hg : w0.heap.size ≤ g) : Ext w0 w' := h.mod (p.mod _ hg) (Nat.le_refl _)
theorem put_setCell {g o : Nat} {cs : Array Value} {t : TypeId} (v : Value) (h : Blk w g cs t) : Put w (w.setCell ⟨g, o, none⟩ v) g (cs.setIfInBounds o v) t :=
  ⟨heap_setCell_same w g o cs t v h, h.ty, by simp [World.setCell], fun k hk => Below.heap_setCell w ⟨g, o, none⟩ v k hk, rfl, rfl, rfl, rfl⟩
theorem put_setCells {g o : Nat} {cs : Array Value} {t : TypeId} (vs : List Value) (h : Blk w g cs t) (hl : o + vs.length ≤ cs.size) : Put w (w.setCells g o vs) g (cs.toList.take o ++ vs ++ cs.toList.drop (o + vs.length)).toArray t :=
  ⟨blk_setCells vs o w cs h hl, h.ty, size_setCells g vs o w, fun k hk => other_setCells g vs o w k hk, (rest_setCells g vs o w).1, (rest_setCells g vs o w).2.1, (rest_setCells g vs o w).2.2.1, (rest_setCells g vs o w).2.2.2⟩
theorem l0 {op : Op} {w' : World} (h : (execOp (ev n f) ⟨none, op, ty0, pos, aft, none⟩).run P w = .ok .skip w') (k : Lst P ops Q rest (fr n f) w') : Lst P ops Q (⟨none, op, ty0, pos, aft, none⟩ :: rest) (fr n f) w :=
  ⟨wpList_plain rfl fun K hK => by
    unfold Oper.wp
    rw [eval_fr, h, Oper.upon_skip]
    exact hK _ _ k.out⟩
/-- One cell is written. -/
theorem o_store1 {g o : Nat} {cs : Array Value} (hx : ev n f x = .pointer (some ⟨g, o, none⟩)) (hy : ev n f y = v) (h1 : v.cells = #[v]) (hv : v.oneCell' = true) (hs : (P.info? T).map (·.size) = some 1) (hB : Blk w g cs t) (ho : o < cs.size)
    (k : ∀ w', Put w w' g (cs.setIfInBounds o v) t → Lst P ops Q rest (fr n f) w') : Lst P ops Q (⟨none, .store T x y, ty0, pos, aft, none⟩ :: rest) (fr n f) w := by
  refine l0 (w' := w.setCell ⟨g, o, none⟩ v) ?_ (k _ (put_setCell v hB))
  have hc : w.cell? ⟨g, o, none⟩ = some cs[o] := hB.cell (Array.getElem?_eq_getElem ho)
  have ht : w.there g o #[v].size := fun j hj => by
    have : j = 0 := by simp at hj; exact hj
    subst this
    exact ⟨by rw [Nat.add_zero, hc]; rfl, by exact frozen_of_row w g _ cs t hB⟩
  have := run_storeAt_mid (P := P) w g o T #[v] ht (by simpa using hs) (by simpa using hv)
  subst hy
  simp only [execOp, hx]
  have e1 : (Instr.storeAt T (.pointer (some ⟨g, o, none⟩)) (ev n f y)).run P w = .ok () (w.setCell ⟨g, o, none⟩ (ev n f y)) := by
    have e2 : storeVar T ⟨g, o, none⟩ (ev n f y) = storeVar T ⟨g, o, none⟩ (.agg #[ev n f y]) := by
      unfold storeVar; rw [h1]; rfl
    simp only [Instr.storeAt, Instr.sureAddr, Sem.run_bind, Sem.run_pure, Result.andThen_ok] at this ⊢
    rw [e2]; exact this
  simp only [Sem.run_bind, e1, Result.andThen_ok]
  rfl
/-- A whole array or struct is written. -/
theorem o_storeN {g o : Nat} {cs vs : Array Value} (hx : ev n f x = .pointer (some ⟨g, o, none⟩)) (hy : ev n f y = .agg vs) (hv : ∀ u ∈ vs.toList, u.oneCell' = true) (hs : (P.info? T).map (·.size) = some vs.size) (hB : Blk w g cs t) (ho : o + vs.size ≤ cs.size)
    (k : ∀ w', Put w w' g (cs.toList.take o ++ vs.toList ++ cs.toList.drop (o + vs.size)).toArray t → Lst P ops Q rest (fr n f) w') : Lst P ops Q (⟨none, .store T x y, ty0, pos, aft, none⟩ :: rest) (fr n f) w := by
  refine l0 (w' := w.setCells g o vs.toList) ?_ (k _ (by simpa using put_setCells vs.toList hB (by simpa using ho)))
  have ht : w.there g o vs.size := fun j hj => ⟨by rw [hB.cell (v := cs[o + j]'(by omega)) (Array.getElem?_eq_getElem (by omega))]; rfl, frozen_of_row w g _ cs t hB⟩
  have := run_storeAt_mid (P := P) w g o T vs ht hs (by rw [Array.all_eq_true_iff_forall_mem]; intro u hu; exact hv u (by simpa using hu))
  simp only [execOp, hx, hy, Sem.run_bind, this, Result.andThen_ok]
  rfl
end
end Go.Proofs.Eng
