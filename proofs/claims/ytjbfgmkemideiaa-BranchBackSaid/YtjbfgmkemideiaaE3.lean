import Derived.Test.YtjbfgmkemideiaaE2
set_option linter.unusedVariables false
set_option linter.unusedSimpArgs false
namespace Go.Proofs.Eng
open Go.RowKit

/-! ### memory operations -/
section ops
variable {P : Program} {w : World} {n : Nat} {f : Nat → Value} {dst : Option Nat} {ty : TypeId} {pos : String} {aft : Array Edge} {gd : Option (Nat × Bool)}
variable {x y z : Operand} {v u : Value} {k : IntKind} {a b : Int} {T T' : TypeId}

theorem isAgg_f {d : TypeDesc} (hu : P.underlying T = some d) (hd : d.isRow = false) : (isAgg T).run P w = .ok false w := by
  unfold isAgg
  rw [Sem.run_bind, run_underlying hu w]
  cases d <;> simp_all [TypeDesc.isRow]
theorem run_load1 {d : TypeDesc} (hu : P.underlying T = some d) (hd : d.isRow = false) {p : Addr} (hc : w.cell? p = some v) : (loadVar T p).run P w = .ok v w := by
  simp [loadVar, Sem.run_bind, isAgg_f (w := w) hu hd, load, Sem.run, hc]
theorem x_load1 (hu : (P.underlying T).map TypeDesc.isRow = some false) {p : Addr} (hx : ev n f x = .pointer (some p)) (hc : w.cell? p = some v) :
    Ex P w n f ⟨dst, .load T x, ty, pos, aft, gd⟩ v := by
  obtain ⟨d, hu, hd⟩ := Option.map_eq_some_iff.1 hu
  unfold Ex execOp
  simp only [hx, Instr.loadAt, Instr.sureAddr, Sem.run_bind, Sem.run_pure, Result.andThen_ok, run_load1 hu hd hc]
theorem x_loadN (hu : (P.underlying T).map TypeDesc.isRow = some true) {b o : Nat} (hx : ev n f x = .pointer (some ⟨b, o, none⟩)) {cs : List Value} (hi : (P.info? T).map (·.size) = some cs.length) (hc : w.rangeAt b o cs) :
    Ex P w n f ⟨dst, .load T x, ty, pos, aft, gd⟩ (.agg cs.toArray) := by
  obtain ⟨d, hu, hd⟩ := Option.map_eq_some_iff.1 hu
  unfold Ex execOp
  simp only [hx, Instr.loadAt, Instr.sureAddr, Sem.run_bind, Sem.run_pure, Result.andThen_ok, run_loadVar_mid w b o T cs d hc hu hd hi]
theorem x_loadB (hu : (P.underlying T).map TypeDesc.isRow = some true) {g : Nat} (hx : ev n f x = .pointer (some ⟨g, 0, none⟩)) {cs : Array Value} {t : TypeId} (hB : Blk w g cs t) (hi : (P.info? T).map (·.size) = some cs.size) :
    Ex P w n f ⟨dst, .load T x, ty, pos, aft, gd⟩ (.agg cs) := by
  have := x_loadN (P := P) (w := w) (dst := dst) (ty := ty) (pos := pos) (aft := aft) (gd := gd) hu hx (cs := cs.toList) (by simpa using hi) hB.range
  simpa using this
theorem x_nilCheck {p : Addr} (hx : ev n f x = .pointer (some p)) : Ex P w n f ⟨dst, .nilCheck x, ty, pos, aft, gd⟩ (.pointer (some p)) := by
  unfold Ex execOp; simp only [hx]; rfl
def fieldOf (P : Program) (T i : Nat) : Option (Nat × Nat) := (P.underlying T).bind fun d => match d with | .struct fs => (fs[i]?).map (fun f => (f.type, f.offset)) | _ => none
theorem fieldOf_spec {T i ft off : Nat} (h : fieldOf P T i = some (ft, off)) : ∃ fs fld, P.underlying T = some (.struct fs) ∧ fs[i]? = some fld ∧ fld.type = ft ∧ fld.offset = off := by
  unfold fieldOf at h
  obtain ⟨d, hd, h⟩ := Option.bind_eq_some_iff.1 h
  cases d <;> simp at h
  rename_i fs
  obtain ⟨fld, hf, h1, h2⟩ := h
  exact ⟨fs, fld, hd, hf, h1, h2⟩
theorem x_fieldAddr {i ft off : Nat} (hF : fieldOf P T i = some (ft, off)) {sz : Nat} (hz : (P.info? ft).map (·.size) = some (sz + 1)) {b o : Nat} (hx : ev n f x = .pointer (some ⟨b, o, none⟩)) :
    Ex P w n f ⟨dst, .fieldAddr T x i, ty, pos, aft, gd⟩ (.pointer (some ⟨b, o + off, none⟩)) := by
  obtain ⟨fs, fld, hu, hf, rfl, rfl⟩ := fieldOf_spec hF
  obtain ⟨ii, hi, hs⟩ := Option.map_eq_some_iff.1 hz
  unfold Ex execOp
  simp [hx, Instr.fieldAt, Instr.sureAddr, Sem.run_bind, run_underlying hu, hf, fieldPlace, sizeOf, typeInfo, hi, hs, Addr.add_mid]
theorem x_ixs {e : TypeId} (hu : P.underlying T = some (.slice e)) {sz : Nat} (hz : (P.info? e).map (·.size) = some sz) {p : Option Addr} {l c : Nat} (hx : ev n f x = .slice p l c) (hy : ev n f y = .int k a)
    (hp : p = some ⟨ab p, ao p, none⟩) (h0 : 0 ≤ a) (h1 : a < (l : Int)) : Ex P w n f ⟨dst, .indexAddr T x y, ty, pos, aft, gd⟩ (.pointer (some ⟨ab p, ao p + a.toNat * sz, none⟩)) := by
  obtain ⟨ii, hi, hs⟩ := Option.map_eq_some_iff.1 hz
  unfold Ex execOp
  simp only [hx, hy]
  generalize ab p = B at *
  generalize ao p = O at *
  subst hp
  simp [Instr.indexAt, asIntOf, Sem.run_bind, run_underlying hu, h0, h1, sizeOf, typeInfo, hi, hs, Addr.add_mid]
theorem x_ixa {e : TypeId} {len : Nat} (hu : P.underlying T = some (.array len e)) {sz : Nat} (hz : (P.info? e).map (·.size) = some sz) {b o : Nat} (hx : ev n f x = .pointer (some ⟨b, o, none⟩)) (hy : ev n f y = .int k a)
    (h0 : 0 ≤ a) (h1 : a < (len : Int)) : Ex P w n f ⟨dst, .indexAddr T x y, ty, pos, aft, gd⟩ (.pointer (some ⟨b, o + a.toNat * sz, none⟩)) := by
  obtain ⟨ii, hi, hs⟩ := Option.map_eq_some_iff.1 hz
  unfold Ex execOp
  simp [hx, hy, Instr.indexAt, asIntOf, Instr.sureAddr, Sem.run_bind, run_underlying hu, h0, h1, sizeOf, typeInfo, hi, hs, Addr.add_mid]
/-- The index a plain number, the elements of one cell, the array at its block's head. -/
theorem x_ixa0 {e : TypeId} {len : Nat} (hu : P.underlying T = some (.array len e)) (hz : (P.info? e).map (·.size) = some 1) {b i : Nat} (hx : ev n f x = .pointer (some ⟨b, 0, none⟩)) (hy : ev n f y = .int k (i : Int))
    (h1 : i < len) : Ex P w n f ⟨dst, .indexAddr T x y, ty, pos, aft, gd⟩ (.pointer (some ⟨b, i, none⟩)) := by
  have := x_ixa (P := P) (w := w) (dst := dst) (ty := ty) (pos := pos) (aft := aft) (gd := gd) hu hz hx hy (by omega) (by omega)
  simpa using this
theorem x_ixs0 {e : TypeId} (hu : P.underlying T = some (.slice e)) (hz : (P.info? e).map (·.size) = some 1) {p : Option Addr} {l c i : Nat} (hx : ev n f x = .slice p l c) (hy : ev n f y = .int k (i : Int))
    (hp : p = some ⟨ab p, ao p, none⟩) (h1 : i < l) : Ex P w n f ⟨dst, .indexAddr T x y, ty, pos, aft, gd⟩ (.pointer (some ⟨ab p, ao p + i, none⟩)) := by
  have := x_ixs (P := P) (w := w) (dst := dst) (ty := ty) (pos := pos) (aft := aft) (gd := gd) hu hz hx hy hp (by omega) (by omega)
  simpa using this
def btAt (s : ByteArray) (i : Nat) : UInt8 := s.data.toList.getD i 0
theorem x_ixstr (hu : P.underlying T = some .string) {s : ByteArray} (hx : ev n f x = .string s) (hy : ev n f y = .int k a) (h0 : 0 ≤ a) (h1 : a < (s.size : Int)) :
    Ex P w n f ⟨dst, .index T x y, ty, pos, aft, gd⟩ (.int .u8 (btAt s a.toNat).toNat) := by
  have hl : a.toNat < s.size := by omega
  have hl' : a.toNat < s.data.toList.length := by simpa using hl
  have e : s[a.toNat]? = some (btAt s a.toNat) := by
    have : s[a.toNat]? = some s[a.toNat] := getElem?_pos s a.toNat hl
    rw [this]
    congr 1
    unfold btAt
    rw [List.getD_eq_getElem?_getD, List.getElem?_eq_getElem hl']
    rfl
  unfold Ex execOp
  simp [hx, hy, Instr.index, asIntOf, Sem.run_bind, run_underlying hu, h0, e]
theorem x_ixstr0 (hu : P.underlying T = some .string) {s : ByteArray} {i : Nat} (hx : ev n f x = .string s) (hy : ev n f y = .int k (i : Int)) (h1 : i < s.size) :
    Ex P w n f ⟨dst, .index T x y, ty, pos, aft, gd⟩ (.int .u8 (btAt s i).toNat) := x_ixstr hu hx hy (by omega) (by omega)
-- equality of arrays of bytes
open Extern.Stop (cell) in
theorem x_eql_bytes {e : TypeId} {m : Nat} (hu : P.underlying T = some (.array m e)) (he : P.underlying e = some (.int .u8)) (hz : (P.info? e).map (·.size) = some 1) (hq : P.eqGuardType P.depth T = false) {xs ys : List UInt8}
    (hx : ev n f x = .agg (xs.map cell).toArray) (hy : ev n f y = .agg (ys.map cell).toArray) (hl : xs.length = m) (hl' : ys.length = m) : Ex P w n f ⟨dst, .binOp .eql T x y T', ty, pos, aft, gd⟩ (.bool (decide (xs = ys))) := by
  obtain ⟨ii, hi, hs⟩ := Option.map_eq_some_iff.1 hz
  have h := run_eql_bytes (P := P) w T e m hu he (fun w => by simp [sizeOf, typeInfo, hi, hs]) xs ys hl hl'
  refine ex_bin hx hy (run_eqGuard_agg w .eql T x y _ _ hq) ?_
  rw [h]
  congr 2
  by_cases hxy : xs = ys <;> simp [hxy]
open Extern.Stop (cell) in
theorem x_neq_bytes {e : TypeId} {m : Nat} (hu : P.underlying T = some (.array m e)) (he : P.underlying e = some (.int .u8)) (hz : (P.info? e).map (·.size) = some 1) (hq : P.eqGuardType P.depth T = false) {xs ys : List UInt8}
    (hx : ev n f x = .agg (xs.map cell).toArray) (hy : ev n f y = .agg (ys.map cell).toArray) (hl : xs.length = m) (hl' : ys.length = m) : Ex P w n f ⟨dst, .binOp .neq T x y T', ty, pos, aft, gd⟩ (.bool (decide (xs ≠ ys))) := by
  obtain ⟨ii, hi, hs⟩ := Option.map_eq_some_iff.1 hz
  have h := run_equalIn_bytes (P := P) w 9998 T e m hu he (fun w => by simp [sizeOf, typeInfo, hi, hs]) xs ys hl hl'
  refine ex_bin hx hy (run_eqGuard_agg w .neq T x y _ _ hq) ?_
  rw [run_neq_struct, h, Result.andThen_ok]
  congr 2
  by_cases hxy : xs = ys <;> simp [hxy]
end ops

/-! ### operations that make memory; calls -/
section loud
variable {P : Program} {ops : Array Oper} {Q : Exit → Act → World → Prop} {rest : List Oper} {n : Nat} {f : Nat → Value} {w : World}
variable {op : Op} {ty : TypeId} {pos : String} {aft : Array Edge} {d : Nat} {v : Value} {x y z : Operand} {T : TypeId}

/-- One new block. -/
structure New (w w' : World) (g : Nat) (cs : Array Value) (t : TypeId) : Prop where
  blk : Blk w' g cs t
  ext : Ext w w'
  g_eq : g = w.heap.size
  size : w'.heap.size = g + 1
theorem New.alloc (w : World) (cs : Array Value) (t : TypeId) : New w (w.alloc (.cells cs t)) w.heap.size cs t := ⟨Blk.fresh w cs t, Ext.alloc w _, rfl, by simp⟩

theorem l1 {w' : World} (h : (execOp (ev n f) ⟨some d, op, ty, pos, aft, none⟩).run P w = .ok (.value v) w') (k : Lst P ops Q rest (fr n (upd f d v)) w') : Lst P ops Q (⟨some d, op, ty, pos, aft, none⟩ :: rest) (fr n f) w :=
  ⟨wpList_plain rfl fun K hK => by
    unfold Oper.wp
    rw [eval_fr, h, Oper.upon_value, put_fr]
    exact hK _ _ k.out⟩
theorem o_box (hx : ev n f x = v) (k : ∀ w' g, New w w' g v.cells T → Lst P ops Q rest (fr n (upd f d (.pointer (some ⟨g, 0, none⟩)))) w') : Lst P ops Q (⟨some d, .box T x, ty, pos, aft, none⟩ :: rest) (fr n f) w :=
  l1 (w' := w.alloc (.cells v.cells T)) (v := .pointer (some ⟨w.heap.size, 0, none⟩)) (by subst hx; rfl) (k _ _ (New.alloc _ _ _))
theorem o_box1 (hx : ev n f x = v) (h1 : v.cells = #[v]) (k : ∀ w' g, New w w' g #[v] T → Lst P ops Q rest (fr n (upd f d (.pointer (some ⟨g, 0, none⟩)))) w') : Lst P ops Q (⟨some d, .box T x, ty, pos, aft, none⟩ :: rest) (fr n f) w :=
  o_box hx (by rw [h1]; exact k)
theorem o_boxA {cs : Array Value} (hx : ev n f x = .agg cs) (k : ∀ w' g, New w w' g cs T → Lst P ops Q rest (fr n (upd f d (.pointer (some ⟨g, 0, none⟩)))) w') : Lst P ops Q (⟨some d, .box T x, ty, pos, aft, none⟩ :: rest) (fr n f) w :=
  o_box hx k
theorem o_alloc {z : Value} (hz : (P.info? T).map (·.zero) = some (some z)) (k : ∀ w' g, New w w' g z.cells T → Lst P ops Q rest (fr n (upd f d (.pointer (some ⟨g, 0, none⟩)))) w') : Lst P ops Q (⟨some d, .alloc T, ty, pos, aft, none⟩ :: rest) (fr n f) w := by
  obtain ⟨ii, hi, hs⟩ := Option.map_eq_some_iff.1 hz
  exact l1 (w' := w.alloc (.cells z.cells T)) (v := .pointer (some ⟨w.heap.size, 0, none⟩)) (by
    simp [execOp, Instr.alloc, zeroValue, typeInfo, hi, hs, Sem.run_bind, newVar, newRow, newObj, Sem.run]) (k _ _ (New.alloc _ _ _))
def evL (n : Nat) (f : Nat → Value) : List Operand → List Value
  | [] => []
  | x :: l => ev n f x :: evL n f l
theorem evL_map (n : Nat) (f : Nat → Value) : ∀ l : List Operand, l.map (ev n f) = evL n f l
  | [] => rfl
  | x :: l => by rw [List.map_cons, evL_map n f l]; rfl
/-- A call of a function of the program. -/
theorem o_call {g : FuncId} {as : List Operand} {ats : Array TypeId} {fn : Func} {vs : List Value} {R : Value → World → Prop} (hf : P.funcs[g]? = some fn) (hn : (fn.name == "runtime.NumGoroutine") = false) (hb : fn.body.isNone = false)
    (hc : Ret P g vs w R) (ha : evL n f as = vs) (k : ∀ v w', R v w' → Lst P ops Q rest (fr n (upd f d v)) w') :
    Lst P ops Q (⟨some d, .call ⟨.value (.func g), as.toArray, ats⟩, ty, pos, aft, none⟩ :: rest) (fr n f) w :=
  ⟨wpList_plain rfl fun K hK => by
    have hn' : ¬ fn.name = "runtime.NumGoroutine" := by simpa using hn
    have hb' : ¬ fn.body = none := by intro e; rw [e] at hb; cases hb
    have ha' : as.toArray.map (ev n f) = vs.toArray := by rw [List.map_toArray, evL_map, ha]
    have he : (execOp (ev n f) ⟨some d, .call ⟨.value (.func g), as.toArray, ats⟩, ty, pos, aft, none⟩).run P w = .ok (.enter g vs.toArray) w := by
      simp [execOp, resolve, ha', ev, Deferred.ofValue, invoke, callFunc, hf, hn', hb', Sem.run_bind, Sem.run]
    unfold Oper.wp
    rw [eval_fr, he, Oper.upon_enter]
    refine Calls.mono hc.out fun e w' hr => ?_
    obtain ⟨v, rfl, hv⟩ := hr
    show K ((fr n f).put (some d) v) w'
    rw [put_fr]
    exact hK _ _ (k v w' hv).out⟩
end loud

/-! ### regions -/
section regions
variable {P : Program} {Q : Exit → Act → World → Prop} {n : Nat} {f : Nat → Value} {w : World} {l : List Oper} {id : Nat}
theorem r_plain (h : Lst P l.toArray Q l (fr n f) w) : Wp P (Code.region id l.toArray false) Q (fr n f) w := ⟨wp_region_lit h.out⟩
theorem r_nil {ops : Array Oper} {a : Act} (h : Q .normal a w) : Lst P ops Q [] a w := ⟨h⟩
theorem wpList_mono {ops : Array Oper} {Q Q' : Exit → Act → World → Prop} (h : ∀ e a w, Q e a w → Q' e a w) : ∀ (l : List Oper) (a : Act) (w : World), wpList P ops Q l a w → wpList P ops Q' l a w
  | [], a, w, hk => h _ a w hk
  | o :: rest, a, w, hk => by
    unfold wpList at hk ⊢
    split
    · rename_i hw
      rw [if_pos hw] at hk
      refine hk.imp (fun hk => ?_) (fun hk => ⟨hk.1, ?_⟩)
      · unfold Oper.wp at hk ⊢
        generalize (execOp a.eval o).run P w = r at *
        cases r with
        | ok n w' =>
          cases n <;> simp only [Oper.upon] at hk ⊢ <;>
            first
              | exact wpList_mono h rest _ _ hk
              | exact Calls.mono hk (fun e w'' he => by cases e <;> first | exact wpList_mono h rest _ _ he | exact h _ _ _ he | (obtain ⟨a, w, q⟩ := he; exact ⟨a, w, h _ _ _ q⟩))
              | exact Rows.mono hk (fun _ _ he => wpList_mono h rest _ _ he)
        | halt x w' => cases x <;> simp only [Oper.upon] at hk ⊢ <;> first | exact h _ _ _ hk | exact hk
      · obtain ⟨_, a, w, q⟩ := hk; exact ⟨a, w, h _ _ _ q⟩
    · rename_i hw; rw [if_neg hw] at hk; exact wpList_mono h rest _ _ hk
theorem still_mono {ops : Array Oper} {K K' : Act → Prop} (h : ∀ a, K a → K' a) : ∀ (l : List Oper) (a : Act), wpStill P ops w K l a → wpStill P ops w K' l a
  | [], a, hk => h a hk
  | o :: rest, a, hk => by
    unfold wpStill at hk ⊢
    split
    · rename_i hw; rw [if_pos hw] at hk; exact Oper.still_mono (still_mono h rest) hk
    · rename_i hw; rw [if_neg hw] at hk; exact still_mono h rest _ hk
theorem r_still (hm : P.follows .mixedOrders = true) (hB : Region.lexB .any l.toArray = true) (h : ∀ w', Ext w w' → St P l.toArray w' (fun a' => Q .normal a' w') l (fr n f)) : Wp P (Code.region id l.toArray true) Q (fr n f) w :=
  ⟨wp_region_still_lit hm hB (h w.drew (Ext.drew w)).out⟩
theorem r_tail (m : Nat) (hm : P.follows .mixedOrders = true) (hB : Region.lexTailB .any l.toArray m = true)
    (h : ∀ w', Ext w w' → St P l.toArray w' (fun a' => Lst P l.toArray Q (l.drop m) a' w') (l.take m) (fr n f)) : Wp P (Code.region id l.toArray true) Q (fr n f) w :=
  ⟨wp_region_still_tail m hm hB (still_mono (fun _ k => k.out) _ _ (h w.drew (Ext.drew w)).out)⟩
theorem s_nil {ops : Array Oper} {K : Act → Prop} {a : Act} (h : K a) : St P ops w K [] a := ⟨h⟩
theorem s1 {ops : Array Oper} {K : Act → Prop} {rest : List Oper} {op : Op} {ty : TypeId} {pos : String} {aft : Array Edge} {d : Nat} {v : Value} (h : Ex P w n f ⟨some d, op, ty, pos, aft, none⟩ v) (k : St P ops w K rest (fr n (upd f d v))) :
    St P ops w K (⟨some d, op, ty, pos, aft, none⟩ :: rest) (fr n f) := by
  refine ⟨?_⟩
  unfold wpStill
  simp only [Region.wanted, if_true]
  unfold Oper.still
  rw [eval_fr, h, Oper.stillUpon_value, put_fr]
  exact k.out
theorem sg1 {ops : Array Oper} {K : Act → Prop} {rest : List Oper} {op : Op} {ty : TypeId} {pos : String} {aft : Array Edge} {d : Nat} {v : Value} {j : Nat} {want : Bool} (d' : Nat) (hd : (ops[j]?).bind (·.dst) = some d') (hv : ev n f (.tmp d') = .bool want)
    (h : Ex P w n f ⟨some d, op, ty, pos, aft, some (j, want)⟩ v) (k : St P ops w K rest (fr n (upd f d v))) : St P ops w K (⟨some d, op, ty, pos, aft, some (j, want)⟩ :: rest) (fr n f) := by
  refine ⟨?_⟩
  unfold wpStill
  rw [if_pos (wanted_of hd hv)]
  unfold Oper.still
  rw [eval_fr, h, Oper.stillUpon_value, put_fr]
  exact k.out
theorem sg0 {ops : Array Oper} {K : Act → Prop} {rest : List Oper} {op : Op} {ty : TypeId} {pos : String} {aft : Array Edge} {d : Nat} {j : Nat} {want : Bool} (d' : Nat) (hd : (ops[j]?).bind (·.dst) = some d') (hv : ev n f (.tmp d') = .bool (!want) ∨ ev n f (.tmp d') = undef)
    (k : St P ops w K rest (fr n (upd f d undef))) : St P ops w K (⟨some d, op, ty, pos, aft, some (j, want)⟩ :: rest) (fr n f) := by
  refine ⟨?_⟩
  unfold wpStill
  rw [if_neg (by rw [unwanted_of hd hv]; simp), put_fr]
  exact k.out
theorem s1b {ops : Array Oper} {K : Act → Prop} {rest : List Oper} {op : Op} {ty : TypeId} {pos : String} {aft : Array Edge} {d : Nat} {b : Bool} (h : Ex P w n f ⟨some d, op, ty, pos, aft, none⟩ (.bool b))
    (kt : b = true → St P ops w K rest (fr n (upd f d (.bool true)))) (kf : b = false → St P ops w K rest (fr n (upd f d (.bool false)))) : St P ops w K (⟨some d, op, ty, pos, aft, none⟩ :: rest) (fr n f) :=
  s1 h (by cases b; exact kf rfl; exact kt rfl)
theorem sg1b {ops : Array Oper} {K : Act → Prop} {rest : List Oper} {op : Op} {ty : TypeId} {pos : String} {aft : Array Edge} {d : Nat} {b : Bool} {j : Nat} {want : Bool} (d' : Nat) (hd : (ops[j]?).bind (·.dst) = some d') (hv : ev n f (.tmp d') = .bool want)
    (h : Ex P w n f ⟨some d, op, ty, pos, aft, some (j, want)⟩ (.bool b)) (kt : b = true → St P ops w K rest (fr n (upd f d (.bool true)))) (kf : b = false → St P ops w K rest (fr n (upd f d (.bool false)))) :
    St P ops w K (⟨some d, op, ty, pos, aft, some (j, want)⟩ :: rest) (fr n f) := sg1 d' hd hv h (by cases b; exact kf rfl; exact kt rfl)
theorem wpList_append {ops : Array Oper} : ∀ (l1 l2 : List Oper) (a : Act) (w : World), wpList P ops (Exit.then (wpList P ops Q l2) Q) l1 a w → wpList P ops Q (l1 ++ l2) a w
  | [], l2, a, w, h => h
  | o :: l1, l2, a, w, h => by
    unfold wpList at h
    rw [List.cons_append]
    unfold wpList
    split
    · rename_i hw
      rw [if_pos hw] at h
      refine h.imp (fun h => ?_) (fun h => ⟨h.1, ?_⟩)
      · unfold Oper.wp at h ⊢
        generalize (execOp a.eval o).run P w = r at *
        cases r with
        | ok n w' =>
          cases n <;> simp only [Oper.upon] at h ⊢ <;>
            first
              | exact wpList_append l1 l2 _ _ h
              | exact Calls.mono h (fun e w'' he => by cases e <;> first | exact wpList_append l1 l2 _ _ he | exact he)
              | exact Rows.mono h (fun _ _ he => wpList_append l1 l2 _ _ he)
        | halt x w' => cases x <;> simp only [Oper.upon] at h ⊢ <;> exact h
      · exact h.2
    · rename_i hw
      rw [if_neg hw] at h
      exact wpList_append l1 l2 _ _ h
theorem wpStill_append {ops : Array Oper} {K : Act → Prop} : ∀ (l1 l2 : List Oper) (a : Act), wpStill P ops w (wpStill P ops w K l2) l1 a → wpStill P ops w K (l1 ++ l2) a
  | [], l2, a, h => h
  | o :: l1, l2, a, h => by
    unfold wpStill at h
    rw [List.cons_append]
    unfold wpStill
    split
    · rename_i hw
      rw [if_pos hw] at h
      exact Oper.still_mono (wpStill_append l1 l2) h
    · rename_i hw
      rw [if_neg hw] at h
      exact wpStill_append l1 l2 _ h
def CutAt (n : Nat) (f : Nat → Value) (C : List Nat) (L : List (Nat × Value)) (w : World) (a : Act) (w' : World) : Prop := ∃ F, a = fr n F ∧ w' = w ∧ Agr C F f ∧ hold F L
/-- The first m operations of the list, and what they leave. -/
theorem l_cut {ops : Array Oper} (m : Nat) (C : List Nat) (L : List (Nat × Value)) (h : Lst P ops (Exit.then (CutAt n f C L w) Q) (l.take m) (fr n f) w) (k : ∀ g, Lst P ops Q (l.drop m) (fr n (updL (Eng.hav f C g) L)) w) : Lst P ops Q l (fr n f) w := by
  refine ⟨?_⟩
  have e : l.take m ++ l.drop m = l := List.take_append_drop m l
  rw [← e]
  refine wpList_append _ _ _ _ (wpList_mono (fun e a w' hq => ?_) _ _ _ h.out)
  cases e with
  | normal => obtain ⟨F, rfl, rfl, hA, hH⟩ := hq; rw [frame_eq (n := n) hA hH]; exact (k F).out
  | _ => exact hq
theorem l_cutend {ops : Array Oper} {F : Nat → Value} {C : List Nat} {L : List (Nat × Value)} {l : List Oper} (hl : l = []) (hA : Agr C F f) (hH : hold F L) : Lst P ops (Exit.then (CutAt n f C L w) Q) l (fr n F) w := by
  subst hl; exact ⟨⟨F, rfl, rfl, hA, hH⟩⟩
theorem s_cut {ops : Array Oper} {K : Act → Prop} (m : Nat) (C : List Nat) (L : List (Nat × Value)) (h : St P ops w (fun a => CutAt n f C L w a w) (l.take m) (fr n f)) (k : ∀ g, St P ops w K (l.drop m) (fr n (updL (Eng.hav f C g) L))) : St P ops w K l (fr n f) := by
  refine ⟨?_⟩
  have e : l.take m ++ l.drop m = l := List.take_append_drop m l
  rw [← e]
  refine wpStill_append _ _ _ (still_mono (fun a hq => ?_) _ _ h.out)
  obtain ⟨F, rfl, _, hA, hH⟩ := hq
  rw [frame_eq (n := n) hA hH]; exact (k F).out
theorem s_cutend {ops : Array Oper} {F : Nat → Value} {C : List Nat} {L : List (Nat × Value)} {l : List Oper} (hl : l = []) (hA : Agr C F f) (hH : hold F L) : St P ops w (fun a => CutAt n f C L w a w) l (fr n F) := by
  subst hl; exact ⟨⟨F, rfl, rfl, hA, hH⟩⟩
end regions
end Go.Proofs.Eng
