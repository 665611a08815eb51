import Derived.Test.YtjbfgmkemideiaaE8
import Derived.Laws.Cover3
import Derived.Laws.Small
import Derived.Laws.Pointers
set_option linter.unusedVariables false
set_option linter.unusedSimpArgs false
namespace Go.Proofs.Eng
open Go.RowKit
section
variable {P : Program} {ops : Array Oper} {Q : Exit → Act → World → Prop} {rest : List Oper} {n : Nat} {f : Nat → Value} {w : World}
variable {ty : TypeId} {pos : String} {aft : Array Edge} {v : Value} {x y : Operand} {T T' : TypeId} {op : Op} {dst : Option Nat} {gd : Option (Nat × Bool)}
/-- A guard that is known to hold is left out. -/
theorem g_drop {j : Nat} {want : Bool} (d' : Nat) (hd : (ops[j]?).bind (·.dst) = some d') (hv : ev n f (.tmp d') = .bool want)
    (k : Lst P ops Q (⟨dst, op, ty, pos, aft, none⟩ :: rest) (fr n f) w) : Lst P ops Q (⟨dst, op, ty, pos, aft, some (j, want)⟩ :: rest) (fr n f) w := by
  have h := k.out
  refine ⟨?_⟩
  unfold wpList at h ⊢
  rw [if_pos (wanted_of hd hv)]
  have hw : Region.wanted ⟨dst, op, ty, pos, aft, none⟩ (yielded ops (fr n f).tmps) = true := rfl
  rw [if_pos hw] at h
  exact h
theorem x_eql_slnil {e : TypeId} (hT : P.underlying T = some (.slice e)) {p : Option Addr} {l c : Nat} (hx : ev n f x = .slice p l c) (hy : ev n f y = .slice none 0 0) : Ex P w n f ⟨dst, .binOp .eql T x y T', ty, pos, aft, gd⟩ (.bool (decide (p = none))) :=
  ex_bin hx hy guard_slice (by simp [binOp, run_equal_slice_nil w T e p l c hT]; cases p <;> simp)
theorem x_neq_slnil {e : TypeId} (hT : P.underlying T = some (.slice e)) {p : Option Addr} {l c : Nat} (hx : ev n f x = .slice p l c) (hy : ev n f y = .slice none 0 0) : Ex P w n f ⟨dst, .binOp .neq T x y T', ty, pos, aft, gd⟩ (.bool (decide (p ≠ none))) :=
  ex_bin hx hy guard_slice (by simp [binOp, run_equal_slice_nil w T e p l c hT]; cases p <;> simp)
theorem x_eql_bool (hT : P.underlying T = some .bool) {a b : Bool} (hx : ev n f x = .bool a) (hy : ev n f y = .bool b) : Ex P w n f ⟨dst, .binOp .eql T x y T', ty, pos, aft, gd⟩ (.bool (decide (a = b))) :=
  ex_bin hx hy (guard_bool _ _) (by simp [binOp, run_equal_bool w T a b hT]; cases a <;> cases b <;> simp)
theorem x_neq_bool (hT : P.underlying T = some .bool) {a b : Bool} (hx : ev n f x = .bool a) (hy : ev n f y = .bool b) : Ex P w n f ⟨dst, .binOp .neq T x y T', ty, pos, aft, gd⟩ (.bool (decide (a ≠ b))) :=
  ex_bin hx hy (guard_bool _ _) (by simp [binOp, run_equal_bool w T a b hT]; cases a <;> cases b <;> simp)
end
theorem Mod.mod {B : Nat} {t : TypeId} {a b c : World} (h : Mod B t a b) (k : Mod B t b c) (_ : True) : Mod B t a c := h.trans k
section
variable {P : Program} {n : Nat} {f : Nat → Value} {w : World} {dst : Option Nat} {ty0 : TypeId} {pos : String} {aft : Array Edge} {gd : Option (Nat × Bool)} {x y : Operand} {T e : TypeId}
theorem x_slice_lN {sz : Nat} (hT : P.underlying T = some (.slice e)) (hz : (P.info? e).map (·.size) = some sz) {p : Option Addr} {len cap : Nat} {k : IntKind} {m : Nat} (hx : ev n f x = .slice p len cap) (hy : ev n f y = .int k (m : Int)) (h1 : m ≤ len) :
    Ex P w n f ⟨dst, .slice T x (some y) none none, ty0, pos, aft, gd⟩ (.slice (adw p cap m sz) (len - m) (cap - m)) := x_slice_l hT hz hx hy (by omega) (by omega)
theorem x_slice_hN {sz : Nat} (hT : P.underlying T = some (.slice e)) (hz : (P.info? e).map (·.size) = some sz) {p : Option Addr} {len cap : Nat} {k : IntKind} {m : Nat} (hx : ev n f x = .slice p len cap) (hy : ev n f y = .int k (m : Int)) (h1 : m ≤ cap) :
    Ex P w n f ⟨dst, .slice T x none (some y) none, ty0, pos, aft, gd⟩ (.slice p m cap) := by
  have h := x_slice_h (w := w) (dst' := dst) (ty0 := ty0) (pos := pos) (aft := aft) (gd := gd) hT hz hx hy (by omega) (by omega)
  rw [adw_zero] at h
  exact h
end
/-- A contract whose answer is known. -/
theorem Ret.known {P : Program} {g : FuncId} {vs : List Value} {w : World} {b c : Value} {R : World → Prop} (h : Ret P g vs w (fun v w' => v = b ∧ R w')) (e : b = c) : Ret P g vs w (fun v w' => v = c ∧ R w') := by subst e; exact h
section
variable {α : Type} {sz : Nat} {enc : α → List Value} {hl : ∀ x, (enc x).length = sz} {h1 : ∀ x, ∀ v ∈ enc x, v.oneCell' = true}
theorem Sl.pureRow {e : TypeId} {B : Nat} {w : World} {p : Option Addr} {n c : Nat} {xs : List α} (h : Sl (Kind.pure sz enc hl h1) e B w p n c xs) : RowIn B e w p (xs.map enc).flatten := by
  obtain ⟨css, ha, hr⟩ := h.row
  rw [all_pure ha] at hr
  exact hr
theorem flat_len' (hl : ∀ x, (enc x).length = sz) : ∀ xs : List α, (xs.map enc).flatten.length = xs.length * sz
  | [] => by simp
  | x :: xs => by rw [List.map_cons, List.flatten_cons, List.length_append, hl, flat_len' hl xs, List.length_cons, Nat.add_mul]; omega
theorem src_pure {P : Program} {tx e e' : TypeId} (hk : P.underlying tx = some (.slice e')) {B : Nat} {w : World} {p : Option Addr} {n c : Nat} {xs : List α} (h : Sl (Kind.pure sz enc hl h1) e B w p n c xs) (hsz : 0 < sz) :
    Src P sz tx (.slice p n c) n (xs.map enc).flatten w :=
  src_slice hk h.pureRow.row (by rw [flat_len' hl, h.len]) hsz (fun u hu => by
    obtain ⟨cs, hcs, hu⟩ := List.mem_flatten.1 hu
    obtain ⟨x, _, rfl⟩ := List.mem_map.1 hcs
    exact h1 x u hu)
end
section
variable {P : Program} {n : Nat} {f : Nat → Value} {w : World} {dst : Option Nat} {ty0 : TypeId} {pos : String} {aft : Array Edge} {gd : Option (Nat × Bool)} {T e : TypeId}
/-- A composite whose parts are constants. -/
theorem x_buildC {parts : List (Nat × Operand)} {ps : List (Nat × Value)} {cs : Array Value} (hb : P.built T ps = some cs) (hp : evP n f parts = ps) : Ex P w n f ⟨dst, .build T parts.toArray, ty0, pos, aft, gd⟩ (.agg cs) := by
  rw [← hp, ← evP_map] at hb
  unfold Ex execOp
  simp only [Sem.run_bind, run_build (P := P) w T _ cs hb, Result.andThen_ok]
  rfl
end
/-! ### the parts of a slice literal -/
theorem fold_set (o : Nat) : ∀ (l : List Value) (j : Nat) (b : Array Value), o + j + l.length ≤ b.size → (l.zipIdx j).foldl (fun cs (p : Value × Nat) => cs.setIfInBounds (o + p.2) p.1) b = (b.toList.take (o + j) ++ l ++ b.toList.drop (o + j + l.length)).toArray
  | [], j, b, h => by simp
  | u :: l, j, b, hb => by
    simp only [List.length_cons] at hb
    rw [List.zipIdx_cons, List.foldl_cons, fold_set o l (j + 1) _ (by simp; omega)]
    congr 1
    simp only [Array.toList_setIfInBounds]
    have hj : o + j < b.toList.length := by simp; omega
    rw [List.drop_set_of_lt (by omega), List.take_set, ← Nat.add_assoc, List.take_succ_eq_append_getElem hj, List.set_append_right _ _ (by simp; omega)]
    have : o + j - (b.toList.take (o + j)).length = 0 := by simp; omega
    rw [this, List.length_cons, show o + j + (l.length + 1) = o + j + 1 + l.length from by omega]
    simp
def numb : Nat → List Value → List (Nat × Value)
  | _, [] => []
  | j, v :: vs => (j, v) :: numb (j + 1) vs
theorem fill_all {sz : Nat} : ∀ (vs : List Value) (j : Nat) (base : Array Value), (∀ v ∈ vs, v.cells.size = sz) → base.size = (j + vs.length) * sz →
    Instr.fill (fun i => some (i * sz, sz)) base (numb j vs) = some (base.toList.take (j * sz) ++ (vs.map (·.cells.toList)).flatten).toArray
  | [], j, base, _, hb => by
    simp only [List.length_nil, Nat.add_zero] at hb
    unfold numb Instr.fill
    rw [← hb, List.take_of_length_le (by simp)]
    simp
  | v :: vs, j, base, h, hb => by
    have hv := h v (by simp)
    simp only [List.length_cons] at hb
    have hle : j * sz + sz ≤ base.size := by rw [hb, ← Nat.succ_mul]; exact Nat.mul_le_mul_right _ (by omega)
    unfold numb Instr.fill
    simp only
    rw [if_neg (by simp [hv]; omega)]
    have hf := fold_set (j * sz) v.cells.toList 0 base (by simp [hv]; omega)
    simp only [Nat.add_zero] at hf
    rw [← Array.foldl_toList, Array.toList_zipIdx, hf]
    have hl : v.cells.toList.length = sz := by simpa using hv
    rw [fill_all vs (j + 1) _ (fun u hu => h u (by simp [hu])) (by simp [hl]; rw [show min (j * sz) base.size = j * sz from by omega, show j + 1 + vs.length = j + (vs.length + 1) from by omega, ← hb]; omega)]
    congr 1
    have ht : (base.toList.take (j * sz) ++ v.cells.toList).length = (j + 1) * sz := by rw [List.length_append, hl, List.length_take, Nat.add_mul]; simp; omega
    rw [← ht, List.take_left, List.map_cons, List.flatten_cons]
    simp
theorem fill_kn {sz : Nat} (vs : List Value) (h : ∀ v ∈ vs, v.cells.size = sz) (base : Array Value) (hb : base.size = vs.length * sz) :
    Instr.fill (fun i => some (i * sz, sz)) base (numb 0 vs) = some ((vs.map (·.cells.toList)).flatten).toArray := by
  have := fill_all vs 0 base h (by rw [Nat.zero_add]; exact hb)
  simpa using this
section
variable {α : Type} {sz : Nat} {enc : α → List Value} {hl : ∀ x, (enc x).length = sz} {h1 : ∀ x, ∀ v ∈ enc x, v.oneCell' = true}
theorem own_lit {e : TypeId} {B0 : Nat} {w w' : World} {g : Nat} (xs : List α) (hN : New w w' g (xs.map enc).flatten.toArray e) (hB : B0 ≤ w.heap.size) (hs : xs.length ≤ 9223372036854775807) : Own (Kind.pure sz enc hl h1) e 0 B0 w' (some ⟨g, 0, none⟩) xs.length xs.length xs :=
  Own.made _ e 0 B0 hN xs (xs.map enc) _ _ rfl (pure_all 0 w' xs) hB (Nat.le_refl _) hs (by rw [List.size_toArray, flat_len' hl]; rfl) (by rw [List.take_of_length_le (by simp only [flat_len' hl]; exact Nat.le_refl _)])
end
theorem kHash_one (h : Hash) : ∀ v ∈ (hv h).toList, v.oneCell' = true := fun v hv' => hcs_one h v (by simpa [hv] using hv')
end Go.Proofs.Eng
