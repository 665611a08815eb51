import Derived.Test.YtjbfgmkemideiaaE8
import Derived.Laws.Cover3
import Derived.Laws.Small
import Derived.Laws.Pointers
set_option linter.unusedVariables false
set_option linter.unusedSimpArgs false
namespace Go.Proofs.Eng
open Go.RowKit
section
variable {P : Program} {ops : Array Oper} {Q : Exit → Act → World → Prop} {rest : List Oper} {n : Nat} {f : Nat → Value} {w : World}
variable {ty : TypeId} {pos : String} {aft : Array Edge} {v : Value} {x y : Operand} {T T' : TypeId} {op : Op} {dst : Option Nat} {gd : Option (Nat × Bool)}
/-- A guard that is known to hold is left out. -/
theorem g_drop {j : Nat} {want : Bool} (d' : Nat) (hd : (ops[j]?).bind (·.dst) = some d') (hv : ev n f (.tmp d') = .bool want)
    (k : Lst P ops Q (⟨dst, op, ty, pos, aft, none⟩ :: rest) (fr n f) w) : Lst P ops Q (⟨dst, op, ty, pos, aft, some (j, want)⟩ :: rest) (fr n f) w := by
  have h := k.out
  refine ⟨?_⟩
  unfold wpList at h ⊢
  rw [if_pos (wanted_of hd hv)]
  have hw : Region.wanted ⟨dst, op, ty, pos, aft, none⟩ (yielded ops (fr n f).tmps) = true := rfl
  rw [if_pos hw] at h
  exact h
theorem x_eql_slnil {e : TypeId} (hT : P.underlying T = some (.slice e)) {p : Option Addr} {l c : Nat} (hx : ev n f x = .slice p l c) (hy : ev n f y = .slice none 0 0) : Ex P w n f ⟨dst, .binOp .eql T x y T', ty, pos, aft, gd⟩ (.bool (decide (p = none))) :=
  ex_bin hx hy guard_slice (by simp [binOp, run_equal_slice_nil w T e p l c hT]; cases p <;> simp)
theorem x_neq_slnil {e : TypeId} (hT : P.underlying T = some (.slice e)) {p : Option Addr} {l c : Nat} (hx : ev n f x = .slice p l c) (hy : ev n f y = .slice none 0 0) : Ex P w n f ⟨dst, .binOp .neq T x y T', ty, pos, aft, gd⟩ (.bool (decide (p ≠ none))) :=
  ex_bin hx hy guard_slice (by simp [binOp, run_equal_slice_nil w T e p l c hT]; cases p <;> simp)
theorem x_eql_bool (hT : P.underlying T = some .bool) {a b : Bool} (hx : ev n f x = .bool a) (hy : ev n f y = .bool b) : Ex P w n f ⟨dst, .binOp .eql T x y T', ty, pos, aft, gd⟩ (.bool (decide (a = b))) :=
  ex_bin hx hy (guard_bool _ _) (by simp [binOp, run_equal_bool w T a b hT]; cases a <;> cases b <;> simp)
theorem x_neq_bool (hT : P.underlying T = some .bool) {a b : Bool} (hx : ev n f x = .bool a) (hy : ev n f y = .bool b) : Ex P w n f ⟨dst, .binOp .neq T x y T', ty, pos, aft, gd⟩ (.bool (decide (a ≠ b))) :=
  ex_bin hx hy (guard_bool _ _) (by simp [binOp, run_equal_bool w T a b hT]; cases a <;> cases b <;> simp)
end
theorem Mod.mod {B : Nat} {t : TypeId} {a b c : World} (h : Mod B t a b) (k : Mod B t b c) (_ : True) : Mod B t a c := h.trans k
section
variable {P : Program} {n : Nat} {f : Nat → Value} {w : World} {dst : Option Nat} {ty0 : TypeId} {pos : String} {aft : Array Edge} {gd : Option (Nat × Bool)} {x y : Operand} {T e : TypeId}
theorem x_slice_lN {sz : Nat} (hT : P.underlying T = some (.slice e)) (hz : (P.info? e).map (·.size) = some sz) {p : Option Addr} {len cap : Nat} {k : IntKind} {m : Nat} (hx : ev n f x = .slice p len cap) (hy : ev n f y = .int k (m : Int)) (h1 : m ≤ len) :
    Ex P w n f ⟨dst, .slice T x (some y) none none, ty0, pos, aft, gd⟩ (.slice (adw p cap m sz) (len - m) (cap - m)) := x_slice_l hT hz hx hy (by omega) (by omega)
theorem x_slice_hN {sz : Nat} (hT : P.underlying T = some (.slice e)) (hz : (P.info? e).map (·.size) = some sz) {p : Option Addr} {len cap : Nat} {k : IntKind} {m : Nat} (hx : ev n f x = .slice p len cap) (hy : ev n f y = .int k (m : Int)) (h1 : m ≤ cap) :
    Ex P w n f ⟨dst, .slice T x none (some y) none, ty0, pos, aft, gd⟩ (.slice p m cap) := by
  have h := x_slice_h (w := w) (dst' := dst) (ty0 := ty0) (pos := pos) (aft := aft) (gd := gd) hT hz hx hy (by omega) (by omega)
  rw [adw_zero] at h
  exact h
end
/-- A contract whose answer is known. -/
theorem Ret.known {P : Program} {g : FuncId} {vs : List Value} {w : World} {b c : Value} {R : World → Prop} (h : Ret P g vs w (fun v w' => v = b ∧ R w')) (e : b = c) : Ret P g vs w (fun v w' => v = c ∧ R w') := by subst e; exact h
section
variable {α : Type} {sz : Nat} {enc : α → List Value} {hl : ∀ x, (enc x).length = sz} {h1 : ∀ x, ∀ v ∈ enc x, v.oneCell' = true}
theorem Sl.pureRow {e : TypeId} {B : Nat} {w : World} {p : Option Addr} {n c : Nat} {xs : List α} (h : Sl (Kind.pure sz enc hl h1) e B w p n c xs) : RowIn B e w p (xs.map enc).flatten := by
  obtain ⟨css, ha, hr⟩ := h.row
  rw [all_pure ha] at hr
  exact hr
theorem flat_len' (hl : ∀ x, (enc x).length = sz) : ∀ xs : List α, (xs.map enc).flatten.length = xs.length * sz
  | [] => by simp
  | x :: xs => by rw [List.map_cons, List.flatten_cons, List.length_append, hl, flat_len' hl xs, List.length_cons, Nat.add_mul]; omega
theorem src_pure {P : Program} {tx e e' : TypeId} (hk : P.underlying tx = some (.slice e')) {B : Nat} {w : World} {p : Option Addr} {n c : Nat} {xs : List α} (h : Sl (Kind.pure sz enc hl h1) e B w p n c xs) (hsz : 0 < sz) :
    Src P sz tx (.slice p n c) n (xs.map enc).flatten w :=
  src_slice hk h.pureRow.row (by rw [flat_len' hl, h.len]) hsz (fun u hu => by
    obtain ⟨cs, hcs, hu⟩ := List.mem_flatten.1 hu
    obtain ⟨x, _, rfl⟩ := List.mem_map.1 hcs
    exact h1 x u hu)
end
section
variable {P : Program} {n : Nat} {f : Nat → Value} {w : World} {dst : Option Nat} {ty0 : TypeId} {pos : String} {aft : Array Edge} {gd : Option (Nat × Bool)} {T e : TypeId}
/-- A composite whose parts are constants. -/
theorem x_buildC {parts : List (Nat × Operand)} {ps : List (Nat × Value)} {cs : Array Value} (hb : P.built T ps = some cs) (hp : evP n f parts = ps) : Ex P w n f ⟨dst, .build T parts.toArray, ty0, pos, aft, gd⟩ (.agg cs) := by
  rw [← hp, ← evP_map] at hb
  unfold Ex execOp
  simp only [Sem.run_bind, run_build (P := P) w T _ cs hb, Result.andThen_ok]
  rfl
end
/-! ### the parts of a slice literal -/
theorem fold_set (o : Nat) : ∀ (l : List Value) (j : Nat) (b : Array Value), o + j + l.length ≤ b.size → (l.zipIdx j).foldl (fun cs (p : Value × Nat) => cs.setIfInBounds (o + p.2) p.1) b = (b.toList.take (o + j) ++ l ++ b.toList.drop (o + j + l.length)).toArray
  | [], j, b, h => by simp
  | u :: l, j, b, hb => by
    simp only [List.length_cons] at hb
    rw [List.zipIdx_cons, List.foldl_cons, fold_set o l (j + 1) _ (by simp; omega)]
    congr 1
    simp only [Array.toList_setIfInBounds]
    have hj : o + j < b.toList.length := by simp; omega
    rw [List.drop_set_of_lt (by omega), List.take_set, ← Nat.add_assoc, List.take_succ_eq_append_getElem hj, List.set_append_right _ _ (by simp; omega)]
    have : o + j - (b.toList.take (o + j)).length = 0 := by simp; omega
    rw [this, List.length_cons, show o + j + (l.length + 1) = o + j + 1 + l.length from by omega]
    simp
def numb : Nat → List Value → List (Nat × Value)
  | _, [] => []
  | j, v :: vs => (j, v) :: numb (j + 1) vs
theorem fill_all {sz : Nat} : ∀ (vs : List Value) (j : Nat) (base : Array Value), (∀ v ∈ vs, v.cells.size = sz) → base.size = (j + vs.length) * sz →
    Instr.fill (fun i => some (i * sz, sz)) base (numb j vs) = some (base.toList.take (j * sz) ++ (vs.map (·.cells.toList)).flatten).toArray
  | [], j, base, _, hb => by
    simp only [List.length_nil, Nat.add_zero] at hb
    unfold numb Instr.fill
    rw [← hb, List.take_of_length_le (by simp)]
    simp
  | v :: vs, j, base, h, hb => by
    have hv := h v (by simp)
    simp only [List.length_cons] at hb
    have hle : j * sz + sz ≤ base.size := by rw [hb, ← Nat.succ_mul]; exact Nat.mul_le_mul_right _ (by omega)
    unfold numb Instr.fill
    simp only
    rw [if_neg (by simp [hv]; omega)]
    have hf := fold_set (j * sz) v.cells.toList 0 base (by simp [hv]; omega)
    simp only [Nat.add_zero] at hf
    rw [← Array.foldl_toList, Array.toList_zipIdx, hf]
    have hl : v.cells.toList.length = sz := by simpa using hv
    rw [fill_all vs (j + 1) _ (fun u hu => h u (by simp [hu])) (by simp [hl]; rw [show min (j * sz) base.size = j * sz from by omega, show j + 1 + vs.length = j + (vs.length + 1) from by omega, ← hb]; omega)]
    congr 1
    have ht : (base.toList.take (j * sz) ++ v.cells.toList).length = (j + 1) * sz := by rw [List.length_append, hl, List.length_take, Nat.add_mul]; simp; omega
    rw [← ht, List.take_left, List.map_cons, List.flatten_cons]
    simp
theorem fill_kn {sz : Nat} (vs : List Value) (h : ∀ v ∈ vs, v.cells.size = sz) (base : Array Value) (hb : base.size = vs.length * sz) :
    Instr.fill (fun i => some (i * sz, sz)) base (numb 0 vs) = some ((vs.map (·.cells.toList)).flatten).toArray := by
  have := fill_all vs 0 base h (by rw [Nat.zero_add]; exact hb)
  simpa using this
section
variable {α : Type} {sz : Nat} {enc : α → List Value} {hl : ∀ x, (enc x).length = sz} {h1 : ∀ x, ∀ v ∈ enc x, v.oneCell' = true}
theorem own_lit {e : TypeId} {B0 : Nat} {w w' : World} {g : Nat} (xs : List α) (hN : New w w' g (xs.map enc).flatten.toArray e) (hB : B0 ≤ w.heap.size) (hs : xs.length ≤ 9223372036854775807) : Own (Kind.pure sz enc hl h1) e 0 B0 w' (some ⟨g, 0, none⟩) xs.length xs.length xs :=
  Own.made _ e 0 B0 hN xs (xs.map enc) _ _ rfl (pure_all 0 w' xs) hB (Nat.le_refl _) hs (by rw [List.size_toArray, flat_len' hl]; rfl) (by rw [List.take_of_length_le (by simp only [flat_len' hl]; exact Nat.le_refl _)])
end
theorem kHash_one (h : Hash) : ∀ v ∈ (hv h).toList, v.oneCell' = true := fun v hv' => hcs_one h v (by simpa [hv] using hv')
section
variable {P : Program} {ops : Array Oper} {Q : Exit → Act → World → Prop} {S : World → Prop} {n : Nat} {f : Nat → Value} {w : World} {fuel : Nat} {listed : Array Bool} {K : Act → World → Prop}
variable {op : Op} {ty : TypeId} {pos : String} {aft : Array Edge} {d : Nat} {v : Value}
/-- Number i is quiet, its guard holds: it is taken now. -/
theorem h_takeg (i : Nat) {j : Nat} {want : Bool} (d' : Nat) (hd : (ops[j]?).bind (·.dst) = some d') (hv : ev n f (.tmp d') = .bool want) (hi : ops[i]? = some ⟨some d, op, ty, pos, aft, some (j, want)⟩) (hs : Region.noSelect ops = true) (hf : Region.free .any ops listed i = true) (hr : (Region.ready .any ops listed).contains i = true) (hS : S w)
    (h : ∀ w, S w → Ex P w n f ⟨some d, op, ty, pos, aft, some (j, want)⟩ v) (k : Hl P ops Q S fuel (listed.setIfInBounds i true) (fr n (upd f d v)) w) : Hl P ops Q S (fuel + 1) listed (fr n f) w := by
  refine ⟨wpAnyH_take hi hs hf hr (fun c a w q => q.elim) (v := v) (.inl ⟨wanted_of hd hv, fun w hw => ?_⟩) hS ?_⟩
  · rw [eval_fr]; exact h w hw
  · rw [put_fr]; exact k.out
/-- Its guard does not hold: it is passed over. -/
theorem h_skip (i : Nat) {j : Nat} {want : Bool} (d' : Nat) (hd : (ops[j]?).bind (·.dst) = some d') (hv : ev n f (.tmp d') = .bool (!want) ∨ ev n f (.tmp d') = undef) (hi : ops[i]? = some ⟨some d, op, ty, pos, aft, some (j, want)⟩) (hs : Region.noSelect ops = true) (hf : Region.free .any ops listed i = true) (hr : (Region.ready .any ops listed).contains i = true) (hS : S w)
    (k : Hl P ops Q S fuel (listed.setIfInBounds i true) (fr n (upd f d undef)) w) : Hl P ops Q S (fuel + 1) listed (fr n f) w := by
  refine ⟨wpAnyH_take hi hs hf hr (fun c a w q => q.elim) (v := undef) (.inr ⟨unwanted_of hd hv, rfl⟩) hS ?_⟩
  rw [put_fr]; exact k.out
theorem hop_drop {o : Op} {dst : Option Nat} {j : Nat} {want : Bool} (d' : Nat) (hd : (ops[j]?).bind (·.dst) = some d') (hv : ev n f (.tmp d') = .bool want) (h : Hop P ops Q ⟨dst, o, ty, pos, aft, none⟩ K (fr n f) w) : Hop P ops Q ⟨dst, o, ty, pos, aft, some (j, want)⟩ K (fr n f) w := by
  have h := h.out
  refine ⟨?_⟩
  rw [if_pos (wanted_of hd hv)]
  have hw : Region.wanted ⟨dst, o, ty, pos, aft, none⟩ (yielded ops (fr n f).tmps) = true := rfl
  rw [if_pos hw] at h
  exact h
end
section
variable {α : Type} {d : Kind α} {e : TypeId} {B B0 : Nat} {w w' : World} {p : Option Addr} {n c : Nat} {xs : List α}
theorem Own.below (h : Own d e B B0 w p n c xs) : p = none ∨ ab p < w.heap.size := by
  rcases h.form with ⟨h1, _⟩ | ⟨g, cur, h1, _, h3, _⟩
  · exact .inl h1
  · right; rw [h1]; exact h3.lt
theorem Own.modB (h : Own d e B B0 w p n c xs) {B' : Nat} {t : TypeId} (m : Mod B' t w w') (hB : B ≤ B') (hE : t ∉ d.E) (hp : p = none ∨ ab p < B') : Own d e B B0 w' p n c xs :=
  h.of_heap (m.same hB hE) (fun k hk hlt => by
    rcases hp with hp | hp
    · rw [hp] at hk; cases hk
    · rw [hk] at hp; exact m.old k hlt (.inl hp))
variable {P : Program} {ops : Array Oper} {Q : Exit → Act → World → Prop} {rest : List Oper} {N : Nat} {f : Nat → Value}
variable {ty0 : TypeId} {pos : String} {aft : Array Edge} {v : Value} {x y : Operand} {T : TypeId}
theorem set_in {cur cy cx : List Value} {a sz j : Nat} {v : Value} (hl : a + sz ≤ cur.length) (hx : ∀ t u, cx[t]? = some u → cur[a + t]? = some u) (hc : cx.length = sz) (hj : j < sz) (hy : cy = cx.set j v) : cur.set (a + j) v = cur.take a ++ cy ++ cur.drop (a + sz) := by
  subst hy
  have hx' : cx = (cur.drop a).take sz := by
    apply List.ext_getElem?
    intro t
    rw [List.getElem?_take, List.getElem?_drop]
    by_cases ht : t < sz
    · rw [if_pos ht]
      have := hx t (cx[t]'(by omega)) (List.getElem?_eq_getElem (by omega))
      rw [this, List.getElem?_eq_getElem (by omega)]
    · rw [if_neg ht, List.getElem?_eq_none (by omega)]
  subst hx'
  conv => lhs; rw [← List.take_append_drop a cur]
  rw [List.set_append_right _ _ (by simp; omega), List.append_assoc]
  congr 1
  have e1 : a + j - (cur.take a).length = j := by simp; omega
  rw [e1]
  conv => lhs; rw [← List.take_append_drop sz (cur.drop a)]
  rw [List.set_append_left _ _ (by simp; omega), List.drop_drop]
/-- One cell of an element of an own slice is written. -/
theorem o_storeIn {i j : Nat} (z y0 : α) (hx : ev N f x = .pointer (some ⟨ab p, ao p + i * d.sz + j, none⟩)) (hy : ev N f y = v) (h1 : v.cells = #[v]) (hv : v.oneCell' = true) (hO : Own d e B B0 w p n c xs) (hi : i < n) (hj : j < d.sz)
    (ha : ∀ cx, d.K B w (xs.getD i z) cx → d.K B w y0 (cx.set j v)) (hs : (P.info? T).map (·.size) = some 1) (hBB : B ≤ B0) (hE : e ∉ d.E)
    (k : ∀ w', Own d e B B0 w' p n c (xs.set i y0) → Mod B0 e w w' → Lst P ops Q rest (fr N f) w') : Lst P ops Q (⟨none, .store T x y, ty0, pos, aft, none⟩ :: rest) (fr N f) w := by
  obtain ⟨g, cur, css, e1, h2, h3, h4, h5, h6, hA, hlf, ht⟩ := hO.block (by omega)
  have hab : ab p = g := by rw [e1]; rfl
  have hao : ao p = 0 := by rw [e1]; rfl
  have hle : i * d.sz + d.sz ≤ n * d.sz := by rw [← Nat.succ_mul]; exact Nat.mul_le_mul_right _ hi
  have hcs : n * d.sz ≤ c * d.sz := Nat.mul_le_mul_right _ h4
  rw [hab, hao, Nat.zero_add] at hx
  have hlen := hO.len
  have hK := hA.get z (i := i) (by omega)
  refine o_store1 hx hy h1 hv hs h3 (by omega) fun w' hP => ?_
  have e2 : cur.setIfInBounds (i * d.sz + j) v = (cur.toList.take (i * d.sz) ++ (css.getD i []).set j v ++ cur.toList.drop (i * d.sz + d.sz)).toArray := by
    apply Array.toList_inj.1
    rw [Array.toList_setIfInBounds]
    refine set_in (by simp; omega) (fun t u hu => ?_) (d.len hK) hj rfl
    have hf := Kind.flat_get hA.lens hu
    rw [← ht, List.getElem?_take] at hf
    split at hf
    · exact hf
    · cases hf
  rw [e2] at hP
  have := hO.put hi (ha _ hK) hBB hE h3 hab hP
  exact k w' this.1 this.2
end
def Hash.put (h : Hash) (j : Nat) (b : UInt8) : Hash := ⟨h.1.set j b, by rw [List.length_set]; exact h.2⟩
theorem kHash_put {B : Nat} {w : World} {h : Hash} {j : Nat} {b : UInt8} (cx : List Value) (hx : kHash.K B w h cx) : kHash.K B w (h.put j b) (cx.set j (.int .u8 b.toNat)) := by
  have : cx = hcs h := hx
  subst this
  show (hcs h).set j _ = hcs (h.put j b)
  unfold hcs Hash.put
  rw [List.map_set]; rfl
theorem hcs_get (h : Hash) (i : Nat) (hi : i < 32) : (hcs h)[i]? = some (.int .u8 (h.1.getD i 0).toNat) := by
  have := h.2
  simp [hcs, Extern.Stop.cell, this, hi]
theorem u8_inc (b : UInt8) : IntKind.u8.wrap ((b.toNat : Int) + 1) = ((b + 1).toNat : Int) := by
  have hb := b.toNat_lt
  have : (b + 1).toNat = (b.toNat + 1) % 256 := by rw [UInt8.toNat_add]; rfl
  rw [this]
  unfold IntKind.wrap
  simp [IntKind.bits, IntKind.signed]
section
variable {P : Program} {ops : Array Oper} {Q : Exit → Act → World → Prop} {rest : List Oper} {n : Nat} {f : Nat → Value} {w : World}
variable {ty0 : TypeId} {pos : String} {aft : Array Edge} {x y : Operand} {T t : TypeId}
/-- A whole block is written. -/
theorem o_storeAll {g : Nat} {cs vs : Array Value} (hx : ev n f x = .pointer (some ⟨g, 0, none⟩)) (hy : ev n f y = .agg vs) (hv : ∀ u ∈ vs.toList, u.oneCell' = true) (hs : (P.info? T).map (·.size) = some vs.size) (hB : Blk w g cs t) (ho : vs.size = cs.size)
    (k : ∀ w', Put w w' g vs t → Lst P ops Q rest (fr n f) w') : Lst P ops Q (⟨none, .store T x y, ty0, pos, aft, none⟩ :: rest) (fr n f) w :=
  o_storeN hx hy hv hs hB (by omega) fun w' hP => k w' (by
    have e : (cs.toList.take 0 ++ vs.toList ++ cs.toList.drop (0 + vs.size)).toArray = vs := by
      rw [List.take_zero, List.nil_append, List.drop_of_length_le (by simp; omega), List.append_nil]
    rw [e] at hP; exact hP)
end
theorem hv_size (h : Hash) : (hv h).size = 32 := by simp [hv, hcs_len]
theorem src_range {P : Program} {tx e' : TypeId} (hk : P.underlying tx = some (.slice e')) {w : World} {b o c : Nat} {x : Hash} (h : w.rangeAt b o (hcs x)) : Src P 1 tx (.slice (some ⟨b, o, none⟩) 32 c) 32 (x.1.map Extern.Stop.cell) w :=
  src_slice hk (sz := 1) (p := some ⟨b, o, none⟩) ⟨fun _ => rfl, h⟩ (by simp [x.2]) (by omega) (hcs_one x)
theorem src_hash {P : Program} {tx e' : TypeId} (hk : P.underlying tx = some (.slice e')) {w : World} {g c : Nat} {x : Hash} {t : TypeId} (h : Blk w g (hv x) t) : Src P 1 tx (.slice (some ⟨g, 0, none⟩) 32 c) 32 (x.1.map Extern.Stop.cell) w :=
  src_range hk h.range
section
variable {P : Program} {ops : Array Oper} {Q : Exit → Act → World → Prop} {S : World → Prop} {n : Nat} {f : Nat → Value} {w : World} {fuel : Nat} {listed : Array Bool}
variable {op : Op} {ty : TypeId} {pos : String} {aft : Array Edge} {d : Nat} {b : Bool}
theorem h_takeb (i : Nat) (hi : ops[i]? = some ⟨some d, op, ty, pos, aft, none⟩) (hs : Region.noSelect ops = true) (hf : Region.free .any ops listed i = true) (hr : (Region.ready .any ops listed).contains i = true) (hS : S w)
    (h : ∀ w, S w → Ex P w n f ⟨some d, op, ty, pos, aft, none⟩ (.bool b)) (kt : b = true → Hl P ops Q S fuel (listed.setIfInBounds i true) (fr n (upd f d (.bool true))) w) (kf : b = false → Hl P ops Q S fuel (listed.setIfInBounds i true) (fr n (upd f d (.bool false))) w) : Hl P ops Q S (fuel + 1) listed (fr n f) w :=
  h_take i hi hs hf hr hS h (by cases b; exact kf rfl; exact kt rfl)
theorem h_takegb (i : Nat) {j : Nat} {want : Bool} (d' : Nat) (hd : (ops[j]?).bind (·.dst) = some d') (hv : ev n f (.tmp d') = .bool want) (hi : ops[i]? = some ⟨some d, op, ty, pos, aft, some (j, want)⟩) (hs : Region.noSelect ops = true) (hf : Region.free .any ops listed i = true) (hr : (Region.ready .any ops listed).contains i = true) (hS : S w)
    (h : ∀ w, S w → Ex P w n f ⟨some d, op, ty, pos, aft, some (j, want)⟩ (.bool b)) (kt : b = true → Hl P ops Q S fuel (listed.setIfInBounds i true) (fr n (upd f d (.bool true))) w) (kf : b = false → Hl P ops Q S fuel (listed.setIfInBounds i true) (fr n (upd f d (.bool false))) w) : Hl P ops Q S (fuel + 1) listed (fr n f) w :=
  h_takeg i d' hd hv hi hs hf hr hS h (by cases b; exact kf rfl; exact kt rfl)
end
end Go.Proofs.Eng
