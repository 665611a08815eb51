import Derived.WalkKit
import Derived.WalkSpells
import Derived.WalkLawsBesides
import Derived.StillTailTactics
import Derived.Deep.MidRow
import Derived.Stop.BytesEq
import Derived.OrdersHeld
import Derived.KernelRfl
set_option linter.unusedVariables false
set_option linter.unusedSimpArgs false
namespace Go.Proofs.Eng
open Go.RowKit

/-! ### frames -/
def upd (f : Nat → Value) (d : Nat) (v : Value) : Nat → Value := fun t => bif Nat.beq t d then v else f t
def fr (n : Nat) (f : Nat → Value) : Act := ⟨Array.ofFn (fun i : Fin n => f i), []⟩
def ev (n : Nat) (f : Nat → Value) : Operand → Value
  | .tmp t => bif Nat.blt t n then f t else undef
  | .const v => v
  | .global g => .pointer (some ⟨g, 0, none⟩)
  | .func g => .func (.func g) #[] #[]

theorem blt_t {a b : Nat} (h : a < b) : Nat.blt a b = true := by rw [Nat.blt_eq]; exact h
theorem blt_f {a b : Nat} (h : ¬ a < b) : Nat.blt a b = false := by
  cases hb : Nat.blt a b
  · rfl
  · rw [Nat.blt_eq] at hb; exact absurd hb h
theorem ev_lt {n : Nat} {f : Nat → Value} {t : Nat} (h : t < n) : ev n f (.tmp t) = f t := by show (bif Nat.blt t n then f t else undef) = f t; rw [blt_t h]; rfl
theorem ev_ge {n : Nat} {f : Nat → Value} {t : Nat} (h : ¬ t < n) : ev n f (.tmp t) = undef := by show (bif Nat.blt t n then f t else undef) = undef; rw [blt_f h]; rfl
theorem tmps_fr (n : Nat) (f : Nat → Value) (t : Nat) : (fr n f).tmps[t]? = if t < n then some (f t) else none := by
  show (Array.ofFn (fun i : Fin n => f i))[t]? = _
  rw [Array.getElem?_ofFn]
  by_cases h : t < n <;> simp [h]
theorem eval_fr (n : Nat) (f : Nat → Value) : (fr n f).eval = ev n f := by
  funext x
  cases x with
  | tmp t =>
    have h : (fr n f).eval (.tmp t) = ((fr n f).tmps[t]?).getD undef := by simp [Act.eval]
    rw [h, tmps_fr]
    by_cases ht : t < n
    · rw [ev_lt ht, if_pos ht]; rfl
    · rw [ev_ge ht, if_neg ht]; rfl
  | const v => rfl
  | global g => rfl
  | func g => rfl
theorem beq_f {a b : Nat} (h : ¬ a = b) : Nat.beq a b = false := by
  cases hb : Nat.beq a b
  · rfl
  · exact absurd (Nat.eq_of_beq_eq_true hb) h
theorem upd_eq (f : Nat → Value) (d : Nat) (v : Value) : upd f d v d = v := by
  show (bif Nat.beq d d then v else f d) = v
  rw [Nat.beq_refl]; rfl
theorem upd_ne {f : Nat → Value} {d : Nat} {v : Value} {t : Nat} (h : ¬ t = d) : upd f d v t = f t := by
  show (bif Nat.beq t d then v else f t) = f t
  rw [beq_f h]; rfl
theorem put_fr (n : Nat) (f : Nat → Value) (d : Nat) (v : Value) : (fr n f).put (some d) v = fr n (upd f d v) := by
  unfold fr Act.put
  simp only [Act.mk.injEq, and_true]
  apply Array.ext (by simp)
  intro i h1 h2
  have hi : i < n := by simpa using h2
  simp only [Array.getElem_ofFn]
  by_cases h : d = i
  · subst h; rw [upd_eq]; simp
  · rw [upd_ne (fun e => h e.symm)]
    have e : ((Array.ofFn (fun i : Fin n => f i)).setIfInBounds d v)[i]? = some (f i) := by rw [Array.getElem?_setIfInBounds_ne h, Array.getElem?_ofFn, dif_pos hi]
    rw [Array.getElem?_eq_getElem (by simpa using hi)] at e
    exact Option.some.inj e
theorem put_fr_none (n : Nat) (f : Nat → Value) (v : Value) : (fr n f).put none v = fr n f := rfl
theorem fr_defers (n : Nat) (f : Nat → Value) : (fr n f).defers = [] := rfl

theorem enter_fr {P : Program} {g : FuncId} {fn : Func} {c : Code} {w : World} {R : Ending → World → Prop} (n : Nat) (vs : List Value)
    (hf : P.funcs[g]? = some fn) (hb : fn.body = some c) (hn : fn.ntmps = n) (hl : vs.length ≤ n)
    (h : c.wp P (bodyPost P fn R) (fr n (fun t => vs.getD t undef)) w) : Calls P g vs.toArray w R := by
  refine calls_of_wp hf hb ?_
  subst hn
  have e : ({ tmps := vs.toArray ++ Array.replicate (fn.ntmps - vs.toArray.size) undef, defers := [] } : Act) = fr fn.ntmps (fun t => vs.getD t undef) := by
    unfold fr
    congr 1
    apply Array.ext (by simp only [Array.size_append, List.size_toArray, Array.size_replicate, Array.size_ofFn]; omega)
    intro i h1 h2
    simp only [Array.getElem_ofFn, Array.getElem_append, List.size_toArray]
    by_cases hi : i < vs.length
    · simp [hi]
    · simp [hi]
  rw [e]; exact h

/-! ### contracts -/
structure Ret (P : Program) (g : FuncId) (vs : List Value) (w : World) (R : Value → World → Prop) : Prop where
  mk :: (out : Calls P g vs.toArray w fun e w' => ∃ v, e = .returned v ∧ R v w')
/-- The code, the operations of a plain region, those of one that leaves the world alone: sealed, so that nothing runs them. -/
structure Wp (P : Program) (c : Code) (Q : Exit → Act → World → Prop) (a : Act) (w : World) : Prop where
  mk :: (out : c.wp P Q a w)
structure Lst (P : Program) (ops : Array Oper) (Q : Exit → Act → World → Prop) (l : List Oper) (a : Act) (w : World) : Prop where
  mk :: (out : wpList P ops Q l a w)
structure St (P : Program) (ops : Array Oper) (w : World) (K : Act → Prop) (l : List Oper) (a : Act) : Prop where
  mk :: (out : wpStill P ops w K l a)
theorem Ret.mono {P : Program} {g : FuncId} {vs : List Value} {w : World} {R R' : Value → World → Prop} (h : Ret P g vs w R) (hr : ∀ v w', R v w' → R' v w') : Ret P g vs w R' :=
  ⟨Calls.mono h.out fun e w' ⟨v, he, hv⟩ => ⟨v, he, hr v w' hv⟩⟩
/-- What the body must come to. -/
structure End (P : Program) (fn : Func) (R : Value → World → Prop) (e : Exit) (a : Act) (w : World) : Prop where
  mk :: (out : bodyPost P fn (fun e w' => ∃ v, e = .returned v ∧ R v w') e a w)
theorem enter {P : Program} {g : FuncId} {fn : Func} {c : Code} {w : World} {R : Value → World → Prop} (n : Nat) (vs : List Value)
    (hf : P.funcs[g]? = some fn) (hb : fn.body = some c) (hn : fn.ntmps = n) (hl : vs.length ≤ n)
    (h : Wp P c (End P fn R) (fr n (fun t => vs.getD t undef)) w) : Ret P g vs w R := ⟨enter_fr n vs hf hb hn hl (wp_mono h.out fun _ _ _ k => k.out)⟩

theorem end1 {P : Program} {fn : Func} {R : Value → World → Prop} {n : Nat} {f : Nat → Value} {w : World} {t : Nat} {v : Value} (hr : fn.results = #[.tmp t]) (hv : ev n f (.tmp t) = v) (h : R v w) :
    End P fn R .ret (fr n f) w := by
  refine ⟨bodyPost_ret (results_tmp hr _ _ _) rfl ⟨v, ?_, h⟩⟩
  rw [← hv, ← eval_fr]; rfl
theorem end2 {P : Program} {fn : Func} {R : Value → World → Prop} {n : Nat} {f : Nat → Value} {w : World} {t u : Nat} {v x : Value} (hr : fn.results = #[.tmp t, .tmp u]) (hv : ev n f (.tmp t) = v) (hx : ev n f (.tmp u) = x)
    (h : R (.tuple #[v, x]) w) : End P fn R .ret (fr n f) w := by
  refine ⟨bodyPost_ret (results_tmp2 hr _ _ _) rfl ⟨_, rfl, ?_⟩⟩
  have e1 : (fr n f).tmps.getD t undef = v := by rw [← hv, ← eval_fr]; rfl
  have e2 : (fr n f).tmps.getD u undef = x := by rw [← hx, ← eval_fr]; rfl
  rw [e1, e2]; exact h
theorem end3 {P : Program} {fn : Func} {R : Value → World → Prop} {n : Nat} {f : Nat → Value} {w : World} {t u s : Nat} {v x y : Value} (hr : fn.results = #[.tmp t, .tmp u, .tmp s]) (hv : ev n f (.tmp t) = v) (hx : ev n f (.tmp u) = x) (hy : ev n f (.tmp s) = y)
    (h : R (.tuple #[v, x, y]) w) : End P fn R .ret (fr n f) w := by
  refine ⟨bodyPost_ret (v := .tuple #[v, x, y]) ?_ rfl ⟨_, rfl, h⟩⟩
  have e1 : (fr n f).tmps[t]?.getD undef = v := by rw [← hv, ← eval_fr]; simp [Act.eval]
  have e2 : (fr n f).tmps[u]?.getD undef = x := by rw [← hx, ← eval_fr]; simp [Act.eval]
  have e3 : (fr n f).tmps[s]?.getD undef = y := by rw [← hy, ← eval_fr]; simp [Act.eval]
  simp [results, hr, e1, e2, e3]
theorem end0 {P : Program} {fn : Func} {R : Value → World → Prop} {n : Nat} {f : Nat → Value} {w : World} (hr : fn.results = #[]) (h : R (.tuple #[]) w) : End P fn R .ret (fr n f) w :=
  ⟨bodyPost_ret (results_none hr _ _ _) rfl ⟨_, rfl, h⟩⟩
theorem end0n {P : Program} {fn : Func} {R : Value → World → Prop} {n : Nat} {f : Nat → Value} {w : World} (hr : fn.results = #[]) (h : R (.tuple #[]) w) : End P fn R .normal (fr n f) w :=
  ⟨bodyPost_end (results_none hr _ _ _) rfl ⟨_, rfl, h⟩⟩

/-! ### one operation -/
def Ex (P : Program) (w : World) (n : Nat) (f : Nat → Value) (o : Oper) (v : Value) : Prop := (execOp (ev n f) o).run P w = .ok (.value v) w

section steps
variable {P : Program} {ops : Array Oper} {Q : Exit → Act → World → Prop} {rest : List Oper} {n : Nat} {f : Nat → Value} {w : World}
variable {op : Op} {ty : TypeId} {pos : String} {aft : Array Edge} {d : Nat} {v : Value}

theorem p1 (h : Ex P w n f ⟨some d, op, ty, pos, aft, none⟩ v) (k : Lst P ops Q rest (fr n (upd f d v)) w) : Lst P ops Q (⟨some d, op, ty, pos, aft, none⟩ :: rest) (fr n f) w :=
  ⟨wpList_plain rfl fun K hK => by
    unfold Oper.wp
    rw [eval_fr, h, Oper.upon_value, put_fr]
    exact hK _ _ k.out⟩
theorem p1b {b : Bool} (h : Ex P w n f ⟨some d, op, ty, pos, aft, none⟩ (.bool b)) (kt : b = true → Lst P ops Q rest (fr n (upd f d (.bool true))) w) (kf : b = false → Lst P ops Q rest (fr n (upd f d (.bool false))) w) :
    Lst P ops Q (⟨some d, op, ty, pos, aft, none⟩ :: rest) (fr n f) w := p1 h (by cases b; exact kf rfl; exact kt rfl)

theorem wanted_of {j : Nat} {want : Bool} {d' : Nat} {dst : Option Nat} (hd : (ops[j]?).bind (·.dst) = some d') (hv : ev n f (.tmp d') = .bool want) :
    Region.wanted ⟨dst, op, ty, pos, aft, some (j, want)⟩ (yielded ops (fr n f).tmps) = true := by
  have h2 : (fr n f).tmps[d']? = some (.bool want) := by
    rw [tmps_fr]
    by_cases ht : d' < n
    · rw [ev_lt ht] at hv; rw [if_pos ht, hv]
    · rw [ev_ge ht] at hv; cases hv
  simp [Region.wanted, yielded, hd, h2]
theorem unwanted_of {j : Nat} {want : Bool} {d' : Nat} {dst : Option Nat} (hd : (ops[j]?).bind (·.dst) = some d') (hv : ev n f (.tmp d') = .bool (!want) ∨ ev n f (.tmp d') = undef) :
    Region.wanted ⟨dst, op, ty, pos, aft, some (j, want)⟩ (yielded ops (fr n f).tmps) = false := by
  have h2 : (fr n f).tmps[d']? = some (.bool (!want)) ∨ (fr n f).tmps[d']? = some undef ∨ (fr n f).tmps[d']? = none := by
    rw [tmps_fr]
    by_cases ht : d' < n
    · rw [ev_lt ht] at hv; rw [if_pos ht]; rcases hv with hv | hv <;> simp [hv]
    · exact .inr (.inr (if_neg ht))
  rcases h2 with h2 | h2 | h2 <;> simp [Region.wanted, yielded, hd, h2, undef]
theorem g1 {j : Nat} {want : Bool} (d' : Nat) (hd : (ops[j]?).bind (·.dst) = some d') (hv : ev n f (.tmp d') = .bool want) (h : Ex P w n f ⟨some d, op, ty, pos, aft, some (j, want)⟩ v)
    (k : Lst P ops Q rest (fr n (upd f d v)) w) : Lst P ops Q (⟨some d, op, ty, pos, aft, some (j, want)⟩ :: rest) (fr n f) w :=
  ⟨wpList_step fun K hK => by
    rw [if_pos (wanted_of hd hv)]
    unfold Oper.wp
    rw [eval_fr, h, Oper.upon_value, put_fr]
    exact hK _ _ k.out⟩
theorem g1b {j : Nat} {want b : Bool} (d' : Nat) (hd : (ops[j]?).bind (·.dst) = some d') (hv : ev n f (.tmp d') = .bool want) (h : Ex P w n f ⟨some d, op, ty, pos, aft, some (j, want)⟩ (.bool b))
    (kt : b = true → Lst P ops Q rest (fr n (upd f d (.bool true))) w) (kf : b = false → Lst P ops Q rest (fr n (upd f d (.bool false))) w) : Lst P ops Q (⟨some d, op, ty, pos, aft, some (j, want)⟩ :: rest) (fr n f) w :=
  g1 d' hd hv h (by cases b; exact kf rfl; exact kt rfl)
theorem g0 {j : Nat} {want : Bool} (d' : Nat) (hd : (ops[j]?).bind (·.dst) = some d') (hv : ev n f (.tmp d') = .bool (!want) ∨ ev n f (.tmp d') = undef)
    (k : Lst P ops Q rest (fr n (upd f d undef)) w) : Lst P ops Q (⟨some d, op, ty, pos, aft, some (j, want)⟩ :: rest) (fr n f) w :=
  ⟨wpList_step fun K hK => by
    rw [if_neg (by rw [unwanted_of hd hv]; simp), put_fr]
    exact hK _ _ k.out⟩
end steps
end Go.Proofs.Eng
