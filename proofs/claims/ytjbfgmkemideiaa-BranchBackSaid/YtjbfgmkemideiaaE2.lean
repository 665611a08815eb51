import Derived.Test.YtjbfgmkemideiaaE1
set_option linter.unusedVariables false
set_option linter.unusedSimpArgs false
namespace Go.Proofs.Eng
open Go.RowKit

/-! ### worlds -/
structure Ext (w w' : World) : Prop where
  size : w.heap.size ≤ w'.heap.size
  old : ∀ k, k < w.heap.size → w'.heap[k]? = w.heap[k]?
  os : w'.os = w.os
  tape : w'.tape = w.tape
  output : w'.output = w.output
  drawn : w.drawn ≤ w'.drawn
theorem Ext.refl (w : World) : Ext w w := ⟨Nat.le_refl _, fun _ _ => rfl, rfl, rfl, rfl, Nat.le_refl _⟩
theorem Ext.trans {a b c : World} (h : Ext a b) (k : Ext b c) : Ext a c :=
  ⟨Nat.le_trans h.size k.size, fun i hi => (k.old i (Nat.lt_of_lt_of_le hi h.size)).trans (h.old i hi), k.os.trans h.os, k.tape.trans h.tape, k.output.trans h.output, Nat.le_trans h.drawn k.drawn⟩
theorem Ext.ext {a b c : World} (h : Ext a b) (k : Ext b c) : Ext a c := h.trans k
theorem Ext.drew (w : World) : Ext w w.drew := ⟨Nat.le_refl _, fun _ _ => rfl, rfl, rfl, rfl, Nat.le_succ _⟩
theorem Ext.alloc (w : World) (o : Obj) : Ext w (w.alloc o) := ⟨by simp, fun k hk => Below.heap_alloc w o k hk, rfl, rfl, rfl, Nat.le_refl _⟩
theorem Ext.below {w w' : World} (h : Ext w w') : Below w.heap.size w w' := ⟨h.os, h.tape, h.output, h.size, h.old⟩
theorem Ext.cell {w w' : World} (h : Ext w w') {a : Addr} {v : Value} (hc : w.cell? a = some v) : w'.cell? a = some v :=
  (World.cell?_of_block (w := w) (h.old a.block (World.block_lt_of_cell? w a hc))).trans hc

/-- Block g holds these cells. -/
def Blk (w : World) (g : Nat) (cs : Array Value) (t : TypeId) : Prop := w.heap[g]? = some (.cells cs t (0, 0))
theorem Blk.lt {w : World} {g : Nat} {cs : Array Value} {t : TypeId} (h : Blk w g cs t) : g < w.heap.size := (Array.getElem?_eq_some_iff.1 h).1
theorem Blk.ext {w w' : World} {g : Nat} {cs : Array Value} {t : TypeId} (h : Blk w g cs t) (e : Ext w w') : Blk w' g cs t := (e.old g h.lt).trans h
theorem Blk.drew {w : World} {g : Nat} {cs : Array Value} {t : TypeId} (h : Blk w g cs t) : Blk w.drew g cs t := h
theorem Blk.cell {w : World} {g : Nat} {cs : Array Value} {t : TypeId} (h : Blk w g cs t) {i : Nat} {v : Value} (hv : cs[i]? = some v) : w.cell? ⟨g, i, none⟩ = some v := by
  rw [cell_of_row w g i cs t (0, 0) h]; exact hv
theorem Blk.range {w : World} {g : Nat} {cs : Array Value} {t : TypeId} (h : Blk w g cs t) : w.rangeAt g 0 cs.toList := by
  intro j v hj
  rw [Nat.zero_add]
  exact h.cell (by simpa using hj)
theorem Blk.fresh (w : World) (cs : Array Value) (t : TypeId) : Blk (w.alloc (.cells cs t)) w.heap.size cs t := heap_alloc_new w _

/-- Where a slice's cells begin. -/
def ab (a : Option Addr) : Nat := (a.getD ⟨0, 0, none⟩).block
def ao (a : Option Addr) : Nat := (a.getD ⟨0, 0, none⟩).off
structure Row (w : World) (a : Option Addr) (cs : List Value) : Prop where
  adr : cs ≠ [] → a = some ⟨ab a, ao a, none⟩
  at_ : w.rangeAt (ab a) (ao a) cs
theorem Row.ext {w w' : World} {a : Option Addr} {cs : List Value} (h : Row w a cs) (e : Ext w w') : Row w' a cs :=
  ⟨h.adr, fun j v hv => e.cell (h.at_ j v hv)⟩
theorem Row.nil (w : World) (a : Option Addr) : Row w a [] := ⟨fun h => absurd rfl h, fun j v hv => by simp at hv⟩
theorem Row.get {w : World} {a : Option Addr} {cs : List Value} (h : Row w a cs) (i : Nat) {v : Value} (hv : cs[i]? = some v) : w.cell? ⟨ab a, ao a + i, none⟩ = some v := h.at_ i v hv
theorem Row.get1 {α : Type} {w : World} {a : Option Addr} {enc : α → Value} {xs : List α} (h : Row w a (xs.map enc)) (z : α) (i : Nat) (hi : i < xs.length) : w.cell? ⟨ab a, ao a + i * 1, none⟩ = some (enc (xs.getD i z)) := by
  rw [Nat.mul_one]
  exact h.at_ i _ (by simp [hi])
theorem Row.ne {w : World} {a : Option Addr} {cs : List Value} (h : Row w a cs) (hl : 0 < cs.length) : a = some ⟨ab a, ao a, none⟩ := h.adr (by intro e; simp [e] at hl)

/-! ### control -/
section control
variable {P : Program} {Q : Exit → Act → World → Prop} {K : Act → World → Prop} {a : Act} {w : World} {n : Nat} {f : Nat → Value}
theorem t_n (h : K a w) : Exit.then K Q .normal a w := h
theorem t_e {i : Nat} (h : Q (.exit i) a w) : Exit.then K Q (.exit i) a w := h
theorem t_r (h : Q .ret a w) : Exit.then K Q .ret a w := h
theorem b_n {i : Nat} (h : Q .normal a w) : Exit.inBlock i Q .normal a w := h
theorem b_hit {i : Nat} (h : Q .normal a w) : Exit.inBlock i Q (.exit i) a w := by show (if i = i then Q .normal a w else Q (.exit i) a w); rw [if_pos rfl]; exact h
theorem b_miss {i j : Nat} (hne : Nat.beq j i = false) (h : Q (.exit j) a w) : Exit.inBlock i Q (.exit j) a w := by
  show (if j = i then Q .normal a w else Q (.exit j) a w)
  rw [if_neg (fun e => by subst e; simp at hne)]; exact h
theorem b_r {i : Nat} (h : Q .ret a w) : Exit.inBlock i Q .ret a w := h

theorem c_seq {x y : Code} (h : Wp P x (Exit.then (Wp P y Q) Q) a w) : Wp P (Code.seq x y) Q a w :=
  ⟨wp_seq (wp_mono h.out fun e a w hq => by cases e <;> first | exact Wp.out hq | exact hq)⟩
theorem c_skip (h : Q .normal a w) : Wp P .skip Q a w := ⟨wp_skip h⟩
theorem c_ret (h : Q .ret a w) : Wp P .ret Q a w := ⟨wp_ret h⟩
theorem c_exit {i : Nat} (h : Q (.exit i) a w) : Wp P (.exit i) Q a w := ⟨wp_exit h⟩
theorem c_block {i : Nat} {c : Code} (h : Wp P c (Exit.inBlock i Q) a w) : Wp P (.block i c) Q a w := ⟨wp_block h.out⟩
theorem c_if {c : Operand} {x y : Code} {b : Bool} (hc : ev n f c = .bool b) (ht : b = true → Wp P x Q (fr n f) w) (hf : b = false → Wp P y Q (fr n f) w) : Wp P (Code.cond c x y) Q (fr n f) w :=
  ⟨wp_cond_split (t := b) (by rw [eval_fr]; exact hc) (fun h => (ht h).out) (fun h => (hf h).out)⟩
theorem c_dec {c : Operand} {x y : Code} {p : Prop} [Decidable p] (hc : ev n f c = .bool (decide p)) (ht : p → Wp P x Q (fr n f) w) (hf : ¬ p → Wp P y Q (fr n f) w) : Wp P (Code.cond c x y) Q (fr n f) w :=
  c_if hc (fun h => ht (of_decide_eq_true h)) (fun h => hf (of_decide_eq_false h))
theorem c_t {c : Operand} {x y : Code} (hc : ev n f c = .bool true) (ht : Wp P x Q (fr n f) w) : Wp P (Code.cond c x y) Q (fr n f) w := c_if hc (fun _ => ht) (fun h => by cases h)
theorem c_f {c : Operand} {x y : Code} (hc : ev n f c = .bool false) (hf : Wp P y Q (fr n f) w) : Wp P (Code.cond c x y) Q (fr n f) w := c_if hc (fun h => by cases h) (fun _ => hf)

/-! frames that have been gone over -/
def hav (f : Nat → Value) (C : List Nat) (g : Nat → Value) : Nat → Value := fun t => bif C.elem t then g t else f t
def updL (f : Nat → Value) : List (Nat × Value) → Nat → Value
  | [] => f
  | (d, v) :: l => upd (updL f l) d v
def hold (f : Nat → Value) : List (Nat × Value) → Prop
  | [] => True
  | (d, v) :: l => f d = v ∧ hold f l
def Agr (C : List Nat) (F f : Nat → Value) : Prop := ∀ t, C.elem t = false → F t = f t
theorem Agr.refl (C : List Nat) (f : Nat → Value) : Agr C f f := fun _ _ => rfl
theorem Agr.hav (C : List Nat) (f g : Nat → Value) : Agr C (hav f C g) f := fun t h => by show (bif C.elem t then g t else f t) = f t; rw [h]; rfl
theorem Agr.upd {C : List Nat} {F f : Nat → Value} {d : Nat} {v : Value} (hd : C.elem d = true) (h : Agr C F f) : Agr C (upd F d v) f := fun t ht => by
  rw [upd_ne (fun e => by subst e; rw [hd] at ht; cases ht)]; exact h t ht
theorem Agr.updL {C : List Nat} {F f : Nat → Value} (h : Agr C F f) : ∀ (l : List (Nat × Value)), (l.all fun x => C.elem x.1) = true → Agr C (updL F l) f
  | [], _ => h
  | (d, v) :: l, hl => by
    simp only [List.all_cons, Bool.and_eq_true] at hl
    exact Agr.upd hl.1 (Agr.updL h l hl.2)
theorem Agr.hav' {C C' : List Nat} {F f g : Nat → Value} (hs : (C'.all fun x => C.elem x) = true) (h : Agr C F f) : Agr C (Eng.hav F C' g) f := fun t ht => by
  have hc : C'.elem t = false := by
    cases hc : C'.elem t
    · rfl
    · have hm : t ∈ C' := by simpa using hc
      have := List.all_eq_true.1 hs t hm
      rw [ht] at this; cases this
  show (bif C'.elem t then g t else F t) = f t
  rw [hc]; exact h t ht
theorem updL_self {F : Nat → Value} : ∀ (l : List (Nat × Value)), hold F l → updL F l = F
  | [], _ => rfl
  | (d, v) :: l, h => by
    have ih := updL_self l h.2
    funext t
    show Eng.upd (updL F l) d v t = F t
    rw [ih]
    by_cases e : t = d
    · subst e; rw [upd_eq]; exact h.1.symm
    · rw [upd_ne e]
theorem hav_self {C : List Nat} {F f : Nat → Value} (h : Agr C F f) : Eng.hav f C F = F := by
  funext t
  show (bif C.elem t then F t else f t) = F t
  cases hc : C.elem t
  · exact (h t hc).symm
  · rfl
theorem frame_eq {C : List Nat} {F f : Nat → Value} {l : List (Nat × Value)} (ha : Agr C F f) (hh : hold F l) : fr n F = fr n (updL (Eng.hav f C F) l) := by
  rw [hav_self ha, updL_self l hh]

/-- What a loop's head, or a cut, says of the frame and of the world. -/
def At (n : Nat) (f : Nat → Value) (C : List Nat) {ι : Type} (L : ι → List (Nat × Value)) (I : ι → World → Prop) (a : Act) (w : World) : Prop := ∃ i F, a = fr n F ∧ Agr C F f ∧ hold F (L i) ∧ I i w
theorem At.mk {C : List Nat} {ι : Type} {L : ι → List (Nat × Value)} {I : ι → World → Prop} {F : Nat → Value} (i : ι) (ha : Agr C F f) (hh : hold F (L i)) (hI : I i w) : At n f C L I (fr n F) w := ⟨i, F, rfl, ha, hh, hI⟩

theorem c_loop {c : Code} {ι : Type} (C : List Nat) (L : ι → List (Nat × Value)) (I : ι → World → Prop) (μ : ι → Nat) (i0 : ι) (hh : hold f (L i0)) (h0 : I i0 w)
    (round : ∀ i g w, I i w → Wp P c (Exit.then (At n f C L fun i' w' => I i' w' ∧ μ i' < μ i) Q) (fr n (updL (Eng.hav f C g) (L i))) w) : Wp P (Code.loop c) Q (fr n f) w := by
  refine ⟨?_⟩
  intro b k cs
  have key : ∀ m i F w, μ i = m → Agr C F f → hold F (L i) → I i w →
      ∃ e a' w', Q e a' w' ∧ Arrives P (lone (b.at (fr n F) (.code c :: .inLoop c :: k)) cs w) b k cs e a' w' := by
    intro m
    induction m using Nat.strongRecOn with
    | _ m ih =>
      intro i F w hm hA hH hI
      have hr := round i F w hI
      rw [← frame_eq (n := n) hA hH] at hr
      obtain ⟨e, a₁, w₁, hq, harr⟩ := hr.out b (.inLoop c :: k) cs
      cases e with
      | normal =>
        obtain ⟨i', F', rfl, hA', hH', hI', hlt⟩ := hq
        obtain ⟨e₂, a₂, w₂, hq₂, harr₂⟩ := ih (μ i') (hm ▸ hlt) i' F' w₁ rfl hA' hH' hI'
        exact ⟨e₂, a₂, w₂, hq₂, .of_steps (Steps.trans harr (.one step_inLoop)) harr₂⟩
      | exit id => exact ⟨_, a₁, w₁, hq, .pass (x := .inLoop c) rfl (fun _ _ => .inl (by simp)) harr⟩
      | goto l => exact ⟨_, a₁, w₁, hq, .pass (x := .inLoop c) rfl (fun _ _ => .inl (by simp)) harr⟩
      | ret => exact ⟨_, a₁, w₁, hq, .pass (x := .inLoop c) rfl (fun _ _ => .inl (by simp)) harr⟩
      | panic ch => exact ⟨_, a₁, w₁, hq, .pass (x := .inLoop c) rfl (fun _ _ => .inl (by simp)) harr⟩
      | outgrown => exact ⟨_, a₁, w₁, hq, .pass (x := .inLoop c) rfl (fun _ _ => .inl (by simp)) harr⟩
  obtain ⟨e, a', w', hq, harr⟩ := key _ i0 f w rfl (Agr.refl _ _) hh h0
  exact ⟨e, a', w', hq, .of_steps (.one step_loop) harr⟩
/-- A cut: what holds behind a piece of code, whichever way was gone. -/
theorem c_cut {c : Code} {ι : Type} (C : List Nat) (L : ι → List (Nat × Value)) (I : ι → World → Prop) (h : Wp P c (Exit.then (At n f C L I) Q) (fr n f) w)
    (k : ∀ i g w, I i w → Q .normal (fr n (updL (Eng.hav f C g) (L i))) w) : Wp P c Q (fr n f) w :=
  ⟨wp_mono h.out fun e a w hq => by
    cases e with
    | normal => obtain ⟨i, F, rfl, hA, hH, hI⟩ := hq; rw [frame_eq (n := n) hA hH]; exact k i F w hI
    | _ => exact hq⟩
end control
end Go.Proofs.Eng
