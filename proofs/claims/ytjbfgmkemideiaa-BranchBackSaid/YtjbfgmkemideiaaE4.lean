import Derived.Test.YtjbfgmkemideiaaE3
import Derived.Deep.AppendSrc
import Derived.Deep.DeepAppendWide
set_option linter.unusedVariables false
set_option linter.unusedSimpArgs false
namespace Go.Proofs.Eng
open Go.RowKit

/-! ### which block is of which type; worlds that part in one type's new blocks alone -/
/-- A map's block counts as of a type of its own, an iterator's as of another. -/
def tMap : TypeId := 1000000
def tIter : TypeId := 1000001
def ty (w : World) (k : Nat) : Option TypeId := match w.heap[k]? with | some (.cells _ t _) => some t | some (.map ..) => some tMap | some (.mapIter ..) => some tIter | _ => none
theorem Blk.ty {w : World} {g : Nat} {cs : Array Value} {t : TypeId} (h : Blk w g cs t) : ty w g = some t := by unfold Eng.ty; rw [h]
/-- The blocks below B, and those of the types E, are as they were. -/
def Same (B : Nat) (E : List TypeId) (w w' : World) : Prop := ∀ k, k < w.heap.size → (k < B ∨ ∃ t, t ∈ E ∧ ty w k = some t) → w'.heap[k]? = w.heap[k]?
theorem Ext.same {w w' : World} (h : Ext w w') (B : Nat) (E : List TypeId) : Same B E w w' := fun k hk _ => h.old k hk
theorem Same.sub {B : Nat} {E E' : List TypeId} {w w' : World} (h : Same B E w w') (hE : ∀ t, t ∈ E' → t ∈ E) : Same B E' w w' :=
  fun k hk ho => h k hk (ho.imp id fun ⟨t, ht, e⟩ => ⟨t, hE t ht, e⟩)
theorem ty_of_heap {w w' : World} {k : Nat} (h : w'.heap[k]? = w.heap[k]?) : ty w' k = ty w k := by unfold ty; rw [h]
/-- Only blocks from B on, of type t, may have turned. -/
structure Mod (B : Nat) (t : TypeId) (w w' : World) : Prop where
  size : w.heap.size ≤ w'.heap.size
  old : ∀ k, k < w.heap.size → (k < B ∨ ty w k ≠ some t) → w'.heap[k]? = w.heap[k]?
  tys : ∀ k, k < w.heap.size → ty w' k = ty w k
  drawn : w.drawn ≤ w'.drawn
  os : w'.os = w.os
  tape : w'.tape = w.tape
  output : w'.output = w.output
theorem Mod.refl (B : Nat) (t : TypeId) (w : World) : Mod B t w w := ⟨Nat.le_refl _, fun _ _ _ => rfl, fun _ _ => rfl, Nat.le_refl _, rfl, rfl, rfl⟩
theorem Mod.ofExt {B : Nat} {t : TypeId} {w w' : World} (h : Ext w w') : Mod B t w w' := ⟨h.size, fun k hk _ => h.old k hk, fun k hk => ty_of_heap (h.old k hk), h.drawn, h.os, h.tape, h.output⟩
theorem Mod.trans {B : Nat} {t : TypeId} {a b c : World} (h : Mod B t a b) (k : Mod B t b c) : Mod B t a c :=
  ⟨Nat.le_trans h.size k.size, fun i hi ho => (k.old i (Nat.lt_of_lt_of_le hi h.size) (ho.imp id fun e => by rw [h.tys i hi]; exact e)).trans (h.old i hi ho),
    fun i hi => (k.tys i (Nat.lt_of_lt_of_le hi h.size)).trans (h.tys i hi), Nat.le_trans h.drawn k.drawn, k.os.trans h.os, k.tape.trans h.tape, k.output.trans h.output⟩
theorem Mod.ext {B : Nat} {t : TypeId} {a b c : World} (h : Mod B t a b) (k : Ext b c) : Mod B t a c := h.trans (.ofExt k)
theorem Mod.same {B B' : Nat} {t : TypeId} {w w' : World} (h : Mod B t w w') {E : List TypeId} (hB : B' ≤ B) (hE : t ∉ E) : Same B' E w w' :=
  fun k hk ho => h.old k hk (ho.imp (fun h => by omega) fun ⟨u, hu, e⟩ => by rw [e]; intro e2; injection e2 with e2; subst e2; exact hE hu)
theorem Ext.mod {w0 w w' : World} (h : Ext w0 w) {B : Nat} {t : TypeId} (m : Mod B t w w') (hB : w0.heap.size ≤ B) : Ext w0 w' :=
  ⟨Nat.le_trans h.size m.size, fun k hk => (m.old k (Nat.lt_of_lt_of_le hk h.size) (.inl (by omega))).trans (h.old k hk), m.os.trans h.os, m.tape.trans h.tape, m.output.trans h.output, Nat.le_trans h.drawn m.drawn⟩
theorem Blk.mod {w w' : World} {g : Nat} {cs : Array Value} {u : TypeId} (h : Blk w g cs u) {B : Nat} {t : TypeId} (m : Mod B t w w') (hne : u ≠ t) : Blk w' g cs u :=
  (m.old g h.lt (.inr (by rw [h.ty]; intro e; injection e with e; exact hne e))).trans h
theorem Blk.modB {w w' : World} {g : Nat} {cs : Array Value} {u : TypeId} (h : Blk w g cs u) {B : Nat} {t : TypeId} (m : Mod B t w w') (hg : g < B) : Blk w' g cs u := (m.old g h.lt (.inl hg)).trans h

/-! ### rows and kinds -/
/-- The cells cs lie from p on, in a block below B, or of type e. -/
structure RowIn (B : Nat) (e : TypeId) (w : World) (p : Option Addr) (cs : List Value) : Prop where
  row : Row w p cs
  ok : cs ≠ [] → ab p < B ∨ ty w (ab p) = some e
theorem Row.lt {w : World} {p : Option Addr} {cs : List Value} (h : Row w p cs) (hne : cs ≠ []) : ab p < w.heap.size := by
  cases cs with
  | nil => exact absurd rfl hne
  | cons v r => exact World.block_lt_of_cell? w ⟨ab p, ao p + 0, none⟩ (h.at_ 0 v rfl)
theorem Row.of_block {w w' : World} {p : Option Addr} {cs : List Value} (h : Row w p cs) (hb : cs ≠ [] → w'.heap[ab p]? = w.heap[ab p]?) : Row w' p cs :=
  ⟨h.adr, fun j v hv => by
    have hne : cs ≠ [] := by intro e; rw [e] at hv; simp at hv
    exact (World.cell?_of_block (w := w) (a := ⟨ab p, ao p + j, none⟩) (hb hne)).trans (h.at_ j v hv)⟩
theorem RowIn.keep {B : Nat} {e : TypeId} {E : List TypeId} {w w' : World} {p : Option Addr} {cs : List Value} (h : RowIn B e w p cs) (hs : Same B (e :: E) w w') : RowIn B e w' p cs := by
  have hb : cs ≠ [] → w'.heap[ab p]? = w.heap[ab p]? := fun hne => hs _ (h.row.lt hne) ((h.ok hne).imp id fun e' => ⟨e, by simp, e'⟩)
  exact ⟨h.row.of_block hb, fun hne => (h.ok hne).imp id fun e' => (ty_of_heap (hb hne)).trans e'⟩
theorem RowIn.mono {B B' : Nat} {e : TypeId} {w : World} {p : Option Addr} {cs : List Value} (h : RowIn B e w p cs) (hB : B ≤ B') : RowIn B' e w p cs := ⟨h.row, fun hne => (h.ok hne).imp (fun h => by omega) id⟩
theorem RowIn.nil (B : Nat) (e : TypeId) (w : World) (p : Option Addr) : RowIn B e w p [] := ⟨Row.nil w p, fun h => absurd rfl h⟩
theorem Row.take {w : World} {p : Option Addr} {cs : List Value} (h : Row w p cs) (m : Nat) : Row w p (cs.take m) :=
  ⟨fun hne => h.adr (by intro e; rw [e] at hne; simp at hne), fun j v hv => h.at_ j v (by rw [List.getElem?_take] at hv; split at hv; exact hv; cases hv)⟩
theorem RowIn.take {B : Nat} {e : TypeId} {w : World} {p : Option Addr} {cs : List Value} (h : RowIn B e w p cs) (m : Nat) : RowIn B e w p (cs.take m) := ⟨h.row.take m, fun hne => h.ok (by intro e; rw [e] at hne; simp at hne)⟩
/-- The address m cells on; as 's[k:]' reckons it. -/
def adv (p : Option Addr) (m : Nat) : Option Addr := p.map (·.add m)
theorem ab_adv (p : Option Addr) (m : Nat) : ab (adv p m) = ab p := by
  cases p with
  | none => rfl
  | some a => show (a.add m).block = a.block; unfold Addr.add; split <;> rfl
theorem ao_adv {p : Option Addr} (m : Nat) (h : p ≠ none) : ao (adv p m) = ao p + m := by
  cases p with
  | none => exact absurd rfl h
  | some a => show (a.add m).off = a.off + m; unfold Addr.add; split <;> simp_all
theorem Row.drop {w : World} {p : Option Addr} {cs : List Value} (h : Row w p cs) (m : Nat) : Row w (adv p m) (cs.drop m) := by
  by_cases hc : cs.drop m = []
  · rw [hc]; exact Row.nil _ _
  · have hne : cs ≠ [] := by intro e; rw [e] at hc; simp at hc
    have hp := h.adr hne
    have hp' : p ≠ none := by rw [hp]; simp
    refine ⟨fun _ => ?_, fun j v hv => ?_⟩
    · rw [ab_adv, ao_adv m hp']
      generalize ab p = b at *
      generalize ao p = o at *
      subst hp
      show some (Addr.add _ m) = _
      rw [Addr.add_mid]
    · rw [ab_adv, ao_adv m hp', Nat.add_assoc]
      exact h.at_ (m + j) v (by rw [List.getElem?_drop] at hv; exact hv)
theorem RowIn.drop {B : Nat} {e : TypeId} {w : World} {p : Option Addr} {cs : List Value} (h : RowIn B e w p cs) (m : Nat) : RowIn B e w (adv p m) (cs.drop m) :=
  ⟨h.row.drop m, fun hne => by rw [ab_adv]; exact h.ok (by intro e; rw [e] at hne; simp at hne)⟩

/-- What the cells of a thing say. -/
structure Kind (α : Type) where
  sz : Nat
  E : List TypeId
  K : Nat → World → α → List Value → Prop
  len : ∀ {B w x cs}, K B w x cs → cs.length = sz
  one : ∀ {B w x cs}, K B w x cs → ∀ v ∈ cs, v.oneCell' = true
  keep : ∀ {B w w' x cs}, Same B E w w' → K B w x cs → K B w' x cs
  mono : ∀ {B B' w x cs}, B ≤ B' → K B w x cs → K B' w x cs

variable {α : Type}
def Kind.All (d : Kind α) (B : Nat) (w : World) : List α → List (List Value) → Prop
  | [], [] => True
  | x :: xs, c :: cs => d.K B w x c ∧ d.All B w xs cs
  | _, _ => False
namespace Kind
variable {d : Kind α} {B : Nat} {w w' : World}
theorem All.length : ∀ {xs : List α} {css : List (List Value)}, d.All B w xs css → css.length = xs.length
  | [], [], _ => rfl
  | _ :: _, _ :: _, h => by simp [All.length h.2]
  | [], _ :: _, h => h.elim
  | _ :: _, [], h => h.elim
theorem All.flat : ∀ {xs : List α} {css : List (List Value)}, d.All B w xs css → css.flatten.length = xs.length * d.sz
  | [], [], _ => by simp
  | _ :: _, _ :: _, h => by simp only [List.flatten_cons, List.length_append, d.len h.1, All.flat h.2, List.length_cons, Nat.add_mul, Nat.one_mul]; omega
  | [], _ :: _, h => h.elim
  | _ :: _, [], h => h.elim
theorem All.one : ∀ {xs : List α} {css : List (List Value)}, d.All B w xs css → ∀ v ∈ css.flatten, v.oneCell' = true
  | [], [], _, v, hv => by simp at hv
  | _ :: _, _ :: _, h, v, hv => by
    simp only [List.flatten_cons, List.mem_append] at hv
    rcases hv with hv | hv
    · exact d.one h.1 v hv
    · exact All.one h.2 v hv
  | [], _ :: _, h, _, _ => h.elim
  | _ :: _, [], h, _, _ => h.elim
theorem All.imp {d : Kind α} {B B' : Nat} {w w' : World} (hk : ∀ x cs, d.K B w x cs → d.K B' w' x cs) : ∀ {xs : List α} {css : List (List Value)}, d.All B w xs css → d.All B' w' xs css
  | [], [], _ => trivial
  | _ :: _, _ :: _, h => ⟨hk _ _ h.1, All.imp hk h.2⟩
  | [], _ :: _, h => h.elim
  | _ :: _, [], h => h.elim
theorem All.keep {xs : List α} {css : List (List Value)} (h : d.All B w xs css) (hs : Same B d.E w w') : d.All B w' xs css := h.imp fun _ _ => d.keep hs
theorem All.mono {B' : Nat} {xs : List α} {css : List (List Value)} (h : d.All B w xs css) (hB : B ≤ B') : d.All B' w xs css := h.imp fun _ _ => d.mono hB
theorem All.append : ∀ {xs ys : List α} {css dss : List (List Value)}, d.All B w xs css → d.All B w ys dss → d.All B w (xs ++ ys) (css ++ dss)
  | [], _, [], _, _, k => k
  | _ :: _, _, _ :: _, _, h, k => ⟨h.1, All.append h.2 k⟩
  | [], _, _ :: _, _, h, _ => h.elim
  | _ :: _, _, [], _, h, _ => h.elim
theorem All.take : ∀ {xs : List α} {css : List (List Value)} (m : Nat), d.All B w xs css → d.All B w (xs.take m) (css.take m)
  | [], [], m, _ => by simp [All]
  | _ :: _, _ :: _, 0, _ => trivial
  | _ :: _, _ :: _, m + 1, h => ⟨h.1, All.take m h.2⟩
  | [], _ :: _, _, h => h.elim
  | _ :: _, [], _, h => h.elim
theorem All.drop : ∀ {xs : List α} {css : List (List Value)} (m : Nat), d.All B w xs css → d.All B w (xs.drop m) (css.drop m)
  | [], [], m, _ => by simp [All]
  | _ :: _, _ :: _, 0, h => h
  | _ :: _, _ :: _, m + 1, h => All.drop m h.2
  | [], _ :: _, _, h => h.elim
  | _ :: _, [], _, h => h.elim
theorem All.get (z : α) : ∀ {xs : List α} {css : List (List Value)} {i : Nat}, d.All B w xs css → i < xs.length → d.K B w (xs.getD i z) (css.getD i [])
  | _ :: _, _ :: _, 0, h, _ => h.1
  | x :: xs, c :: css, i + 1, h, hi => by
    simp only [List.getD_cons_succ]
    exact All.get z (xs := xs) (css := css) (i := i) h.2 (by simpa using hi)
  | [], _, _, _, hi => by simp at hi
  | _ :: _, [], _, h, _ => h.elim
theorem All.flat_take : ∀ {xs : List α} {css : List (List Value)} (m : Nat), d.All B w xs css → (css.take m).flatten = css.flatten.take (m * d.sz)
  | [], [], m, _ => by simp
  | _ :: _, c :: css, 0, _ => by simp
  | _ :: _, c :: css, m + 1, h => by
    have hc := d.len h.1
    rw [List.take_succ_cons, List.flatten_cons, List.flatten_cons, All.flat_take m h.2, Nat.add_mul, Nat.one_mul, List.take_append, hc, Nat.add_sub_cancel]
    rw [List.take_of_length_le (by omega : c.length ≤ m * d.sz + d.sz)]
  | [], _ :: _, _, h => h.elim
  | _ :: _, [], _, h => h.elim
theorem All.flat_drop : ∀ {xs : List α} {css : List (List Value)} (m : Nat), d.All B w xs css → (css.drop m).flatten = css.flatten.drop (m * d.sz)
  | [], [], m, _ => by simp
  | _ :: _, c :: css, 0, _ => by simp
  | _ :: _, c :: css, m + 1, h => by
    have hc := d.len h.1
    rw [List.drop_succ_cons, List.flatten_cons, All.flat_drop m h.2, Nat.add_mul, Nat.one_mul, List.drop_append, hc, Nat.add_sub_cancel]
    rw [List.drop_of_length_le (by omega : c.length ≤ m * d.sz + d.sz), List.nil_append]
  | [], _ :: _, _, h => h.elim
  | _ :: _, [], _, h => h.elim
theorem flat_get {css : List (List Value)} {s : Nat} (hs : ∀ c ∈ css, c.length = s) : ∀ {i j : Nat} {v : Value}, (css.getD i [])[j]? = some v → css.flatten[i * s + j]? = some v := by
  induction css with
  | nil => intro i j v h; simp at h
  | cons c css ih =>
    intro i j v h
    have hc := hs c (by simp)
    have ih := @ih (fun c hc => hs c (by simp [hc]))
    cases i with
    | zero =>
      have hj : j < c.length := by
        rcases Nat.lt_or_ge j c.length with h' | h'
        · exact h'
        · simp [List.getElem?_eq_none h'] at h
      simp only [List.getD_cons_zero] at h
      simp only [List.flatten_cons, Nat.zero_mul, Nat.zero_add]
      rw [List.getElem?_append_left hj]; exact h
    | succ i =>
      simp only [List.getD_cons_succ] at h
      rw [List.flatten_cons, List.getElem?_append_right (by rw [Nat.add_mul]; omega)]
      have e : (i + 1) * s + j - c.length = i * s + j := by rw [Nat.add_mul, hc]; omega
      rw [e]; exact ih h
theorem All.lens : ∀ {xs : List α} {css : List (List Value)}, d.All B w xs css → ∀ c ∈ css, c.length = d.sz
  | [], [], _, c, hc => by simp at hc
  | _ :: _, _ :: _, h, c, hc => by
    rcases List.mem_cons.1 hc with rfl | hc
    · exact d.len h.1
    · exact All.lens h.2 c hc
  | [], _ :: _, h, _, _ => h.elim
  | _ :: _, [], h, _, _ => h.elim
end Kind

/-- A slice value reads as xs: its cells from p on, length n, capacity c, in blocks below B or of the types that the kind says. -/
structure Sl (d : Kind α) (e : TypeId) (B : Nat) (w : World) (p : Option Addr) (n c : Nat) (xs : List α) : Prop where
  len : xs.length = n
  cap : n ≤ c
  fit : c ≤ 9223372036854775807
  row : ∃ css, d.All B w xs css ∧ RowIn B e w p css.flatten
namespace Sl
variable {d : Kind α} {e : TypeId} {B : Nat} {w w' : World} {p : Option Addr} {n c : Nat} {xs : List α}
theorem keep (h : Sl d e B w p n c xs) (hs : Same B (e :: d.E) w w') : Sl d e B w' p n c xs := by
  obtain ⟨css, ha, hr⟩ := h.row
  exact ⟨h.len, h.cap, h.fit, css, ha.keep (hs.sub fun t ht => List.mem_cons_of_mem _ ht), hr.keep hs⟩
theorem ext (h : Sl d e B w p n c xs) (hx : Ext w w') : Sl d e B w' p n c xs := h.keep (hx.same B _)
theorem mod (h : Sl d e B w p n c xs) {B' : Nat} {t : TypeId} (m : Mod B' t w w') (hB : B ≤ B') (ht : t ∉ e :: d.E) : Sl d e B w' p n c xs := h.keep (m.same hB ht)
theorem mono {B' : Nat} (h : Sl d e B w p n c xs) (hB : B ≤ B') : Sl d e B' w p n c xs := by
  obtain ⟨css, ha, hr⟩ := h.row
  exact ⟨h.len, h.cap, h.fit, css, ha.mono hB, hr.mono hB⟩
theorem nil (d : Kind α) (e : TypeId) (B : Nat) (w : World) (p : Option Addr) (c : Nat) (hc : c ≤ 9223372036854775807) : Sl d e B w p 0 c [] := ⟨rfl, Nat.zero_le _, hc, [], trivial, RowIn.nil _ _ _ _⟩
theorem adr (h : Sl d e B w p n c xs) (hs : 0 < d.sz) (hn : 0 < n) : p = some ⟨ab p, ao p, none⟩ := by
  obtain ⟨css, ha, hr⟩ := h.row
  refine hr.row.ne ?_
  rw [ha.flat, h.len]
  exact Nat.mul_pos hn hs
theorem get (h : Sl d e B w p n c xs) (z : α) (i : Nat) (hi : i < n) : ∃ cs, d.K B w (xs.getD i z) cs ∧ w.rangeAt (ab p) (ao p + i * d.sz) cs := by
  obtain ⟨css, ha, hr⟩ := h.row
  refine ⟨css.getD i [], ha.get z (by rw [h.len]; exact hi), fun j v hv => ?_⟩
  rw [Nat.add_assoc]
  exact hr.row.at_ _ v (Kind.flat_get ha.lens hv)
theorem take (h : Sl d e B w p n c xs) (m : Nat) (hm : m ≤ n) : Sl d e B w p m c (xs.take m) := by
  obtain ⟨css, ha, hr⟩ := h.row
  have hc := h.cap
  have hl := h.len
  exact ⟨by simp; omega, by omega, h.fit, css.take m, ha.take m, by rw [ha.flat_take]; exact hr.take _⟩
theorem drop (h : Sl d e B w p n c xs) (m : Nat) (hm : m ≤ n) : Sl d e B w (adv p (m * d.sz)) (n - m) (c - m) (xs.drop m) := by
  obtain ⟨css, ha, hr⟩ := h.row
  have hc := h.cap
  have hl := h.len
  have hf := h.fit
  exact ⟨by simp; omega, by omega, by omega, css.drop m, ha.drop m, by rw [ha.flat_drop]; exact hr.drop _⟩
end Sl

/-- A slice of the call's own: the kind's cells lie at the head of a block of type e, from block B0 on; it may be appended to. -/
structure Own (d : Kind α) (e : TypeId) (B B0 : Nat) (w : World) (p : Option Addr) (n c : Nat) (xs : List α) : Prop where
  len : xs.length = n
  row : ∃ css, d.All B w xs css ∧ w.ownsRow B0 e d.sz (.slice p n c) n css.flatten
namespace Own
variable {d : Kind α} {e : TypeId} {B B0 : Nat} {w w' : World} {p : Option Addr} {n c : Nat} {xs : List α}
theorem nil (d : Kind α) (e : TypeId) (B B0 : Nat) (w : World) : Own d e B B0 w none 0 0 [] := ⟨rfl, [], trivial, World.ownsRow_nil _ _ _ _⟩
theorem form (h : Own d e B B0 w p n c xs) : (p = none ∧ n = 0 ∧ c = 0) ∨ ∃ g cur, p = some ⟨g, 0, none⟩ ∧ B0 ≤ g ∧ Blk w g cur e ∧ n ≤ c ∧ c ≤ 9223372036854775807 ∧ cur.size = c * d.sz := by
  obtain ⟨css, ha, ho⟩ := h.row
  rcases ho.2 with ⟨h1, h2⟩ | ⟨g, cap, cur, h1, h2, h3, h4, h5, h6, h7⟩
  · injection h1 with h1 h2 h3; exact .inl ⟨h1, h2, h3⟩
  · injection h1 with e1 e2 e3
    subst e1 e3
    exact .inr ⟨g, cur, rfl, h2, h3, h4, h5, h6⟩
theorem small (h : Own d e B B0 w p n c xs) : n ≤ c ∧ c ≤ 9223372036854775807 := by
  rcases h.form with ⟨_, h1, h2⟩ | ⟨_, _, _, _, _, h1, h2, _⟩
  · omega
  · exact ⟨h1, h2⟩
theorem sl (h : Own d e B B0 w p n c xs) : Sl d e B w p n c xs := by
  obtain ⟨css, ha, ho⟩ := h.row
  refine ⟨h.len, h.small.1, h.small.2, css, ha, ⟨?_, ?_⟩⟩
  · rcases ho.2 with ⟨h1, h2⟩ | ⟨g, cap, cur, h1, h2, h3, h4, h5, h6, h7⟩
    · have : css.flatten = [] := List.eq_nil_of_length_eq_zero (by rw [ho.1, h2, Nat.zero_mul])
      rw [this]; exact Row.nil _ _
    · injection h1 with e1 e2 e3
      subst e1
      refine ⟨fun _ => rfl, fun j v hv => ?_⟩
      have := ho.cells (g := g) rfl j v hv
      have e2 : (⟨g, 0, none⟩ : Addr).add j = ⟨g, 0 + j, none⟩ := Addr.add_mid g 0 j
      rw [e2] at this
      exact this
  · intro hne
    rcases h.form with ⟨_, h1, _⟩ | ⟨g, cur, h1, _, h3, _⟩
    · exact absurd (List.eq_nil_of_length_eq_zero (by rw [ho.1, h1, Nat.zero_mul])) hne
    · right; rw [h1]; exact h3.ty
theorem of_heap (h : Own d e B B0 w p n c xs) (hs : Same B d.E w w') (hb : ∀ k, p = some ⟨k, 0, none⟩ → k < w.heap.size → w'.heap[k]? = w.heap[k]?) : Own d e B B0 w' p n c xs := by
  obtain ⟨css, ha, ho⟩ := h.row
  refine ⟨h.len, css, ha.keep hs, ho.1, ?_⟩
  rcases ho.2 with hn | ⟨g, cap, cur, h1, h2, h3, h4⟩
  · exact .inl hn
  · injection h1 with e1 e2 e3
    subst e1 e3
    exact .inr ⟨g, c, cur, rfl, h2, (hb g rfl (Array.getElem?_eq_some_iff.1 h3).1).trans h3, h4⟩
theorem ext (h : Own d e B B0 w p n c xs) (hx : Ext w w') : Own d e B B0 w' p n c xs := h.of_heap (hx.same _ _) (fun k _ hk => hx.old k hk)
theorem mod (h : Own d e B B0 w p n c xs) {B' : Nat} {t : TypeId} (m : Mod B' t w w') (hB : B ≤ B') (ht : t ∉ e :: d.E) : Own d e B B0 w' p n c xs :=
  h.of_heap (m.same hB (fun hm => ht (List.mem_cons_of_mem _ hm))) (fun k hk hlt => by
    rcases h.form with ⟨h1, _, _⟩ | ⟨g, cur, h1, _, h3, _⟩
    · rw [h1] at hk; cases hk
    · rw [h1] at hk; injection hk with hk; injection hk with hk; subst hk
      exact m.old g hlt (.inr (by rw [h3.ty]; intro e'; injection e' with e'; exact ht (by simp [e']))))
theorem lower {B0' : Nat} (h : Own d e B B0 w p n c xs) (hB : B0' ≤ B0) : Own d e B B0' w p n c xs := by
  obtain ⟨css, ha, ho⟩ := h.row
  refine ⟨h.len, css, ha, ho.1, ?_⟩
  rcases ho.2 with hn | ⟨g, cap, cur, h1, h2, h3⟩
  · exact .inl hn
  · exact .inr ⟨g, cap, cur, h1, by omega, h3⟩
theorem mono {B' : Nat} (h : Own d e B B0 w p n c xs) (hB : B ≤ B') : Own d e B' B0 w p n c xs := by
  obtain ⟨css, ha, ho⟩ := h.row
  exact ⟨h.len, css, ha.mono hB, ho⟩
/-- A block that has just been made. -/
theorem made (d : Kind α) (e : TypeId) (B B0 : Nat) {w w' : World} {g : Nat} {cs : Array Value} (hN : New w w' g cs e) (xs : List α) (css : List (List Value)) (n c : Nat) (hl : xs.length = n) (ha : d.All B w' xs css) (hB : B0 ≤ w.heap.size) (hnc : n ≤ c) (hc : c ≤ 9223372036854775807)
    (hs : cs.size = c * d.sz) (ht : cs.toList.take (n * d.sz) = css.flatten) : Own d e B B0 w' (some ⟨g, 0, none⟩) n c xs :=
  ⟨hl, css, ha, by rw [ha.flat, hl], .inr ⟨g, c, cs, rfl, by rw [hN.g_eq]; exact hB, hN.blk, hnc, hc, hs, ht⟩⟩
end Own

/-! ### runs of stores into one block -/
theorem other_setCells (g : Nat) : ∀ (vs : List Value) (o : Nat) (w : World) (k : Nat), k ≠ g → (w.setCells g o vs).heap[k]? = w.heap[k]?
  | [], _, _, _, _ => rfl
  | v :: r, o, w, k, h => by
    rw [World.setCells, other_setCells g r (o + 1) _ k h]
    exact Below.heap_setCell w ⟨g, o, none⟩ v k h
theorem size_setCells (g : Nat) : ∀ (vs : List Value) (o : Nat) (w : World), (w.setCells g o vs).heap.size = w.heap.size
  | [], _, _ => rfl
  | v :: r, o, w => by rw [World.setCells, size_setCells g r (o + 1)]; simp [World.setCell]
theorem rest_setCells (g : Nat) : ∀ (vs : List Value) (o : Nat) (w : World), (w.setCells g o vs).drawn = w.drawn ∧ (w.setCells g o vs).os = w.os ∧ (w.setCells g o vs).tape = w.tape ∧ (w.setCells g o vs).output = w.output
  | [], _, _ => ⟨rfl, rfl, rfl, rfl⟩
  | v :: r, o, w => by rw [World.setCells]; exact rest_setCells g r (o + 1) _
theorem blk_setCells {g : Nat} {t : TypeId} : ∀ (vs : List Value) (o : Nat) (w : World) (cs : Array Value), Blk w g cs t → o + vs.length ≤ cs.size → Blk (w.setCells g o vs) g (cs.toList.take o ++ vs ++ cs.toList.drop (o + vs.length)).toArray t
  | [], o, w, cs, h, _ => by simpa [World.setCells] using h
  | v :: r, o, w, cs, h, hl => by
    simp only [List.length_cons] at hl
    have h1 : Blk (w.setCell ⟨g, o, none⟩ v) g (cs.setIfInBounds o v) t := heap_setCell_same w g o cs t v h
    have h2 := blk_setCells r (o + 1) _ _ h1 (by simp; omega)
    rw [World.setCells]
    have e : ((cs.setIfInBounds o v).toList.take (o + 1) ++ r ++ (cs.setIfInBounds o v).toList.drop (o + 1 + r.length)) = cs.toList.take o ++ v :: r ++ cs.toList.drop (o + (v :: r).length) := by
      have ho : o < cs.toList.length := by simp; omega
      rw [Array.toList_setIfInBounds, List.take_set, List.drop_set_of_lt (by omega)]
      have e1 : (cs.toList.take (o + 1)).set o v = cs.toList.take o ++ [v] := by
        rw [List.take_succ_eq_append_getElem ho, List.set_append_right _ _ (by simp; omega)]
        have : o - (cs.toList.take o).length = 0 := by simp; omega
        rw [this]; rfl
      rw [e1, List.length_cons, show o + 1 + r.length = o + (r.length + 1) from by omega]
      simp
    rw [← e]; exact h2

/-! ### append -/
/-- What append's second argument brings. -/
def bytesCells (s : ByteArray) : List Value := byteCells s
theorem src_slice {P : Program} {sz : Nat} {tx e' : TypeId} (hk : P.underlying tx = some (.slice e')) {w : World} {p : Option Addr} {m c : Nat} {news : List Value} (hr : Row w p news) (hl : news.length = m * sz) (hsz : 0 < sz) (h1 : ∀ u ∈ news, u.oneCell' = true) :
    Src P sz tx (.slice p m c) m news w := by
  cases p with
  | none =>
    have hn : news = [] := by
      cases news with
      | nil => rfl
      | cons v r => have := hr.adr (by simp); simp [ab, ao] at this
    subst hn
    have hm : m = 0 := by
      rcases Nat.eq_zero_or_pos m with h | h
      · exact h
      · have := Nat.mul_pos h hsz; simp at hl; omega
    subst hm
    exact Src.ofNil w hk c
  | some a =>
    refine Src.ofSlice w hk a m c news hl (fun j u hu => ?_) h1
    have hp := hr.adr (by intro e; rw [e] at hu; simp at hu)
    have := hr.at_ j u hu
    injection hp with hp
    rw [← Addr.add_mid, ← hp] at this
    exact this
section append
variable {P : Program} {ops : Array Oper} {Q : Exit → Act → World → Prop} {rest : List Oper} {N : Nat} {f : Nat → Value} {w : World} {α : Type}
variable {t0 : TypeId} {pos : String} {aft : Array Edge} {dst : Nat} {x y : Operand} {T tx : TypeId}
theorem run_append_any {d : Kind α} {e : TypeId} {B B0 : Nat} {p : Option Addr} {n c m : Nat} {xs ys : List α} {v z : Value} {news : List Value} {bytes : Nat}
    (hT : P.underlying T = some (.slice e)) (hi : (P.info? e).map (fun i => (i.zero, i.size, i.bytes)) = some (some z, d.sz, bytes)) (hz : z.cells.size = d.sz) (hsz : 0 < d.sz)
    (hO : Own d e B B0 w p n c xs) (hs : Src P d.sz tx v m news w) (hl : ys.length = m) {dss : List (List Value)} (ha : d.All B w ys dss) (hn : dss.flatten = news) (hb : ((n + m) + (n + m) / 4 + 192) * bytes ≤ 281474976710656) (hm : n + m ≤ 4611686018427387904)
    (hB0 : B0 ≤ w.heap.size) (hBB : B ≤ B0) (hE : e ∉ d.E) :
    ∃ p' c' w', (Builtin.append_ #[T, tx] t0 #[.slice p n c, v]).run P w = .ok (.slice p' (n + m) c') w' ∧ Own d e B B0 w' p' (n + m) c' (xs ++ ys) ∧ Mod B0 e w w' := by
  obtain ⟨i, hi0, hi1⟩ := Option.map_eq_some_iff.1 hi
  simp only [Prod.mk.injEq] at hi1
  obtain ⟨hiz, his, hib⟩ := hi1
  obtain ⟨css, hxs, ho⟩ := hO.row
  have hlen : (css.flatten ++ news).length = (n + m) * d.sz := by rw [List.length_append, ho.1, hs.newsLen, Nat.add_mul]
  have hbl : ∀ b, b < 9223372036854775808 → True := fun _ _ => trivial
  -- a new row
  have grow : ∀ (base : Option Addr) (sCap : Nat), sCap < n + m → (Builtin.firstCells i.size n (.slice base n sCap)).run P w.drew = .ok css.flatten.toArray w.drew →
      ∃ p' c' w', (Builtin.append_ #[T, tx] t0 #[.slice base n sCap, v]).run P w = .ok (.slice p' (n + m) c') w' ∧ Own d e B B0 w' p' (n + m) c' (xs ++ ys) ∧ Mod B0 e w w' := by
    intro base sCap hg hold
    have hr := run_append_grow_src (P := P) w T tx t0 e i z hT hi0 hiz base n sCap css.flatten hold v m news (by rw [his]; exact hs) hg (by omega) (growslice_fits_wide hg (by rw [hib]; exact hb))
    refine ⟨_, _, _, hr, ?_, ?_⟩
    · have hN : New w.drew (w.drew.alloc (.cells ((css.flatten ++ news).toArray ++ Builtin.zeroCells z.cells (grownCap w (n + m) sCap e - (n + m))) e)) w.drew.heap.size _ e := New.alloc _ _ _
      have hx : Ext w (w.drew.alloc (.cells ((css.flatten ++ news).toArray ++ Builtin.zeroCells z.cells (grownCap w (n + m) sCap e - (n + m))) e)) := (Ext.drew w).trans hN.ext
      have hge := grownCap_ge w (n + m) sCap e
      have hcm : grownCap w (n + m) sCap e ≤ maxLen := grownCap_le_maxLen w (n + m) sCap e (by unfold maxLen; omega)
      refine Own.made d e B B0 hN (xs ++ ys) (css ++ dss) (n + m) _ (by rw [List.length_append, hO.len, hl]) ((hxs.keep (hx.same _ _)).append (ha.keep (hx.same _ _))) hB0 hge (by unfold maxLen at hcm; omega) ?_ ?_
      · simp only [Array.size_append, List.size_toArray, size_zeroCells, hz, hlen, ← Nat.add_mul]
        congr 1; omega
      · rw [Array.toList_append, ← hlen, List.take_left', List.flatten_append, hn]
        simp
    · exact .ofExt ((Ext.drew w).trans (Ext.alloc _ _))
  rcases ho.2 with ⟨h1, h2⟩ | ⟨g, cap, cur, h1, h2, h3, h4, h5, h6, h7⟩
  · injection h1 with e1 e2 e3
    subst e1 e3
    have hcf : css.flatten = [] := List.eq_nil_of_length_eq_zero (by rw [ho.1, h2, Nat.zero_mul])
    by_cases hm0 : m = 0
    · have hy : ys = [] := List.eq_nil_of_length_eq_zero (by rw [hl, hm0])
      have hnews : news = [] := List.eq_nil_of_length_eq_zero (by rw [hs.newsLen, hm0, Nat.zero_mul])
      subst h2 hm0
      refine ⟨none, 0, w, ?_, by rw [hy, List.append_nil]; exact hO, .refl _ _ _⟩
      have hc := hs.cells
      rcases hs.kind with ⟨e', hk⟩ | hk <;> simp [Builtin.append_, run_underlying hT, run_underlying hk, sizeOf, typeInfo, hi0, hs.len, his, hc]
    · refine grow none 0 (by omega) ?_
      rw [hcf]
      have : n = 0 := h2
      subst this
      exact run_firstCells_none w.drew i.size 0 0 0
  · injection h1 with e1 e2 e3
    subst e1 e3
    by_cases hroom : n + m ≤ c
    · have hfit : n * d.sz + news.length ≤ cur.size := by rw [hs.newsLen, h6, ← Nat.add_mul]; exact Nat.mul_le_mul_right _ hroom
      have hB : Blk w g cur e := h3
      have hr := run_append_room_src (P := P) w T tx t0 e i hT hi0 g 0 n c v m news (by rw [his]; exact hs) hroom
        (fun j hj => by
          have hlt : 0 + n * i.size + j < cur.size := by rw [his]; omega
          rw [hB.cell (v := cur[0 + n * i.size + j]) (Array.getElem?_eq_getElem hlt)]; rfl)
        (fun j _ => frozen_of_row w g _ cur e hB)
      rw [his, Nat.zero_add] at hr
      have hnew := blk_setCells news (n * d.sz) w cur hB hfit
      have hmod : Mod B0 e w (w.setCells g (n * d.sz) news) := by
        obtain ⟨r1, r2, r3, r4⟩ := rest_setCells g news (n * d.sz) w
        refine ⟨Nat.le_of_eq (size_setCells g news _ w).symm, fun k hk ho' => other_setCells g news _ w k (fun ek => ?_), fun k hk => ?_, by rw [r1]; exact Nat.le_refl _, r2, r3, r4⟩
        · subst ek
          rcases ho' with ho' | ho'
          · omega
          · exact ho' hB.ty
        · by_cases ek : k = g
          · subst ek; rw [hnew.ty, hB.ty]
          · exact ty_of_heap (other_setCells g news _ w k ek)
      refine ⟨_, _, _, hr, ⟨by rw [List.length_append, hO.len, hl], css ++ dss, (hxs.keep (hmod.same hBB hE)).append (ha.keep (hmod.same hBB hE)), ?_, ?_⟩, hmod⟩
      · rw [List.flatten_append, hn, hlen]
      · refine .inr ⟨g, c, _, rfl, h2, hnew, hroom, h5, ?_, ?_⟩
        · simp only [List.size_toArray, List.length_append, List.length_take, List.length_drop, Array.length_toList]; omega
        · simp only [List.flatten_append, hn]
          rw [h7, ← hlen]
          exact List.take_left
    · refine grow _ _ (by omega) ?_
      rw [his]
      refine run_firstCells_some w.drew d.sz n ⟨g, 0, none⟩ n c css.flatten ho.1 (fun j u hu => ?_)
      have := ho.cells (g := g) rfl j u hu
      simpa using this

theorem o_append {d : Kind α} {e : TypeId} {B B0 : Nat} {p : Option Addr} {n c m : Nat} {xs : List α} {v z : Value} {news : List Value} {bytes : Nat} (ys : List α)
    (hT : P.underlying T = some (.slice e)) (hi : (P.info? e).map (fun i => (i.zero, i.size, i.bytes)) = some (some z, d.sz, bytes)) (hz : z.cells.size = d.sz) (hsz : 0 < d.sz)
    (hx : ev N f x = .slice p n c) (hy : ev N f y = v) (hO : Own d e B B0 w p n c xs) (hs : Src P d.sz tx v m news w) (hl : ys.length = m) {dss : List (List Value)} (ha : d.All B w ys dss) (hn : dss.flatten = news)
    (hb : ((n + m) + (n + m) / 4 + 192) * bytes ≤ 281474976710656) (hm : n + m ≤ 4611686018427387904) (hB0 : B0 ≤ w.heap.size) (hBB : B ≤ B0) (hE : e ∉ d.E)
    (k : ∀ p' c' w', Own d e B B0 w' p' (n + m) c' (xs ++ ys) → Mod B0 e w w' → Lst P ops Q rest (fr N (upd f dst (.slice p' (n + m) c'))) w') :
    Lst P ops Q (⟨some dst, .call ⟨.builtin .append, #[x, y], #[T, tx]⟩, t0, pos, aft, none⟩ :: rest) (fr N f) w := by
  obtain ⟨p', c', w', hr, h1, h2⟩ := run_append_any (t0 := t0) hT hi hz hsz hO hs hl ha hn hb hm hB0 hBB hE
  refine l1 (w' := w') (v := .slice p' (n + m) c') ?_ (k p' c' w' h1 h2)
  simp only [execOp, resolve, invoke, builtin, Sem.run_bind, Sem.run_pure, Result.andThen_ok, List.map_toArray, List.map_cons, List.map_nil, hx, hy, hr]
end append
end Go.Proofs.Eng
