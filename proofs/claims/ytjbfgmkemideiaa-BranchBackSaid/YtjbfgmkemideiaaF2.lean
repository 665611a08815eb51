import Derived.Test.YtjbfgmkemideiaaF1
import Derived.Laws.ResultCell
import Derived.Test.YtjbfgmkemideiaaP7
set_option linter.unusedVariables false
set_option linter.unusedSimpArgs false
namespace Go.Proofs.Eng
open Go.RowKit
open Extern.Stop (cell)

/-! ### slices by their footprints -/
/-- A slice of plain things in a block of type e that lies in S. -/
structure SlS {α : Type} (enc : α → List Value) (e : TypeId) (S : Nat → Prop) (w : World) (p : Option Addr) (n c : Nat) (xs : List α) : Prop where
  len : xs.length = n
  cap : n ≤ c
  fit : c ≤ 9223372036854775807
  row : Row w p (xs.map enc).flatten
  fp : 0 < n → S (ab p) ∧ ∃ cur, Blk w (ab p) cur e
theorem ty_lt {w : World} {k : Nat} {t : TypeId} (h : ty w k = some t) : k < w.heap.size := by
  rcases Nat.lt_or_ge k w.heap.size with h1 | h1
  · exact h1
  · unfold ty at h; rw [Array.getElem?_eq_none h1] at h; cases h
namespace SlS
theorem ty {α : Type} {enc : α → List Value} {e : TypeId} {S : Nat → Prop} {w : World} {p : Option Addr} {n c : Nat} {xs : List α} (h : SlS enc e S w p n c xs) (hn : 0 < n) : Eng.ty w (ab p) = some e := by
  obtain ⟨cur, hb⟩ := (h.fp hn).2
  exact hb.ty
variable {α : Type} {sz : Nat} {enc : α → List Value} {hl : ∀ x, (enc x).length = sz} {h1 : ∀ x, ∀ v ∈ enc x, v.oneCell' = true}
variable {e : TypeId} {S S' : Nat → Prop} {w w' : World} {p : Option Addr} {n c : Nat} {xs : List α}
theorem pos (h : SlS enc e S w p n c xs) (hne : (xs.map enc).flatten ≠ []) : 0 < n := by
  rw [← h.len]
  cases xs with
  | nil => exact absurd rfl hne
  | cons x xs => simp
theorem sl (h : SlS enc e S w p n c xs) (B : Nat) : Sl (Kind.pure sz enc hl h1) e B w p n c xs :=
  ⟨h.len, h.cap, h.fit, xs.map enc, pure_all B w xs, h.row, fun hne => .inr (h.ty (h.pos hne))⟩
theorem keep (h : SlS enc e S w p n c xs) (hb : 0 < n → w'.heap[ab p]? = w.heap[ab p]?) : SlS enc e S w' p n c xs :=
  ⟨h.len, h.cap, h.fit, h.row.of_block fun hne => hb (h.pos hne), fun hn => ⟨(h.fp hn).1, by obtain ⟨cur, hc⟩ := (h.fp hn).2; exact ⟨cur, (hb hn).trans hc⟩⟩⟩
theorem ext (h : SlS enc e S w p n c xs) (x : Ext w w') : SlS enc e S w' p n c xs := h.keep fun hn => x.old _ (ty_lt (h.ty hn))
theorem mod (h : SlS enc e S w p n c xs) {B' : Nat} {t : TypeId} (m : Mod B' t w w') (_ : 0 ≤ B') (ht : t ≠ e) : SlS enc e S w' p n c xs :=
  h.keep fun hn => m.old _ (ty_lt (h.ty hn)) (.inr (by rw [h.ty hn]; intro q; injection q with q; exact ht q.symm))
theorem put (h : SlS enc e S w p n c xs) {g : Nat} {cs : Array Value} {t : TypeId} (m : Put w w' g cs t) (hg : ¬ S g) : SlS enc e S w' p n c xs :=
  h.keep fun hn => m.old _ fun q => hg (by rw [← q]; exact (h.fp hn).1)
theorem mono (h : SlS enc e S w p n c xs) (hS : ∀ k, k < w.heap.size → S k → S' k) : SlS enc e S' w p n c xs :=
  ⟨h.len, h.cap, h.fit, h.row, fun hn => ⟨hS _ (ty_lt (h.ty hn)) (h.fp hn).1, (h.fp hn).2⟩⟩
theorem ofOwn {B B0 : Nat} (h : Own (Kind.pure sz enc hl h1) e B B0 w p n c xs) : SlS enc e (fun k => B0 ≤ k) w p n c xs := by
  have hs := h.sl
  refine ⟨hs.len, hs.cap, hs.fit, hs.pureRow.row, fun hn => ?_⟩
  obtain ⟨g, cur, css, rfl, h2, h3, _⟩ := h.block hn
  exact ⟨h2, cur, h3⟩
theorem nil (enc : α → List Value) (e : TypeId) (S : Nat → Prop) (w : World) (p : Option Addr) (c : Nat) (hc : c ≤ 9223372036854775807) : SlS enc e S w p 0 c [] :=
  ⟨rfl, Nat.zero_le _, hc, Row.nil _ _, fun h => absurd h (Nat.lt_irrefl _)⟩
end SlS
def hcs' := hcs
theorem SlS.hash {e : TypeId} {S : Nat → Prop} {w : World} {p : Option Addr} {n c : Nat} {xs : List Hash} (h : SlS hcs e S w p n c xs) (B : Nat) : Sl kHash e B w p n c xs := h.sl B
theorem SlS.ofHash {e : TypeId} {B B0 : Nat} {w : World} {p : Option Addr} {n c : Nat} {xs : List Hash} (h : Own kHash e B B0 w p n c xs) : SlS hcs e (fun k => B0 ≤ k) w p n c xs := SlS.ofOwn h

/-! ### branches -/
/-- A branch, as its cells tell it; its heads are what the caller gave. -/
def kBrA : Kind Br where
  sz := 2
  E := [35]
  K := fun B w x cs => ∃ p n c, cs = [.string x.1, .slice p n c] ∧ Sl kHash 35 B w p n c x.2
  len := by rintro _ _ _ _ ⟨p, n, c, rfl, _⟩; rfl
  one := by
    rintro _ _ _ _ ⟨p, n, c, rfl, _⟩ v hv
    simp only [List.mem_cons, List.not_mem_nil, or_false] at hv
    rcases hv with rfl | rfl <;> rfl
  keep := fun hs ⟨p, n, c, h1, h2⟩ => ⟨p, n, c, h1, h2.keep hs⟩
  mono := fun hB ⟨p, n, c, h1, h2⟩ => ⟨p, n, c, h1, h2.mono hB⟩
theorem SlS.same {α : Type} {enc : α → List Value} {e : TypeId} {S : Nat → Prop} {w w' : World} {p : Option Addr} {n c : Nat} {xs : List α} (h : SlS enc e S w p n c xs) {B : Nat} {E : List TypeId} (hs : Same B E w w') (he : e ∈ E) : SlS enc e S w' p n c xs :=
  h.keep fun hn => hs _ (ty_lt (h.ty hn)) (.inr ⟨e, he, h.ty hn⟩)
/-- .. its heads lie in S. -/
def kBr (S : Nat → Prop) : Kind Br where
  sz := 2
  E := [35]
  K := fun _ w x cs => ∃ p n c, cs = [.string x.1, .slice p n c] ∧ SlS hcs 35 S w p n c x.2
  len := by rintro _ _ _ _ ⟨p, n, c, rfl, _⟩; rfl
  one := by
    rintro _ _ _ _ ⟨p, n, c, rfl, _⟩ v hv
    simp only [List.mem_cons, List.not_mem_nil, or_false] at hv
    rcases hv with rfl | rfl <;> rfl
  keep := fun hs ⟨p, n, c, h1, h2⟩ => ⟨p, n, c, h1, h2.same hs (by simp)⟩
  mono := fun hB ⟨p, n, c, h1, h2⟩ => ⟨p, n, c, h1, h2⟩
theorem kBr_pos {S : Nat → Prop} : 0 < (kBr S).sz := Nat.two_pos
theorem kBrA_pos : 0 < kBrA.sz := by decide
def nS : Nat → Prop := fun _ => False
/-- A map's value: heads in S. -/
def vHs (S : Nat → Prop) : VK (List Hash) := ⟨[35], fun _ w x v => ∃ p n c, v = .slice p n c ∧ SlS hcs 35 S w p n c x, fun hs ⟨p, n, c, h1, h2⟩ => ⟨p, n, c, h1, h2.same hs (by simp)⟩, fun _ h => h⟩

section imp
variable {α : Type} {d d' : Kind α} {e : TypeId} {B B' B0 : Nat} {w w' : World} {p : Option Addr} {n c : Nat} {xs : List α}
theorem All.imp2 (hk : ∀ x cs, d.K B w x cs → d'.K B' w' x cs) : ∀ {xs : List α} {css : List (List Value)}, d.All B w xs css → d'.All B' w' xs css
  | [], [], _ => trivial
  | _ :: _, _ :: _, h => ⟨hk _ _ h.1, All.imp2 hk h.2⟩
  | [], _ :: _, h => h.elim
  | _ :: _, [], h => h.elim
theorem Own.imp (h : Own d e B B0 w p n c xs) (hz : d'.sz = d.sz) (hk : ∀ x cs, d.K B w x cs → d'.K B' w' x cs) (hb : ∀ k, p = some ⟨k, 0, none⟩ → k < w.heap.size → w'.heap[k]? = w.heap[k]?) : Own d' e B' B0 w' p n c xs := by
  obtain ⟨css, ha, ho⟩ := h.row
  refine ⟨h.len, css, All.imp2 hk ha, ?_⟩
  rw [hz]
  refine ⟨ho.1, ?_⟩
  rcases ho.2 with hn | ⟨g, cap, cur, h1, h2, h3, h4⟩
  · exact .inl hn
  · injection h1 with e1 e2 e3
    subst e1 e3
    exact .inr ⟨g, c, cur, rfl, h2, (hb g rfl (Array.getElem?_eq_some_iff.1 h3).1).trans h3, h4⟩
theorem Sl.imp (h : Sl d e B w p n c xs) (hB : B ≤ B') (hk : ∀ x cs, d.K B w x cs → d'.K B' w x cs) : Sl d' e B' w p n c xs := by
  obtain ⟨css, ha, hr⟩ := h.row
  exact ⟨h.len, h.cap, h.fit, css, All.imp2 hk ha, hr.mono hB⟩
end imp
section br
variable {S S' : Nat → Prop} {e : TypeId} {B B0 : Nat} {w w' : World} {p : Option Addr} {n c : Nat} {l : List Br}
theorem Sl.brA (h : Sl (kBr S) e B w p n c l) : Sl kBrA e B w p n c l :=
  h.imp (Nat.le_refl _) fun x cs ⟨q, m, c1, h1, h2⟩ => ⟨q, m, c1, h1, h2.hash B⟩
theorem Own.brMono (h : Own (kBr S) e B B0 w p n c l) (hS : ∀ k, k < w.heap.size → S k → S' k) : Own (kBr S') e B B0 w p n c l :=
  h.imp rfl (fun x cs ⟨q, m, c1, h1, h2⟩ => ⟨q, m, c1, h1, h2.mono hS⟩) fun _ _ _ => rfl
theorem Own.brPut (h : Own (kBr S) e B B0 w p n c l) {g : Nat} {cs : Array Value} {t : TypeId} (m : Put w w' g cs t) (hg : ¬ S g) (he : t ≠ e) : Own (kBr S) e B B0 w' p n c l := by
  refine h.imp rfl (fun x cs ⟨q, m', c1, h1, h2⟩ => ⟨q, m', c1, h1, h2.put m hg⟩) fun k hk hlt => m.old k fun q => ?_
  subst q
  rcases h.form with ⟨h1, _⟩ | ⟨g', cur, h1, _, h3, _⟩
  · rw [h1] at hk; cases hk
  · rw [h1] at hk; injection hk with hk; injection hk with hk; subst hk
    have := m.was
    rw [h3.ty] at this
    injection this with this
    exact he this.symm
theorem Sl.brMono (h : Sl (kBr S) e B w p n c l) (hS : ∀ k, k < w.heap.size → S k → S' k) : Sl (kBr S') e B w p n c l :=
  h.imp (Nat.le_refl _) fun x cs ⟨q, m, c1, h1, h2⟩ => ⟨q, m, c1, h1, h2.mono hS⟩
theorem Mp.brMono {r : Nat} {μ : ByteArray → Option (List Hash)} (h : Mp kkStr (vHs S) B B0 w r μ) (hS : ∀ k, k < w.heap.size → S k → S' k) : Mp kkStr (vHs S') B B0 w r μ := by
  obtain ⟨es, clock, m, hm, ht⟩ := h.ex
  have : ∀ {m : List (ByteArray × List Hash)} {es : List MapEntry}, Ents kkStr (vHs S) B w m es → Ents kkStr (vHs S') B w m es := by
    intro m
    induction m with
    | nil => intro es h; cases es; (· trivial); (· exact h.elim)
    | cons x m ih =>
      intro es h
      cases es with
      | nil => exact h.elim
      | cons y es => exact ⟨⟨h.1.1, by obtain ⟨q, k, c1, e1, e2⟩ := h.1.2; exact ⟨q, k, c1, e1, e2.mono hS⟩⟩, ih h.2⟩
  exact ⟨h.low, es, clock, m, ⟨hm.blk, this hm.ents, hm.nd, hm.bnd, hm.bl⟩, ht⟩
theorem Mp.brPut {r : Nat} {μ : ByteArray → Option (List Hash)} (h : Mp kkStr (vHs S) B B0 w r μ) {g : Nat} {cs : Array Value} {t : TypeId} (m : Put w w' g cs t) (hg : ¬ S g) (ht' : t ≠ tMap) : Mp kkStr (vHs S) B B0 w' r μ := by
  obtain ⟨es, clock, l, hm, ht⟩ := h.ex
  have hne : r ≠ g := fun q => by subst q; have := m.was; rw [hm.ty] at this; injection this with this; exact ht' this.symm
  exact ⟨h.low, es, clock, l, ⟨(m.old r hne).trans hm.blk, hm.ents.imp (fun x v hv => by obtain ⟨q, k, c1, e1, e2⟩ := hv; exact ⟨q, k, c1, e1, e2.put m hg⟩), hm.nd, hm.bnd, hm.bl⟩, ht⟩
/-- An element of a slice of branches. -/
theorem Sl.brAt (h : Sl kBrA e B w p n c l) (i : Nat) (hi : i < n) : ∃ q m c1, w.rangeAt (ab p) (ao p + i * 2) [.string (l.getD i default).1, .slice q m c1] ∧ w.cell? ⟨ab p, ao p + i * 2 + 0, none⟩ = some (.string (l.getD i default).1) ∧ w.cell? ⟨ab p, ao p + i * 2 + 1, none⟩ = some (.slice q m c1) ∧ Sl kHash 35 B w q m c1 (l.getD i default).2 := by
  obtain ⟨cs, ⟨q, m, c1, rfl, hs⟩, hr⟩ := h.get default i hi
  exact ⟨q, m, c1, hr, hr 0 _ rfl, hr 1 _ rfl, hs⟩
theorem Sl.brAtS (h : Sl (kBr S) e B w p n c l) (i : Nat) (hi : i < n) : ∃ q m c1, w.rangeAt (ab p) (ao p + i * 2) [.string (l.getD i default).1, .slice q m c1] ∧ w.cell? ⟨ab p, ao p + i * 2 + 0, none⟩ = some (.string (l.getD i default).1) ∧ w.cell? ⟨ab p, ao p + i * 2 + 1, none⟩ = some (.slice q m c1) ∧ SlS hcs 35 S w q m c1 (l.getD i default).2 := by
  obtain ⟨cs, ⟨q, m, c1, rfl, hs⟩, hr⟩ := h.get default i hi
  exact ⟨q, m, c1, hr, hr 0 _ rfl, hr 1 _ rfl, hs⟩
/-- A slice of branches, as append's second argument. -/
theorem src_kind {α : Type} {P : Program} {tx e' : TypeId} {d : Kind α} (hk : P.underlying tx = some (.slice e')) {xs : List α} (h : Sl d e B w p n c xs) (hsz : 0 < d.sz) : ∃ css, d.All B w xs css ∧ Src P d.sz tx (.slice p n c) n css.flatten w := by
  obtain ⟨css, ha, hr⟩ := h.row
  exact ⟨css, ha, src_slice hk hr.row (by rw [ha.flat, h.len]) hsz ha.one⟩
end br
/-- The table: its block, its map. -/
structure Tbl (S : Nat → Prop) (B0 : Nat) (w : World) (g r : Nat) (l : List Br) : Prop where
  blk : Blk w g #[.map (some r)] 124
  map : Mp kkStr (vHs S) 0 B0 w r (asc l)
  rise : RiseN l
  few : l.length ≤ 64
  ok : ∀ x ∈ l, isName x.1 = true ∧ mayB x.2 = true
namespace Tbl
variable {S S' : Nat → Prop} {B0 : Nat} {w w' : World} {g r : Nat} {l : List Br}
theorem ext (h : Tbl S B0 w g r l) (x : Ext w w') : Tbl S B0 w' g r l := ⟨h.blk.ext x, h.map.ext x, h.rise, h.few, h.ok⟩
theorem mod (h : Tbl S B0 w g r l) {B' : Nat} {t : TypeId} (m : Mod B' t w w') (_ : 0 ≤ B') (ht : t ∉ [124, tMap, 35]) : Tbl S B0 w' g r l := by
  refine ⟨h.blk.mod m (fun e => ht (by simp [e])), h.map.mod m (Nat.zero_le _) (fun hc => ?_), h.rise, h.few, h.ok⟩
  simp only [vHs, List.mem_cons, List.not_mem_nil, or_false] at hc ht
  rcases hc with hc | hc <;> simp [hc] at ht
theorem put (h : Tbl S B0 w g r l) {k : Nat} {cs : Array Value} {t : TypeId} (m : Put w w' k cs t) (hg : ¬ S k) (ht : t ∉ [124, tMap]) : Tbl S B0 w' g r l := by
  refine ⟨m.keep h.blk fun e => ?_, h.map.brPut m hg (fun e => ht (by simp [e])), h.rise, h.few, h.ok⟩
  subst e
  have := m.was
  rw [h.blk.ty] at this
  injection this with this
  exact ht (by simp [← this])
theorem mono (h : Tbl S B0 w g r l) (hS : ∀ k, k < w.heap.size → S k → S' k) : Tbl S' B0 w g r l := ⟨h.blk, h.map.brMono hS, h.rise, h.few, h.ok⟩
theorem lower {B1 : Nat} (h : Tbl S B0 w g r l) (hB : B1 ≤ B0) : Tbl S B1 w g r l := ⟨h.blk, h.map.lower hB, h.rise, h.few, h.ok⟩
end Tbl
/-! ### results in cells; pointers -/
theorem and_then_assoc {α β γ : Type} (r : Result α) (g : α → World → Result β) (k : β → World → Result γ) : (r.andThen g).andThen k = r.andThen fun a w => (g a w).andThen k := by cases r <;> rfl
section ends
variable {P : Program} {fn : Func} {R : Value → World → Prop} {n : Nat} {f : Nat → Value} {w : World} {t u : Nat} {T t' : TypeId} {g : Nat} {cs : Array Value} {v : Value}
theorem run_result_cell (hu : (P.underlying T).map TypeDesc.isRow = some true) (hv : ev n f (.tmp t) = .pointer (some ⟨g, 0, none⟩)) (hB : Blk w g cs t') (hi : (P.info? T).map (·.size) = some cs.size) :
    ((asAddr ((fr n f).tmps.getD t undef)).run P w).andThen (fun a w₁ => (loadVar T a).run P w₁) = .ok (.agg cs) w := by
  obtain ⟨d, hu, hd⟩ := Option.map_eq_some_iff.1 hu
  have e1 : (fr n f).tmps.getD t undef = .pointer (some ⟨g, 0, none⟩) := by rw [← hv, ← eval_fr]; rfl
  rw [e1]
  have := run_loadVar_mid w g 0 T cs.toList d hB.range hu hd (by simpa using hi)
  simpa [asAddr] using this
theorem end1c (hr : fn.results = #[.cell t T]) (hu : (P.underlying T).map TypeDesc.isRow = some true) (hv : ev n f (.tmp t) = .pointer (some ⟨g, 0, none⟩)) (hB : Blk w g cs t') (hi : (P.info? T).map (·.size) = some cs.size) (h : R (.agg cs) w) :
    End P fn R .ret (fr n f) w := by
  refine ⟨bodyPost_ret (v := .agg cs) ?_ rfl ⟨_, rfl, h⟩⟩
  have hrun := run_result_cell hu hv hB hi
  simp only [results, hr]
  have e0 : (fr n f).tmps[t]?.getD undef = (fr n f).tmps.getD t undef := by simp
  simp [Sem.run_bind]
  rw [e0]
  exact hrun
theorem end2c (hr : fn.results = #[.cell t T, .tmp u]) (hu : (P.underlying T).map TypeDesc.isRow = some true) (hv : ev n f (.tmp t) = .pointer (some ⟨g, 0, none⟩)) (hx : ev n f (.tmp u) = v) (hB : Blk w g cs t') (hi : (P.info? T).map (·.size) = some cs.size) (h : R (.tuple #[.agg cs, v]) w) :
    End P fn R .ret (fr n f) w := by
  refine ⟨bodyPost_ret (v := .tuple #[.agg cs, v]) ?_ rfl ⟨_, rfl, h⟩⟩
  have hrun := run_result_cell hu hv hB hi
  have e2 : (fr n f).tmps.getD u undef = v := by rw [← hx, ← eval_fr]; rfl
  rw [results_cell_tmp hr, e2, ← and_then_assoc, hrun]
  rfl
end ends
section ptr
variable {P : Program} {n : Nat} {f : Nat → Value} {w : World} {dst : Option Nat} {ty0 : TypeId} {pos : String} {aft : Array Edge} {gd : Option (Nat × Bool)} {x y : Operand} {T T' e k : TypeId}
theorem pointee_of (hT : P.underlying T = some (.pointer e)) : P.underlying T = some (.pointer (P.pointee T)) := by rw [hT]; simp [Program.pointee, hT]
theorem x_eql_ptrnil (hT : P.underlying T = some (.pointer e)) {p : Option Addr} (hx : ev n f x = .pointer p) (hy : ev n f y = .pointer none) : Ex P w n f ⟨dst, .binOp .eql T x y T', ty0, pos, aft, gd⟩ (.bool (decide (p = none))) :=
  ex_bin hx hy guard_ptr (by simp [binOp, run_equal_pointer_nil w T p (pointee_of hT)]; cases p <;> simp)
theorem x_neq_ptrnil (hT : P.underlying T = some (.pointer e)) {p : Option Addr} (hx : ev n f x = .pointer p) (hy : ev n f y = .pointer none) : Ex P w n f ⟨dst, .binOp .neq T x y T', ty0, pos, aft, gd⟩ (.bool (decide (p ≠ none))) :=
  ex_bin hx hy guard_ptr (by simp [binOp, run_equal_pointer_nil w T p (pointee_of hT)]; cases p <;> simp)
theorem x_eql_mapnil (hT : P.underlying T = some (.map k e)) {p : Option Nat} (hx : ev n f x = .map p) (hy : ev n f y = .map none) : Ex P w n f ⟨dst, .binOp .eql T x y T', ty0, pos, aft, gd⟩ (.bool (decide (p = none))) :=
  ex_bin hx hy guard_map (by simp [binOp, run_equal_map_nil w T k e p hT]; cases p <;> simp)
/-- A struct of one cell; of two; of none given. -/
theorem x_build0 {parts : List (Nat × Operand)} {pl : List (Nat × Nat)} {cs : Array Value} (hP : placed P T = some (.agg cs, pl)) (hp : evP n f parts = []) : Ex P w n f ⟨dst, .build T parts.toArray, ty0, pos, aft, gd⟩ (.agg cs) :=
  x_build hP hp (by rfl)
theorem x_build1 {x : Operand} {a z : Value} (hP : placed P T = some (.agg #[z], [(0, 1)])) (hx : ev n f x = a) (ha : a.cells = #[a]) : Ex P w n f ⟨dst, .build T #[(0, x)], ty0, pos, aft, gd⟩ (.agg #[a]) :=
  x_build (parts := [(0, x)]) (ps := [(0, a)]) hP (by rw [← hx]; rfl) (by show Instr.fill _ #[z] _ = _; simp [Instr.fill, ha] <;> rfl)
theorem x_build2 {x y : Operand} {a b z1 z2 : Value} (hP : placed P T = some (.agg #[z1, z2], [(0, 1), (1, 1)])) (hx : ev n f x = a) (hy : ev n f y = b) (ha : a.cells = #[a]) (hb : b.cells = #[b]) : Ex P w n f ⟨dst, .build T #[(0, x), (1, y)], ty0, pos, aft, gd⟩ (.agg #[a, b]) :=
  x_build (parts := [(0, x), (1, y)]) (ps := [(0, a), (1, b)]) hP (by rw [← hx, ← hy]; rfl) (by show Instr.fill _ #[z1, z2] _ = _; simp [Instr.fill, ha, hb] <;> rfl)
end ptr
section callv
variable {P : Program} {ops : Array Oper} {Q : Exit → Act → World → Prop} {rest : List Oper} {n : Nat} {f : Nat → Value} {w : World}
variable {ty : TypeId} {pos : String} {aft : Array Edge} {d : Nat}
/-- A call of a function value. -/
theorem o_callv {g : FuncId} {x : Operand} {oas : List Operand} {ats : Array TypeId} {fn : Func} {vs fs cs all : List Value} {R : Value → World → Prop} (hx : ev n f x = .func (.func g) fs.toArray cs.toArray) (hf : P.funcs[g]? = some fn) (hn : (fn.name == "runtime.NumGoroutine") = false) (hb : fn.body.isNone = false)
    (ha : evL n f oas = vs) (hall : fs ++ vs ++ cs = all) (hc : Ret P g all w R) (k : ∀ v w', R v w' → Lst P ops Q rest (fr n (upd f d v)) w') :
    Lst P ops Q (⟨some d, .call ⟨.value x, oas.toArray, ats⟩, ty, pos, aft, none⟩ :: rest) (fr n f) w :=
  ⟨wpList_plain rfl fun K hK => by
    have hn' : ¬ fn.name = "runtime.NumGoroutine" := by simpa using hn
    have hb' : ¬ fn.body = none := by intro e; rw [e] at hb; cases hb
    have ha' : oas.toArray.map (ev n f) = vs.toArray := by rw [List.map_toArray, evL_map, ha]
    have he : (execOp (ev n f) ⟨some d, .call ⟨.value x, oas.toArray, ats⟩, ty, pos, aft, none⟩).run P w = .ok (.enter g all.toArray) w := by
      subst hall
      simp [execOp, resolve, ha', hx, Deferred.ofValue, invoke, callFunc, hf, hn', hb', Sem.run_bind, Sem.run]
    unfold Oper.wp
    rw [eval_fr, he, Oper.upon_enter]
    refine Calls.mono hc.out fun e w' hr => ?_
    obtain ⟨v, rfl, hv⟩ := hr
    show K ((fr n f).put (some d) v) w'
    rw [put_fr]
    exact hK _ _ (k v w' hv).out⟩
end callv
end Go.Proofs.Eng
