import Derived.Test.YtjbfgmkemideiaaKI1
import Derived.Laws.ResultCell
import Derived.Test.YtjbfgmkemideiaaSort
import Derived.Shelf.SlSortCmp.NoneTotal
import Derived.Laws.Externs
/- Merged: F2 T1 T2 A2 A3 A4 C1 A5 C2 T3 C3 S3 C4 F3 T4 C5 T5 C6 C7 F4 T6 C8 C9 T7 -/
section
set_option linter.unusedVariables false
set_option linter.unusedSimpArgs false
namespace Go.Proofs.Eng
open Go.RowKit
open Extern.Stop (cell)

/-! ### slices by their footprints -/
/-- A slice of plain things in a block of type e that lies in S. -/
structure SlS {α : Type} (enc : α → List Value) (e : TypeId) (S : Nat → Prop) (w : World) (p : Option Addr) (n c : Nat) (xs : List α) : Prop where
  len : xs.length = n
  cap : n ≤ c
  fit : c ≤ 9223372036854775807
  row : Row w p (xs.map enc).flatten
  fp : 0 < n → S (ab p) ∧ ∃ cur, Blk w (ab p) cur e
theorem ty_lt {w : World} {k : Nat} {t : TypeId} (h : ty w k = some t) : k < w.heap.size := by
  rcases Nat.lt_or_ge k w.heap.size with h1 | h1
  · exact h1
  · unfold ty at h; rw [Array.getElem?_eq_none h1] at h; cases h
namespace SlS
theorem ty {α : Type} {enc : α → List Value} {e : TypeId} {S : Nat → Prop} {w : World} {p : Option Addr} {n c : Nat} {xs : List α} (h : SlS enc e S w p n c xs) (hn : 0 < n) : Eng.ty w (ab p) = some e := by
  obtain ⟨cur, hb⟩ := (h.fp hn).2
  exact hb.ty
variable {α : Type} {sz : Nat} {enc : α → List Value} {hl : ∀ x, (enc x).length = sz} {h1 : ∀ x, ∀ v ∈ enc x, v.oneCell' = true}
variable {e : TypeId} {S S' : Nat → Prop} {w w' : World} {p : Option Addr} {n c : Nat} {xs : List α}
theorem pos (h : SlS enc e S w p n c xs) (hne : (xs.map enc).flatten ≠ []) : 0 < n := by
  rw [← h.len]
  cases xs with
  | nil => exact absurd rfl hne
  | cons x xs => simp
theorem sl (h : SlS enc e S w p n c xs) (B : Nat) : Sl (Kind.pure sz enc hl h1) e B w p n c xs :=
  ⟨h.len, h.cap, h.fit, xs.map enc, pure_all B w xs, h.row, fun hne => .inr (h.ty (h.pos hne))⟩
theorem keep (h : SlS enc e S w p n c xs) (hb : 0 < n → w'.heap[ab p]? = w.heap[ab p]?) : SlS enc e S w' p n c xs :=
  ⟨h.len, h.cap, h.fit, h.row.of_block fun hne => hb (h.pos hne), fun hn => ⟨(h.fp hn).1, by obtain ⟨cur, hc⟩ := (h.fp hn).2; exact ⟨cur, (hb hn).trans hc⟩⟩⟩
theorem ext (h : SlS enc e S w p n c xs) (x : Ext w w') : SlS enc e S w' p n c xs := h.keep fun hn => x.old _ (ty_lt (h.ty hn))
theorem mod (h : SlS enc e S w p n c xs) {B' : Nat} {t : TypeId} (m : Mod B' t w w') (_ : 0 ≤ B') (ht : t ≠ e) : SlS enc e S w' p n c xs :=
  h.keep fun hn => m.old _ (ty_lt (h.ty hn)) (.inr (by rw [h.ty hn]; intro q; injection q with q; exact ht q.symm))
theorem mono (h : SlS enc e S w p n c xs) (hS : ∀ k, k < w.heap.size → S k → S' k) : SlS enc e S' w p n c xs :=
  ⟨h.len, h.cap, h.fit, h.row, fun hn => ⟨hS _ (ty_lt (h.ty hn)) (h.fp hn).1, (h.fp hn).2⟩⟩
theorem ofOwn {B B0 : Nat} (h : Own (Kind.pure sz enc hl h1) e B B0 w p n c xs) : SlS enc e (fun k => B0 ≤ k) w p n c xs := by
  have hs := h.sl
  refine ⟨hs.len, hs.cap, hs.fit, hs.pureRow.row, fun hn => ?_⟩
  obtain ⟨g, cur, css, rfl, h2, h3, _⟩ := h.block hn
  exact ⟨h2, cur, h3⟩
theorem nil (enc : α → List Value) (e : TypeId) (S : Nat → Prop) (w : World) (p : Option Addr) (c : Nat) (hc : c ≤ 9223372036854775807) : SlS enc e S w p 0 c [] :=
  ⟨rfl, Nat.zero_le _, hc, Row.nil _ _, fun h => absurd h (Nat.lt_irrefl _)⟩
end SlS
theorem SlS.hash {e : TypeId} {S : Nat → Prop} {w : World} {p : Option Addr} {n c : Nat} {xs : List Hash} (h : SlS hcs e S w p n c xs) (B : Nat) : Sl kHash e B w p n c xs := h.sl B
theorem SlS.ofHash {e : TypeId} {B B0 : Nat} {w : World} {p : Option Addr} {n c : Nat} {xs : List Hash} (h : Own kHash e B B0 w p n c xs) : SlS hcs e (fun k => B0 ≤ k) w p n c xs := SlS.ofOwn h

/-! ### branches -/
/-- A branch, as its cells tell it; its heads are what the caller gave. -/
def kBrA : Kind Br where
  sz := 2
  E := [35]
  K := fun B w x cs => ∃ p n c, cs = [.string x.1, .slice p n c] ∧ Sl kHash 35 B w p n c x.2
  len := by rintro _ _ _ _ ⟨p, n, c, rfl, _⟩; rfl
  one := by
    rintro _ _ _ _ ⟨p, n, c, rfl, _⟩ v hv
    simp only [List.mem_cons, List.not_mem_nil, or_false] at hv
    rcases hv with rfl | rfl <;> rfl
  keep := fun hs ⟨p, n, c, h1, h2⟩ => ⟨p, n, c, h1, h2.keep hs⟩
  mono := fun hB ⟨p, n, c, h1, h2⟩ => ⟨p, n, c, h1, h2.mono hB⟩
theorem SlS.same {α : Type} {enc : α → List Value} {e : TypeId} {S : Nat → Prop} {w w' : World} {p : Option Addr} {n c : Nat} {xs : List α} (h : SlS enc e S w p n c xs) {B : Nat} {E : List TypeId} (hs : Same B E w w') (he : e ∈ E) : SlS enc e S w' p n c xs :=
  h.keep fun hn => hs _ (ty_lt (h.ty hn)) (.inr ⟨e, he, h.ty hn⟩)
/-- .. its heads lie in S. -/
def kBr (S : Nat → Prop) : Kind Br where
  sz := 2
  E := [35]
  K := fun _ w x cs => ∃ p n c, cs = [.string x.1, .slice p n c] ∧ SlS hcs 35 S w p n c x.2
  len := by rintro _ _ _ _ ⟨p, n, c, rfl, _⟩; rfl
  one := by
    rintro _ _ _ _ ⟨p, n, c, rfl, _⟩ v hv
    simp only [List.mem_cons, List.not_mem_nil, or_false] at hv
    rcases hv with rfl | rfl <;> rfl
  keep := fun hs ⟨p, n, c, h1, h2⟩ => ⟨p, n, c, h1, h2.same hs (by simp)⟩
  mono := fun hB ⟨p, n, c, h1, h2⟩ => ⟨p, n, c, h1, h2⟩
theorem kBr_pos {S : Nat → Prop} : 0 < (kBr S).sz := Nat.two_pos
theorem kBrA_pos : 0 < kBrA.sz := by decide
def nS : Nat → Prop := fun _ => False
/-- A map's value: heads in S. -/
def vHs (S : Nat → Prop) : VK (List Hash) := ⟨[35], fun _ w x v => ∃ p n c, v = .slice p n c ∧ SlS hcs 35 S w p n c x, fun hs ⟨p, n, c, h1, h2⟩ => ⟨p, n, c, h1, h2.same hs (by simp)⟩, fun _ h => h⟩

section imp
variable {α : Type} {d d' : Kind α} {e : TypeId} {B B' B0 : Nat} {w w' : World} {p : Option Addr} {n c : Nat} {xs : List α}
theorem All.imp2 (hk : ∀ x cs, d.K B w x cs → d'.K B' w' x cs) : ∀ {xs : List α} {css : List (List Value)}, d.All B w xs css → d'.All B' w' xs css
  | [], [], _ => trivial
  | _ :: _, _ :: _, h => ⟨hk _ _ h.1, All.imp2 hk h.2⟩
  | [], _ :: _, h => h.elim
  | _ :: _, [], h => h.elim
theorem Own.imp (h : Own d e B B0 w p n c xs) (hz : d'.sz = d.sz) (hk : ∀ x cs, d.K B w x cs → d'.K B' w' x cs) (hb : ∀ k, p = some ⟨k, 0, none⟩ → k < w.heap.size → w'.heap[k]? = w.heap[k]?) : Own d' e B' B0 w' p n c xs := by
  obtain ⟨css, ha, ho⟩ := h.row
  refine ⟨h.len, css, All.imp2 hk ha, ?_⟩
  rw [hz]
  refine ⟨ho.1, ?_⟩
  rcases ho.2 with hn | ⟨g, cap, cur, h1, h2, h3, h4⟩
  · exact .inl hn
  · injection h1 with e1 e2 e3
    subst e1 e3
    exact .inr ⟨g, c, cur, rfl, h2, (hb g rfl (Array.getElem?_eq_some_iff.1 h3).1).trans h3, h4⟩
theorem Sl.imp (h : Sl d e B w p n c xs) (hB : B ≤ B') (hk : ∀ x cs, d.K B w x cs → d'.K B' w x cs) : Sl d' e B' w p n c xs := by
  obtain ⟨css, ha, hr⟩ := h.row
  exact ⟨h.len, h.cap, h.fit, css, All.imp2 hk ha, hr.mono hB⟩
end imp
section br
variable {S S' : Nat → Prop} {e : TypeId} {B B0 : Nat} {w w' : World} {p : Option Addr} {n c : Nat} {l : List Br}
theorem Sl.brA (h : Sl (kBr S) e B w p n c l) : Sl kBrA e B w p n c l :=
  h.imp (Nat.le_refl _) fun x cs ⟨q, m, c1, h1, h2⟩ => ⟨q, m, c1, h1, h2.hash B⟩
theorem Own.brMono (h : Own (kBr S) e B B0 w p n c l) (hS : ∀ k, k < w.heap.size → S k → S' k) : Own (kBr S') e B B0 w p n c l :=
  h.imp rfl (fun x cs ⟨q, m, c1, h1, h2⟩ => ⟨q, m, c1, h1, h2.mono hS⟩) fun _ _ _ => rfl
theorem Sl.brMono (h : Sl (kBr S) e B w p n c l) (hS : ∀ k, k < w.heap.size → S k → S' k) : Sl (kBr S') e B w p n c l :=
  h.imp (Nat.le_refl _) fun x cs ⟨q, m, c1, h1, h2⟩ => ⟨q, m, c1, h1, h2.mono hS⟩
theorem Mp.brMono {r : Nat} {μ : ByteArray → Option (List Hash)} (h : Mp kkStr (vHs S) B B0 w r μ) (hS : ∀ k, k < w.heap.size → S k → S' k) : Mp kkStr (vHs S') B B0 w r μ := by
  obtain ⟨es, clock, m, hm, ht⟩ := h.ex
  have : ∀ {m : List (ByteArray × List Hash)} {es : List MapEntry}, Ents kkStr (vHs S) B w m es → Ents kkStr (vHs S') B w m es := by
    intro m
    induction m with
    | nil => intro es h; cases es; (· trivial); (· exact h.elim)
    | cons x m ih =>
      intro es h
      cases es with
      | nil => exact h.elim
      | cons y es => exact ⟨⟨h.1.1, by obtain ⟨q, k, c1, e1, e2⟩ := h.1.2; exact ⟨q, k, c1, e1, e2.mono hS⟩⟩, ih h.2⟩
  exact ⟨h.low, es, clock, m, ⟨hm.blk, this hm.ents, hm.nd, hm.bnd, hm.bl⟩, ht⟩
/-- An element of a slice of branches. -/
theorem Sl.brAt (h : Sl kBrA e B w p n c l) (i : Nat) (hi : i < n) : ∃ q m c1, w.rangeAt (ab p) (ao p + i * 2) [.string (l.getD i default).1, .slice q m c1] ∧ w.cell? ⟨ab p, ao p + i * 2 + 0, none⟩ = some (.string (l.getD i default).1) ∧ w.cell? ⟨ab p, ao p + i * 2 + 1, none⟩ = some (.slice q m c1) ∧ Sl kHash 35 B w q m c1 (l.getD i default).2 := by
  obtain ⟨cs, ⟨q, m, c1, rfl, hs⟩, hr⟩ := h.get default i hi
  exact ⟨q, m, c1, hr, hr 0 _ rfl, hr 1 _ rfl, hs⟩
/-- A slice of branches, as append's second argument. -/
theorem src_kind {α : Type} {P : Program} {tx e' : TypeId} {d : Kind α} (hk : P.underlying tx = some (.slice e')) {xs : List α} (h : Sl d e B w p n c xs) (hsz : 0 < d.sz) : ∃ css, d.All B w xs css ∧ Src P d.sz tx (.slice p n c) n css.flatten w := by
  obtain ⟨css, ha, hr⟩ := h.row
  exact ⟨css, ha, src_slice hk hr.row (by rw [ha.flat, h.len]) hsz ha.one⟩
end br
/-- The table: its block, its map. -/
structure Tbl (S : Nat → Prop) (B0 : Nat) (w : World) (g r : Nat) (l : List Br) : Prop where
  blk : Blk w g #[.map (some r)] 124
  map : Mp kkStr (vHs S) 0 B0 w r (asc l)
  rise : RiseN l
  few : l.length ≤ 64
  ok : ∀ x ∈ l, isName x.1 = true ∧ mayB x.2 = true
namespace Tbl
variable {S S' : Nat → Prop} {B0 : Nat} {w w' : World} {g r : Nat} {l : List Br}
theorem ext (h : Tbl S B0 w g r l) (x : Ext w w') : Tbl S B0 w' g r l := ⟨h.blk.ext x, h.map.ext x, h.rise, h.few, h.ok⟩
theorem mod (h : Tbl S B0 w g r l) {B' : Nat} {t : TypeId} (m : Mod B' t w w') (_ : 0 ≤ B') (ht : t ∉ [124, tMap, 35]) : Tbl S B0 w' g r l := by
  refine ⟨h.blk.mod m (fun e => ht (by simp [e])), h.map.mod m (Nat.zero_le _) (fun hc => ?_), h.rise, h.few, h.ok⟩
  simp only [vHs, List.mem_cons, List.not_mem_nil, or_false] at hc ht
  rcases hc with hc | hc <;> simp [hc] at ht
theorem mono (h : Tbl S B0 w g r l) (hS : ∀ k, k < w.heap.size → S k → S' k) : Tbl S' B0 w g r l := ⟨h.blk, h.map.brMono hS, h.rise, h.few, h.ok⟩
end Tbl
/-! ### results in cells; pointers -/
theorem and_then_assoc {α β γ : Type} (r : Result α) (g : α → World → Result β) (k : β → World → Result γ) : (r.andThen g).andThen k = r.andThen fun a w => (g a w).andThen k := by cases r <;> rfl
section ends
variable {P : Program} {fn : Func} {R : Value → World → Prop} {n : Nat} {f : Nat → Value} {w : World} {t u : Nat} {T t' : TypeId} {g : Nat} {cs : Array Value} {v : Value}
theorem run_result_cell (hu : (P.underlying T).map TypeDesc.isRow = some true) (hv : ev n f (.tmp t) = .pointer (some ⟨g, 0, none⟩)) (hB : Blk w g cs t') (hi : (P.info? T).map (·.size) = some cs.size) :
    ((asAddr ((fr n f).tmps.getD t undef)).run P w).andThen (fun a w₁ => (loadVar T a).run P w₁) = .ok (.agg cs) w := by
  obtain ⟨d, hu, hd⟩ := Option.map_eq_some_iff.1 hu
  have e1 : (fr n f).tmps.getD t undef = .pointer (some ⟨g, 0, none⟩) := by rw [← hv, ← eval_fr]; rfl
  rw [e1]
  have := run_loadVar_mid w g 0 T cs.toList d hB.range hu hd (by simpa using hi)
  simpa [asAddr] using this
theorem end1c (hr : fn.results = #[.cell t T]) (hu : (P.underlying T).map TypeDesc.isRow = some true) (hv : ev n f (.tmp t) = .pointer (some ⟨g, 0, none⟩)) (hB : Blk w g cs t') (hi : (P.info? T).map (·.size) = some cs.size) (h : R (.agg cs) w) :
    End P fn R .ret (fr n f) w := by
  refine ⟨bodyPost_ret (v := .agg cs) ?_ rfl ⟨_, rfl, h⟩⟩
  have hrun := run_result_cell hu hv hB hi
  simp only [results, hr]
  have e0 : (fr n f).tmps[t]?.getD undef = (fr n f).tmps.getD t undef := by simp
  simp [Sem.run_bind]
  rw [e0]
  exact hrun
theorem end2c (hr : fn.results = #[.cell t T, .tmp u]) (hu : (P.underlying T).map TypeDesc.isRow = some true) (hv : ev n f (.tmp t) = .pointer (some ⟨g, 0, none⟩)) (hx : ev n f (.tmp u) = v) (hB : Blk w g cs t') (hi : (P.info? T).map (·.size) = some cs.size) (h : R (.tuple #[.agg cs, v]) w) :
    End P fn R .ret (fr n f) w := by
  refine ⟨bodyPost_ret (v := .tuple #[.agg cs, v]) ?_ rfl ⟨_, rfl, h⟩⟩
  have hrun := run_result_cell hu hv hB hi
  have e2 : (fr n f).tmps.getD u undef = v := by rw [← hx, ← eval_fr]; rfl
  rw [results_cell_tmp hr, e2, ← and_then_assoc, hrun]
  rfl
end ends
section ptr
variable {P : Program} {n : Nat} {f : Nat → Value} {w : World} {dst : Option Nat} {ty0 : TypeId} {pos : String} {aft : Array Edge} {gd : Option (Nat × Bool)} {x y : Operand} {T T' e k : TypeId}
/-- A struct of one cell; of two; of none given. -/
theorem x_build0 {parts : List (Nat × Operand)} {pl : List (Nat × Nat)} {cs : Array Value} (hP : placed P T = some (.agg cs, pl)) (hp : evP n f parts = []) : Ex P w n f ⟨dst, .build T parts.toArray, ty0, pos, aft, gd⟩ (.agg cs) :=
  x_build hP hp (by rfl)
theorem x_build1 {x : Operand} {a z : Value} (hP : placed P T = some (.agg #[z], [(0, 1)])) (hx : ev n f x = a) (ha : a.cells = #[a]) : Ex P w n f ⟨dst, .build T #[(0, x)], ty0, pos, aft, gd⟩ (.agg #[a]) :=
  x_build (parts := [(0, x)]) (ps := [(0, a)]) hP (by rw [← hx]; rfl) (by show Instr.fill _ #[z] _ = _; simp [Instr.fill, ha] <;> rfl)
theorem x_build2 {x y : Operand} {a b z1 z2 : Value} (hP : placed P T = some (.agg #[z1, z2], [(0, 1), (1, 1)])) (hx : ev n f x = a) (hy : ev n f y = b) (ha : a.cells = #[a]) (hb : b.cells = #[b]) : Ex P w n f ⟨dst, .build T #[(0, x), (1, y)], ty0, pos, aft, gd⟩ (.agg #[a, b]) :=
  x_build (parts := [(0, x), (1, y)]) (ps := [(0, a), (1, b)]) hP (by rw [← hx, ← hy]; rfl) (by show Instr.fill _ #[z1, z2] _ = _; simp [Instr.fill, ha, hb] <;> rfl)
end ptr
section callv
variable {P : Program} {ops : Array Oper} {Q : Exit → Act → World → Prop} {rest : List Oper} {n : Nat} {f : Nat → Value} {w : World}
variable {ty : TypeId} {pos : String} {aft : Array Edge} {d : Nat}
/-- A call of a function value. -/
theorem o_callv {g : FuncId} {x : Operand} {oas : List Operand} {ats : Array TypeId} {fn : Func} {vs fs cs all : List Value} {R : Value → World → Prop} (hx : ev n f x = .func (.func g) fs.toArray cs.toArray) (hf : P.funcs[g]? = some fn) (hn : (fn.name == "runtime.NumGoroutine") = false) (hb : fn.body.isNone = false)
    (ha : evL n f oas = vs) (hall : fs ++ vs ++ cs = all) (hc : Ret P g all w R) (k : ∀ v w', R v w' → Lst P ops Q rest (fr n (upd f d v)) w') :
    Lst P ops Q (⟨some d, .call ⟨.value x, oas.toArray, ats⟩, ty, pos, aft, none⟩ :: rest) (fr n f) w :=
  ⟨wpList_plain rfl fun K hK => by
    have hn' : ¬ fn.name = "runtime.NumGoroutine" := by simpa using hn
    have hb' : ¬ fn.body = none := by intro e; rw [e] at hb; cases hb
    have ha' : oas.toArray.map (ev n f) = vs.toArray := by rw [List.map_toArray, evL_map, ha]
    have he : (execOp (ev n f) ⟨some d, .call ⟨.value x, oas.toArray, ats⟩, ty, pos, aft, none⟩).run P w = .ok (.enter g all.toArray) w := by
      subst hall
      simp [execOp, resolve, ha', hx, Deferred.ofValue, invoke, callFunc, hf, hn', hb', Sem.run_bind, Sem.run]
    unfold Oper.wp
    rw [eval_fr, he, Oper.upon_enter]
    refine Calls.mono hc.out fun e w' hr => ?_
    obtain ⟨v, rfl, hv⟩ := hr
    show K ((fr n f).put (some d) v) w'
    rw [put_fr]
    exact hK _ _ (k v w' hv).out⟩
end callv
end Go.Proofs.Eng
end
section
set_option linter.unusedVariables false
set_option linter.unusedSimpArgs false
set_option maxRecDepth 100000
set_option maxHeartbeats 4000000
namespace Go.Proofs.Eng
open Go.RowKit
open Extern.Stop (cell)
theorem fb106 : Try.f106.body.isNone = false := by kernel_rfl
theorem fb126 : Try.f126.body.isNone = false := by kernel_rfl
theorem fb56 : Try.f56.body.isNone = false := by kernel_rfl
theorem fn106 : (Try.f106.name == "runtime.NumGoroutine") = false := by kernel_rfl
theorem fn126 : (Try.f126.name == "runtime.NumGoroutine") = false := by kernel_rfl
theorem fn56 : (Try.f56.name == "runtime.NumGoroutine") = false := by kernel_rfl
theorem inf31 : (Try.prog.info? 31).map (fun i => (i.zero, i.size, i.bytes)) = some (some (.slice none 0 0), 1, 24) := by kernel_rfl
theorem sz31 : (Try.prog.info? 31).map (·.size) = some 1 := by kernel_rfl
theorem u151 : Try.prog.underlying 151 = some (.slice 31) := by kernel_rfl
theorem un31 : (Try.prog.underlying 31).map TypeDesc.isRow = some false := by kernel_rfl
theorem zr4 : (Try.prog.info? 4).map (·.zero) = some (some (.bool false)) := by kernel_rfl
end Go.Proofs.Eng
end
section
set_option linter.unusedVariables false
set_option linter.unusedSimpArgs false
set_option maxRecDepth 100000
set_option maxHeartbeats 4000000
namespace Go.Proofs.Eng
open Go.RowKit
open Extern.Stop (cell)
theorem fb102 : Try.f102.body.isNone = false := by kernel_rfl
theorem fb114 : Try.f114.body.isNone = false := by kernel_rfl
theorem fb115 : Try.f115.body.isNone = false := by kernel_rfl
theorem fn102 : (Try.f102.name == "runtime.NumGoroutine") = false := by kernel_rfl
theorem fn114 : (Try.f114.name == "runtime.NumGoroutine") = false := by kernel_rfl
theorem fn115 : (Try.f115.name == "runtime.NumGoroutine") = false := by kernel_rfl
theorem fo124_0 : fieldOf Try.prog 124 0 = some (122, 0) := by kernel_rfl
theorem fo70_0 : fieldOf Try.prog 70 0 = some (30, 0) := by kernel_rfl
theorem fo81_0 : fieldOf Try.prog 81 0 = some (9, 0) := by kernel_rfl
theorem fo81_1 : fieldOf Try.prog 81 1 = some (31, 1) := by kernel_rfl
theorem inf81 : (Try.prog.info? 81).map (fun i => (i.zero, i.size, i.bytes)) = some (some (.agg #[.string ByteArray.empty, .slice none 0 0]), 2, 40) := by kernel_rfl
theorem pl124 : placed Try.prog 124 = some (.agg #[.map none], [(0, 1)]) := by kernel_rfl
theorem pl70 : placed Try.prog 70 = some (.agg #[.slice none 0 0], [(0, 1)]) := by kernel_rfl
theorem pl81 : placed Try.prog 81 = some (.agg #[.string ByteArray.empty, .slice none 0 0], [(0, 1), (1, 1)]) := by kernel_rfl
theorem sz122 : (Try.prog.info? 122).map (·.size) = some 1 := by kernel_rfl
theorem sz30 : (Try.prog.info? 30).map (·.size) = some 1 := by kernel_rfl
theorem sz70 : (Try.prog.info? 70).map (·.size) = some 1 := by kernel_rfl
theorem sz81 : (Try.prog.info? 81).map (·.size) = some 2 := by kernel_rfl
theorem sz9 : (Try.prog.info? 9).map (·.size) = some 1 := by kernel_rfl
theorem u122 : Try.prog.underlying 122 = some (.map 9 31) := by kernel_rfl
theorem u30 : Try.prog.underlying 30 = some (.slice 81) := by kernel_rfl
theorem ua70 : (Try.prog.underlying 70).map TypeDesc.isRow = some true := by kernel_rfl
theorem un122 : (Try.prog.underlying 122).map TypeDesc.isRow = some false := by kernel_rfl
theorem un30 : (Try.prog.underlying 30).map TypeDesc.isRow = some false := by kernel_rfl
theorem un9 : (Try.prog.underlying 9).map TypeDesc.isRow = some false := by kernel_rfl
theorem zr70 : (Try.prog.info? 70).map (·.zero) = some (some (.agg #[.slice none 0 0])) := by kernel_rfl
end Go.Proofs.Eng
end
section
set_option linter.unusedVariables false
set_option linter.unusedSimpArgs false
set_option maxRecDepth 100000
set_option maxHeartbeats 4000000
namespace Go.Proofs.Eng
open Go.RowKit
open Extern.Stop (cell)
theorem hashes_Name (s : ByteArray) (w : World) (hs : s.size ≤ 9223372036854775807) :
    Ret Try.prog 31 [.string s] w (fun v w' => v = .bool (isName s) ∧ Ext w w') := by
  have hX := Ext.refl w
  refine enter 51 _ Try.func31 rfl rfl (Nat.le_of_ble_eq_true rfl) ?_
  refine c_seq ?_
  refine r_plain ?_
  refine p1 (x_assign (by conv => lhs; whnf)) ?_
  refine r_nil ?_
  refine t_n ?_
  refine c_seq ?_
  refine c_seq ?_
  have hWr1 := Ext.refl w
  refine c_cut (ι := Unit) [5, 6, 7, 8, 9, 10, 11, 12, 13, 14, 15, 16] (fun _ => [(16, .bool (decide (s.size = 0 ∨ 32 < s.size ∨ s = ⟨#[45]⟩)))]) (fun _ w' => Ext w w') ?_ ?_
  · skip
    refine r_plain ?_
    refine p1 (x_move (by conv => lhs; whnf)) ?_
    refine p1 (x_len_str u9 rfl) ?_
    refine p1 (x_eql rfl rfl) ?_
    refine p1b (x_move (by conv => lhs; whnf)) (fun hb1_3 => ?_) (fun hb1_3 => ?_)
    · try simp only [decide_eq_true_eq, decide_eq_false_iff_not, Bool.not_eq_true, Bool.not_eq_false, Bool.not_eq_eq_eq_not, Bool.not_true, Bool.not_false, Int.not_lt, Int.not_le] at hb1_3
      refine g0 8 rfl (by first | exact .inl rfl | exact .inr rfl) ?_
      refine g0 8 rfl (by first | exact .inl rfl | exact .inr rfl) ?_
      refine g0 8 rfl (by first | exact .inl rfl | exact .inr rfl) ?_
      refine p1 (x_pick_t rfl (by conv => lhs; whnf)) ?_
      refine p1 (x_move (by conv => lhs; whnf)) ?_
      refine g0 13 rfl (by first | exact .inl rfl | exact .inr rfl) ?_
      refine g0 13 rfl (by first | exact .inl rfl | exact .inr rfl) ?_
      refine p1 (x_pick_t rfl (by conv => lhs; whnf)) ?_
      refine r_nil ?_
      refine t_n (At.mk () (by repeat (first | exact Agr.refl _ _ | exact Agr.hav _ _ _ | refine Agr.upd rfl ?_ | refine Agr.updL ?_ _ rfl | refine Agr.hav' rfl ?_)) ⟨congrArg Value.bool (by first | rfl | exact (decide_eq_true (by omega)).symm | exact (decide_eq_false (by omega)).symm | exact decide_eq_decide.2 (by omega) | (simp_all; done) | grind), trivial⟩ hWr1)
    · try simp only [decide_eq_true_eq, decide_eq_false_iff_not, Bool.not_eq_true, Bool.not_eq_false, Bool.not_eq_eq_eq_not, Bool.not_true, Bool.not_false, Int.not_lt, Int.not_le] at hb1_3
      refine g1 8 rfl rfl (x_move (by conv => lhs; whnf)) ?_
      refine g1 8 rfl rfl (x_len_str u9 rfl) ?_
      refine g1 8 rfl rfl (x_gtr rfl rfl) ?_
      refine p1 (x_pick_f rfl (by conv => lhs; whnf)) ?_
      refine p1b (x_move (by conv => lhs; whnf)) (fun hb1_8 => ?_) (fun hb1_8 => ?_)
      · try simp only [decide_eq_true_eq, decide_eq_false_iff_not, Bool.not_eq_true, Bool.not_eq_false, Bool.not_eq_eq_eq_not, Bool.not_true, Bool.not_false, Int.not_lt, Int.not_le] at hb1_8
        refine g0 13 rfl (by first | exact .inl rfl | exact .inr rfl) ?_
        refine g0 13 rfl (by first | exact .inl rfl | exact .inr rfl) ?_
        refine p1 (x_pick_t rfl (by conv => lhs; whnf)) ?_
        refine r_nil ?_
        refine t_n (At.mk () (by repeat (first | exact Agr.refl _ _ | exact Agr.hav _ _ _ | refine Agr.upd rfl ?_ | refine Agr.updL ?_ _ rfl | refine Agr.hav' rfl ?_)) ⟨congrArg Value.bool (by first | rfl | exact (decide_eq_true (by omega)).symm | exact (decide_eq_false (by omega)).symm | exact decide_eq_decide.2 (by omega) | (simp_all; done) | grind), trivial⟩ hWr1)
      · try simp only [decide_eq_true_eq, decide_eq_false_iff_not, Bool.not_eq_true, Bool.not_eq_false, Bool.not_eq_eq_eq_not, Bool.not_true, Bool.not_false, Int.not_lt, Int.not_le] at hb1_8
        refine g1 13 rfl rfl (x_move (by conv => lhs; whnf)) ?_
        refine g1 13 rfl rfl (x_eql_str rfl rfl) ?_
        refine p1 (x_pick_f rfl (by conv => lhs; whnf)) ?_
        refine r_nil ?_
        refine t_n (At.mk () (by repeat (first | exact Agr.refl _ _ | exact Agr.hav _ _ _ | refine Agr.upd rfl ?_ | refine Agr.updL ?_ _ rfl | refine Agr.hav' rfl ?_)) ⟨congrArg Value.bool (by first | rfl | exact (decide_eq_true (by omega)).symm | exact (decide_eq_false (by omega)).symm | exact decide_eq_decide.2 (by omega) | (simp_all; done) | grind), trivial⟩ hWr1)
  · rintro _ Gr1 w1 hE1
    have hX := hX.ext hE1
    refine t_n ?_
    first | refine c_dec rfl (fun hc16 => ?_) (fun hc16 => ?_) | refine c_if rfl (fun hc16 => ?_) (fun hc16 => ?_)
    · try simp only [decide_eq_true_eq, decide_eq_false_iff_not, Bool.not_eq_true, Bool.not_eq_false, Bool.not_eq_eq_eq_not, Bool.not_true, Bool.not_false, Int.not_lt, Int.not_le] at hc16
      have hp := name_bad hc16
      refine c_seq ?_
      refine r_plain ?_
      refine p1 (x_assign (by conv => lhs; whnf)) ?_
      refine r_nil ?_
      refine t_n ?_
      refine c_ret ?_
      refine t_r ?_
      refine end1 rfl (by conv => lhs; whnf) ?_
      exact ⟨by rw [hp], hX⟩
    · try simp only [decide_eq_true_eq, decide_eq_false_iff_not, Bool.not_eq_true, Bool.not_eq_false, Bool.not_eq_eq_eq_not, Bool.not_true, Bool.not_false, Int.not_lt, Int.not_le] at hc16
      refine c_skip ?_
      refine t_n ?_
      refine c_seq ?_
      refine c_seq ?_
      refine r_plain ?_
      refine p1 (x_move (by conv => lhs; whnf)) ?_
      refine p1 (x_len_str u9 rfl) ?_
      refine p1 (x_move (by conv => lhs; whnf)) ?_
      refine r_nil ?_
      refine t_n ?_
      refine c_block ?_
      have hWL0 := Ext.refl w1
      refine c_loop (ι := Nat) [2, 3, 4, 19, 20, 21, 22, 23, 24, 25, 26, 27, 28, 29, 30, 31, 32, 33, 34, 35, 36, 37, 38, 39, 40, 41, 42, 43, 44, 45, 46, 47, 48, 49, 50] (fun k => [(19, .int .i64 (k : Int))]) (fun k w' => Ext w1 w' ∧ (k ≤ s.size ∧ ∀ i, i < k → okc (btAt s i).toNat)) (fun k => s.size - k) (0) ⟨rfl, trivial⟩ ⟨Ext.refl _, ⟨by omega, fun i hi => by omega⟩⟩ ?_
      rintro k GL0 w2 ⟨hE2, hk, hL⟩
      have hX := hX.ext hE2
      have hWL0 := hE2
      refine c_seq ?_
      refine r_plain ?_
      refine p1 (x_lss rfl rfl) ?_
      refine r_nil ?_
      refine t_n ?_
      refine c_seq ?_
      first | refine c_dec rfl (fun hc20 => ?_) (fun hc20 => ?_) | refine c_if rfl (fun hc20 => ?_) (fun hc20 => ?_)
      · try simp only [decide_eq_true_eq, decide_eq_false_iff_not, Bool.not_eq_true, Bool.not_eq_false, Bool.not_eq_eq_eq_not, Bool.not_true, Bool.not_false, Int.not_lt, Int.not_le] at hc20
        refine c_skip ?_
        refine t_n ?_
        refine c_seq ?_
        refine c_block ?_
        refine c_seq ?_
        refine r_plain ?_
        refine p1 (x_move (by conv => lhs; whnf)) ?_
        refine p1 (x_assign (by conv => lhs; whnf)) ?_
        refine r_nil ?_
        refine t_n ?_
        refine c_seq ?_
        refine r_plain ?_
        refine p1 (x_move (by conv => lhs; whnf)) ?_
        refine p1 (x_move (by conv => lhs; whnf)) ?_
        refine p1 (x_ixstr0 u9 rfl rfl (by omega)) ?_
        refine p1 (x_assign (by conv => lhs; whnf)) ?_
        refine r_nil ?_
        refine t_n ?_
        refine c_block ?_
        refine c_seq ?_
        refine c_seq ?_
        have hWr8 := Ext.refl w2
        refine c_cut (ι := Unit) [25, 26, 27, 28, 29, 30, 31] (fun _ => [(25, .bool (decide ((97 : Int) ≤ (btAt s k).toNat ∧ ((btAt s k).toNat : Int) ≤ 122)))]) (fun _ w' => Ext w2 w') ?_ ?_
        · skip
          refine r_plain ?_
          refine p1 (x_move (by conv => lhs; whnf)) ?_
          refine p1 (x_geq rfl rfl) ?_
          refine p1b (x_move (by conv => lhs; whnf)) (fun hb8_2 => ?_) (fun hb8_2 => ?_)
          · try simp only [decide_eq_true_eq, decide_eq_false_iff_not, Bool.not_eq_true, Bool.not_eq_false, Bool.not_eq_eq_eq_not, Bool.not_true, Bool.not_false, Int.not_lt, Int.not_le] at hb8_2
            refine g1 28 rfl rfl (x_move (by conv => lhs; whnf)) ?_
            refine g1 28 rfl rfl (x_leq rfl rfl) ?_
            refine p1 (x_pick_t rfl (by conv => lhs; whnf)) ?_
            refine p1 (x_assign (by conv => lhs; whnf)) ?_
            refine r_nil ?_
            refine t_n (At.mk () (by repeat (first | exact Agr.refl _ _ | exact Agr.hav _ _ _ | refine Agr.upd rfl ?_ | refine Agr.updL ?_ _ rfl | refine Agr.hav' rfl ?_)) ⟨congrArg Value.bool (by first | rfl | exact (decide_eq_true (by omega)).symm | exact (decide_eq_false (by omega)).symm | exact decide_eq_decide.2 (by omega) | (simp_all; done) | grind), trivial⟩ hWr8)
          · try simp only [decide_eq_true_eq, decide_eq_false_iff_not, Bool.not_eq_true, Bool.not_eq_false, Bool.not_eq_eq_eq_not, Bool.not_true, Bool.not_false, Int.not_lt, Int.not_le] at hb8_2
            refine g0 28 rfl (by first | exact .inl rfl | exact .inr rfl) ?_
            refine g0 28 rfl (by first | exact .inl rfl | exact .inr rfl) ?_
            refine p1 (x_pick_f rfl (by conv => lhs; whnf)) ?_
            refine p1 (x_assign (by conv => lhs; whnf)) ?_
            refine r_nil ?_
            refine t_n (At.mk () (by repeat (first | exact Agr.refl _ _ | exact Agr.hav _ _ _ | refine Agr.upd rfl ?_ | refine Agr.updL ?_ _ rfl | refine Agr.hav' rfl ?_)) ⟨congrArg Value.bool (by first | rfl | exact (decide_eq_true (by omega)).symm | exact (decide_eq_false (by omega)).symm | exact decide_eq_decide.2 (by omega) | (simp_all; done) | grind), trivial⟩ hWr8)
        · rintro _ Gr8 w3 hE3
          have hX := hX.ext hE3
          have hWL0 := hWL0.ext hE3
          refine t_n ?_
          first | refine c_dec rfl (fun hc25 => ?_) (fun hc25 => ?_) | refine c_if rfl (fun hc25 => ?_) (fun hc25 => ?_)
          · try simp only [decide_eq_true_eq, decide_eq_false_iff_not, Bool.not_eq_true, Bool.not_eq_false, Bool.not_eq_eq_eq_not, Bool.not_true, Bool.not_false, Int.not_lt, Int.not_le] at hc25
            refine c_skip ?_
            refine t_n ?_
            first | refine c_dec rfl (fun hc25 => ?_) (fun hc25 => ?_) | refine c_if rfl (fun hc25 => ?_) (fun hc25 => ?_)
            · try simp only [decide_eq_true_eq, decide_eq_false_iff_not, Bool.not_eq_true, Bool.not_eq_false, Bool.not_eq_eq_eq_not, Bool.not_true, Bool.not_false, Int.not_lt, Int.not_le] at hc25
              refine c_skip ?_
              refine b_n ?_
              refine b_n ?_
              refine t_n ?_
              refine r_plain ?_
              refine p1 (x_add rfl rfl (fits_i64 (by omega) (by omega))) ?_
              refine p1 (x_move (by conv => lhs; whnf)) ?_
              refine r_nil ?_
              refine t_n (At.mk (k + 1) (by repeat (first | exact Agr.refl _ _ | exact Agr.hav _ _ _ | refine Agr.upd rfl ?_ | refine Agr.updL ?_ _ rfl | refine Agr.hav' rfl ?_)) ⟨rfl, trivial⟩ ?_)
              exact ⟨⟨hWL0, ⟨by omega, fun i hi => if h : i < k then hL i h else by rw [show i = k from by omega]; unfold okc; omega⟩⟩, by first | (dsimp only; omega) | ((show _ < _); omega)⟩
            · try simp only [decide_eq_true_eq, decide_eq_false_iff_not, Bool.not_eq_true, Bool.not_eq_false, Bool.not_eq_eq_eq_not, Bool.not_true, Bool.not_false, Int.not_lt, Int.not_le] at hc25
              refine c_seq ?_
              have hp := name_not (s := s) (i := k) (by omega) (by unfold okc; omega)
              refine r_plain ?_
              refine p1 (x_assign (by conv => lhs; whnf)) ?_
              refine r_nil ?_
              refine t_n ?_
              refine c_ret ?_
              refine b_r ?_
              refine b_r ?_
              refine t_r ?_
              refine t_r ?_
              refine b_r ?_
              refine t_r ?_
              refine end1 rfl (by conv => lhs; whnf) ?_
              exact ⟨by rw [hp], hX⟩
          · try simp only [decide_eq_true_eq, decide_eq_false_iff_not, Bool.not_eq_true, Bool.not_eq_false, Bool.not_eq_eq_eq_not, Bool.not_true, Bool.not_false, Int.not_lt, Int.not_le] at hc25
            refine c_seq ?_
            have hWr9 := Ext.refl w3
            refine c_cut (ι := Unit) [25, 32, 33, 34, 35, 36, 37] (fun _ => [(25, .bool (decide ((65 : Int) ≤ (btAt s k).toNat ∧ ((btAt s k).toNat : Int) ≤ 90)))]) (fun _ w' => Ext w3 w') ?_ ?_
            · skip
              refine r_plain ?_
              refine p1 (x_move (by conv => lhs; whnf)) ?_
              refine p1 (x_geq rfl rfl) ?_
              refine p1b (x_move (by conv => lhs; whnf)) (fun hb9_2 => ?_) (fun hb9_2 => ?_)
              · try simp only [decide_eq_true_eq, decide_eq_false_iff_not, Bool.not_eq_true, Bool.not_eq_false, Bool.not_eq_eq_eq_not, Bool.not_true, Bool.not_false, Int.not_lt, Int.not_le] at hb9_2
                refine g1 34 rfl rfl (x_move (by conv => lhs; whnf)) ?_
                refine g1 34 rfl rfl (x_leq rfl rfl) ?_
                refine p1 (x_pick_t rfl (by conv => lhs; whnf)) ?_
                refine p1 (x_assign (by conv => lhs; whnf)) ?_
                refine r_nil ?_
                refine t_n (At.mk () (by repeat (first | exact Agr.refl _ _ | exact Agr.hav _ _ _ | refine Agr.upd rfl ?_ | refine Agr.updL ?_ _ rfl | refine Agr.hav' rfl ?_)) ⟨congrArg Value.bool (by first | rfl | exact (decide_eq_true (by omega)).symm | exact (decide_eq_false (by omega)).symm | exact decide_eq_decide.2 (by omega) | (simp_all; done) | grind), trivial⟩ hWr9)
              · try simp only [decide_eq_true_eq, decide_eq_false_iff_not, Bool.not_eq_true, Bool.not_eq_false, Bool.not_eq_eq_eq_not, Bool.not_true, Bool.not_false, Int.not_lt, Int.not_le] at hb9_2
                refine g0 34 rfl (by first | exact .inl rfl | exact .inr rfl) ?_
                refine g0 34 rfl (by first | exact .inl rfl | exact .inr rfl) ?_
                refine p1 (x_pick_f rfl (by conv => lhs; whnf)) ?_
                refine p1 (x_assign (by conv => lhs; whnf)) ?_
                refine r_nil ?_
                refine t_n (At.mk () (by repeat (first | exact Agr.refl _ _ | exact Agr.hav _ _ _ | refine Agr.upd rfl ?_ | refine Agr.updL ?_ _ rfl | refine Agr.hav' rfl ?_)) ⟨congrArg Value.bool (by first | rfl | exact (decide_eq_true (by omega)).symm | exact (decide_eq_false (by omega)).symm | exact decide_eq_decide.2 (by omega) | (simp_all; done) | grind), trivial⟩ hWr9)
            · rintro _ Gr9 w4 hE4
              have hX := hX.ext hE4
              have hWL0 := hWL0.ext hE4
              refine t_n ?_
              first | refine c_dec rfl (fun hc25 => ?_) (fun hc25 => ?_) | refine c_if rfl (fun hc25 => ?_) (fun hc25 => ?_)
              · try simp only [decide_eq_true_eq, decide_eq_false_iff_not, Bool.not_eq_true, Bool.not_eq_false, Bool.not_eq_eq_eq_not, Bool.not_true, Bool.not_false, Int.not_lt, Int.not_le] at hc25
                refine c_skip ?_
                refine t_n ?_
                first | refine c_dec rfl (fun hc25 => ?_) (fun hc25 => ?_) | refine c_if rfl (fun hc25 => ?_) (fun hc25 => ?_)
                · try simp only [decide_eq_true_eq, decide_eq_false_iff_not, Bool.not_eq_true, Bool.not_eq_false, Bool.not_eq_eq_eq_not, Bool.not_true, Bool.not_false, Int.not_lt, Int.not_le] at hc25
                  refine c_skip ?_
                  refine b_n ?_
                  refine b_n ?_
                  refine t_n ?_
                  refine r_plain ?_
                  refine p1 (x_add rfl rfl (fits_i64 (by omega) (by omega))) ?_
                  refine p1 (x_move (by conv => lhs; whnf)) ?_
                  refine r_nil ?_
                  refine t_n (At.mk (k + 1) (by repeat (first | exact Agr.refl _ _ | exact Agr.hav _ _ _ | refine Agr.upd rfl ?_ | refine Agr.updL ?_ _ rfl | refine Agr.hav' rfl ?_)) ⟨rfl, trivial⟩ ?_)
                  exact ⟨⟨hWL0, ⟨by omega, fun i hi => if h : i < k then hL i h else by rw [show i = k from by omega]; unfold okc; omega⟩⟩, by first | (dsimp only; omega) | ((show _ < _); omega)⟩
                · try simp only [decide_eq_true_eq, decide_eq_false_iff_not, Bool.not_eq_true, Bool.not_eq_false, Bool.not_eq_eq_eq_not, Bool.not_true, Bool.not_false, Int.not_lt, Int.not_le] at hc25
                  refine c_seq ?_
                  have hp := name_not (s := s) (i := k) (by omega) (by unfold okc; omega)
                  refine r_plain ?_
                  refine p1 (x_assign (by conv => lhs; whnf)) ?_
                  refine r_nil ?_
                  refine t_n ?_
                  refine c_ret ?_
                  refine b_r ?_
                  refine b_r ?_
                  refine t_r ?_
                  refine t_r ?_
                  refine b_r ?_
                  refine t_r ?_
                  refine end1 rfl (by conv => lhs; whnf) ?_
                  exact ⟨by rw [hp], hX⟩
              · try simp only [decide_eq_true_eq, decide_eq_false_iff_not, Bool.not_eq_true, Bool.not_eq_false, Bool.not_eq_eq_eq_not, Bool.not_true, Bool.not_false, Int.not_lt, Int.not_le] at hc25
                refine c_seq ?_
                have hWr10 := Ext.refl w4
                refine c_cut (ι := Unit) [25, 38, 39, 40, 41, 42, 43] (fun _ => [(25, .bool (decide ((48 : Int) ≤ (btAt s k).toNat ∧ ((btAt s k).toNat : Int) ≤ 57)))]) (fun _ w' => Ext w4 w') ?_ ?_
                · skip
                  refine r_plain ?_
                  refine p1 (x_move (by conv => lhs; whnf)) ?_
                  refine p1 (x_geq rfl rfl) ?_
                  refine p1b (x_move (by conv => lhs; whnf)) (fun hb10_2 => ?_) (fun hb10_2 => ?_)
                  · try simp only [decide_eq_true_eq, decide_eq_false_iff_not, Bool.not_eq_true, Bool.not_eq_false, Bool.not_eq_eq_eq_not, Bool.not_true, Bool.not_false, Int.not_lt, Int.not_le] at hb10_2
                    refine g1 40 rfl rfl (x_move (by conv => lhs; whnf)) ?_
                    refine g1 40 rfl rfl (x_leq rfl rfl) ?_
                    refine p1 (x_pick_t rfl (by conv => lhs; whnf)) ?_
                    refine p1 (x_assign (by conv => lhs; whnf)) ?_
                    refine r_nil ?_
                    refine t_n (At.mk () (by repeat (first | exact Agr.refl _ _ | exact Agr.hav _ _ _ | refine Agr.upd rfl ?_ | refine Agr.updL ?_ _ rfl | refine Agr.hav' rfl ?_)) ⟨congrArg Value.bool (by first | rfl | exact (decide_eq_true (by omega)).symm | exact (decide_eq_false (by omega)).symm | exact decide_eq_decide.2 (by omega) | (simp_all; done) | grind), trivial⟩ hWr10)
                  · try simp only [decide_eq_true_eq, decide_eq_false_iff_not, Bool.not_eq_true, Bool.not_eq_false, Bool.not_eq_eq_eq_not, Bool.not_true, Bool.not_false, Int.not_lt, Int.not_le] at hb10_2
                    refine g0 40 rfl (by first | exact .inl rfl | exact .inr rfl) ?_
                    refine g0 40 rfl (by first | exact .inl rfl | exact .inr rfl) ?_
                    refine p1 (x_pick_f rfl (by conv => lhs; whnf)) ?_
                    refine p1 (x_assign (by conv => lhs; whnf)) ?_
                    refine r_nil ?_
                    refine t_n (At.mk () (by repeat (first | exact Agr.refl _ _ | exact Agr.hav _ _ _ | refine Agr.upd rfl ?_ | refine Agr.updL ?_ _ rfl | refine Agr.hav' rfl ?_)) ⟨congrArg Value.bool (by first | rfl | exact (decide_eq_true (by omega)).symm | exact (decide_eq_false (by omega)).symm | exact decide_eq_decide.2 (by omega) | (simp_all; done) | grind), trivial⟩ hWr10)
                · rintro _ Gr10 w5 hE5
                  have hX := hX.ext hE5
                  have hWL0 := hWL0.ext hE5
                  refine t_n ?_
                  first | refine c_dec rfl (fun hc25 => ?_) (fun hc25 => ?_) | refine c_if rfl (fun hc25 => ?_) (fun hc25 => ?_)
                  · try simp only [decide_eq_true_eq, decide_eq_false_iff_not, Bool.not_eq_true, Bool.not_eq_false, Bool.not_eq_eq_eq_not, Bool.not_true, Bool.not_false, Int.not_lt, Int.not_le] at hc25
                    refine c_skip ?_
                    refine t_n ?_
                    first | refine c_dec rfl (fun hc25 => ?_) (fun hc25 => ?_) | refine c_if rfl (fun hc25 => ?_) (fun hc25 => ?_)
                    · try simp only [decide_eq_true_eq, decide_eq_false_iff_not, Bool.not_eq_true, Bool.not_eq_false, Bool.not_eq_eq_eq_not, Bool.not_true, Bool.not_false, Int.not_lt, Int.not_le] at hc25
                      refine c_skip ?_
                      refine b_n ?_
                      refine b_n ?_
                      refine t_n ?_
                      refine r_plain ?_
                      refine p1 (x_add rfl rfl (fits_i64 (by omega) (by omega))) ?_
                      refine p1 (x_move (by conv => lhs; whnf)) ?_
                      refine r_nil ?_
                      refine t_n (At.mk (k + 1) (by repeat (first | exact Agr.refl _ _ | exact Agr.hav _ _ _ | refine Agr.upd rfl ?_ | refine Agr.updL ?_ _ rfl | refine Agr.hav' rfl ?_)) ⟨rfl, trivial⟩ ?_)
                      exact ⟨⟨hWL0, ⟨by omega, fun i hi => if h : i < k then hL i h else by rw [show i = k from by omega]; unfold okc; omega⟩⟩, by first | (dsimp only; omega) | ((show _ < _); omega)⟩
                    · try simp only [decide_eq_true_eq, decide_eq_false_iff_not, Bool.not_eq_true, Bool.not_eq_false, Bool.not_eq_eq_eq_not, Bool.not_true, Bool.not_false, Int.not_lt, Int.not_le] at hc25
                      refine c_seq ?_
                      have hp := name_not (s := s) (i := k) (by omega) (by unfold okc; omega)
                      refine r_plain ?_
                      refine p1 (x_assign (by conv => lhs; whnf)) ?_
                      refine r_nil ?_
                      refine t_n ?_
                      refine c_ret ?_
                      refine b_r ?_
                      refine b_r ?_
                      refine t_r ?_
                      refine t_r ?_
                      refine b_r ?_
                      refine t_r ?_
                      refine end1 rfl (by conv => lhs; whnf) ?_
                      exact ⟨by rw [hp], hX⟩
                  · try simp only [decide_eq_true_eq, decide_eq_false_iff_not, Bool.not_eq_true, Bool.not_eq_false, Bool.not_eq_eq_eq_not, Bool.not_true, Bool.not_false, Int.not_lt, Int.not_le] at hc25
                    refine c_seq ?_
                    refine r_plain ?_
                    refine p1 (x_move (by conv => lhs; whnf)) ?_
                    refine p1 (x_eql rfl rfl) ?_
                    refine p1 (x_assign (by conv => lhs; whnf)) ?_
                    refine r_nil ?_
                    refine t_n ?_
                    first | refine c_dec rfl (fun hc25 => ?_) (fun hc25 => ?_) | refine c_if rfl (fun hc25 => ?_) (fun hc25 => ?_)
                    · try simp only [decide_eq_true_eq, decide_eq_false_iff_not, Bool.not_eq_true, Bool.not_eq_false, Bool.not_eq_eq_eq_not, Bool.not_true, Bool.not_false, Int.not_lt, Int.not_le] at hc25
                      refine c_skip ?_
                      refine t_n ?_
                      first | refine c_dec rfl (fun hc25 => ?_) (fun hc25 => ?_) | refine c_if rfl (fun hc25 => ?_) (fun hc25 => ?_)
                      · try simp only [decide_eq_true_eq, decide_eq_false_iff_not, Bool.not_eq_true, Bool.not_eq_false, Bool.not_eq_eq_eq_not, Bool.not_true, Bool.not_false, Int.not_lt, Int.not_le] at hc25
                        refine c_skip ?_
                        refine b_n ?_
                        refine b_n ?_
                        refine t_n ?_
                        refine r_plain ?_
                        refine p1 (x_add rfl rfl (fits_i64 (by omega) (by omega))) ?_
                        refine p1 (x_move (by conv => lhs; whnf)) ?_
                        refine r_nil ?_
                        refine t_n (At.mk (k + 1) (by repeat (first | exact Agr.refl _ _ | exact Agr.hav _ _ _ | refine Agr.upd rfl ?_ | refine Agr.updL ?_ _ rfl | refine Agr.hav' rfl ?_)) ⟨rfl, trivial⟩ ?_)
                        exact ⟨⟨hWL0, ⟨by omega, fun i hi => if h : i < k then hL i h else by rw [show i = k from by omega]; unfold okc; omega⟩⟩, by first | (dsimp only; omega) | ((show _ < _); omega)⟩
                      · try simp only [decide_eq_true_eq, decide_eq_false_iff_not, Bool.not_eq_true, Bool.not_eq_false, Bool.not_eq_eq_eq_not, Bool.not_true, Bool.not_false, Int.not_lt, Int.not_le] at hc25
                        refine c_seq ?_
                        have hp := name_not (s := s) (i := k) (by omega) (by unfold okc; omega)
                        refine r_plain ?_
                        refine p1 (x_assign (by conv => lhs; whnf)) ?_
                        refine r_nil ?_
                        refine t_n ?_
                        refine c_ret ?_
                        refine b_r ?_
                        refine b_r ?_
                        refine t_r ?_
                        refine t_r ?_
                        refine b_r ?_
                        refine t_r ?_
                        refine end1 rfl (by conv => lhs; whnf) ?_
                        exact ⟨by rw [hp], hX⟩
                    · try simp only [decide_eq_true_eq, decide_eq_false_iff_not, Bool.not_eq_true, Bool.not_eq_false, Bool.not_eq_eq_eq_not, Bool.not_true, Bool.not_false, Int.not_lt, Int.not_le] at hc25
                      refine c_seq ?_
                      refine r_plain ?_
                      refine p1 (x_move (by conv => lhs; whnf)) ?_
                      refine p1 (x_eql rfl rfl) ?_
                      refine p1 (x_assign (by conv => lhs; whnf)) ?_
                      refine r_nil ?_
                      refine t_n ?_
                      first | refine c_dec rfl (fun hc25 => ?_) (fun hc25 => ?_) | refine c_if rfl (fun hc25 => ?_) (fun hc25 => ?_)
                      · try simp only [decide_eq_true_eq, decide_eq_false_iff_not, Bool.not_eq_true, Bool.not_eq_false, Bool.not_eq_eq_eq_not, Bool.not_true, Bool.not_false, Int.not_lt, Int.not_le] at hc25
                        refine c_skip ?_
                        refine t_n ?_
                        first | refine c_dec rfl (fun hc25 => ?_) (fun hc25 => ?_) | refine c_if rfl (fun hc25 => ?_) (fun hc25 => ?_)
                        · try simp only [decide_eq_true_eq, decide_eq_false_iff_not, Bool.not_eq_true, Bool.not_eq_false, Bool.not_eq_eq_eq_not, Bool.not_true, Bool.not_false, Int.not_lt, Int.not_le] at hc25
                          refine c_skip ?_
                          refine b_n ?_
                          refine b_n ?_
                          refine t_n ?_
                          refine r_plain ?_
                          refine p1 (x_add rfl rfl (fits_i64 (by omega) (by omega))) ?_
                          refine p1 (x_move (by conv => lhs; whnf)) ?_
                          refine r_nil ?_
                          refine t_n (At.mk (k + 1) (by repeat (first | exact Agr.refl _ _ | exact Agr.hav _ _ _ | refine Agr.upd rfl ?_ | refine Agr.updL ?_ _ rfl | refine Agr.hav' rfl ?_)) ⟨rfl, trivial⟩ ?_)
                          exact ⟨⟨hWL0, ⟨by omega, fun i hi => if h : i < k then hL i h else by rw [show i = k from by omega]; unfold okc; omega⟩⟩, by first | (dsimp only; omega) | ((show _ < _); omega)⟩
                        · try simp only [decide_eq_true_eq, decide_eq_false_iff_not, Bool.not_eq_true, Bool.not_eq_false, Bool.not_eq_eq_eq_not, Bool.not_true, Bool.not_false, Int.not_lt, Int.not_le] at hc25
                          refine c_seq ?_
                          have hp := name_not (s := s) (i := k) (by omega) (by unfold okc; omega)
                          refine r_plain ?_
                          refine p1 (x_assign (by conv => lhs; whnf)) ?_
                          refine r_nil ?_
                          refine t_n ?_
                          refine c_ret ?_
                          refine b_r ?_
                          refine b_r ?_
                          refine t_r ?_
                          refine t_r ?_
                          refine b_r ?_
                          refine t_r ?_
                          refine end1 rfl (by conv => lhs; whnf) ?_
                          exact ⟨by rw [hp], hX⟩
                      · try simp only [decide_eq_true_eq, decide_eq_false_iff_not, Bool.not_eq_true, Bool.not_eq_false, Bool.not_eq_eq_eq_not, Bool.not_true, Bool.not_false, Int.not_lt, Int.not_le] at hc25
                        refine r_plain ?_
                        refine p1 (x_move (by conv => lhs; whnf)) ?_
                        refine p1 (x_eql rfl rfl) ?_
                        refine p1 (x_assign (by conv => lhs; whnf)) ?_
                        refine r_nil ?_
                        refine t_n ?_
                        first | refine c_dec rfl (fun hc25 => ?_) (fun hc25 => ?_) | refine c_if rfl (fun hc25 => ?_) (fun hc25 => ?_)
                        · try simp only [decide_eq_true_eq, decide_eq_false_iff_not, Bool.not_eq_true, Bool.not_eq_false, Bool.not_eq_eq_eq_not, Bool.not_true, Bool.not_false, Int.not_lt, Int.not_le] at hc25
                          refine c_skip ?_
                          refine b_n ?_
                          refine b_n ?_
                          refine t_n ?_
                          refine r_plain ?_
                          refine p1 (x_add rfl rfl (fits_i64 (by omega) (by omega))) ?_
                          refine p1 (x_move (by conv => lhs; whnf)) ?_
                          refine r_nil ?_
                          refine t_n (At.mk (k + 1) (by repeat (first | exact Agr.refl _ _ | exact Agr.hav _ _ _ | refine Agr.upd rfl ?_ | refine Agr.updL ?_ _ rfl | refine Agr.hav' rfl ?_)) ⟨rfl, trivial⟩ ?_)
                          exact ⟨⟨hWL0, ⟨by omega, fun i hi => if h : i < k then hL i h else by rw [show i = k from by omega]; unfold okc; omega⟩⟩, by first | (dsimp only; omega) | ((show _ < _); omega)⟩
                        · try simp only [decide_eq_true_eq, decide_eq_false_iff_not, Bool.not_eq_true, Bool.not_eq_false, Bool.not_eq_eq_eq_not, Bool.not_true, Bool.not_false, Int.not_lt, Int.not_le] at hc25
                          refine c_seq ?_
                          have hp := name_not (s := s) (i := k) (by omega) (by unfold okc; omega)
                          refine r_plain ?_
                          refine p1 (x_assign (by conv => lhs; whnf)) ?_
                          refine r_nil ?_
                          refine t_n ?_
                          refine c_ret ?_
                          refine b_r ?_
                          refine b_r ?_
                          refine t_r ?_
                          refine t_r ?_
                          refine b_r ?_
                          refine t_r ?_
                          refine end1 rfl (by conv => lhs; whnf) ?_
                          exact ⟨by rw [hp], hX⟩
      · try simp only [decide_eq_true_eq, decide_eq_false_iff_not, Bool.not_eq_true, Bool.not_eq_false, Bool.not_eq_eq_eq_not, Bool.not_true, Bool.not_false, Int.not_lt, Int.not_le] at hc20
        have hp := name_good hc16 (fun i hi => hL i (by omega))
        refine c_exit ?_
        refine t_e ?_
        refine t_e ?_
        refine b_hit ?_
        refine t_n ?_
        refine c_seq ?_
        refine r_plain ?_
        refine p1 (x_assign (by conv => lhs; whnf)) ?_
        refine r_nil ?_
        refine t_n ?_
        refine c_ret ?_
        refine end1 rfl (by conv => lhs; whnf) ?_
        exact ⟨by rw [hp], hX⟩
theorem ref06_Name (s : ByteArray) (w : World) (hs : s.size ≤ 9223372036854775807) :
    Ret Try.prog 32 [.string s] w (fun v w' => v = .bool (isName s) ∧ Ext w w') := by
  have hX := Ext.refl w
  refine enter 60 _ Try.func32 rfl rfl (Nat.le_of_ble_eq_true rfl) ?_
  refine c_seq ?_
  refine r_plain ?_
  refine p1 (x_assign (by conv => lhs; whnf)) ?_
  refine r_nil ?_
  refine t_n ?_
  refine c_seq ?_
  refine c_seq ?_
  refine r_plain ?_
  refine p1 (x_assign (by conv => lhs; whnf)) ?_
  refine r_nil ?_
  refine t_n ?_
  refine c_block ?_
  have hWL0 := Ext.refl w
  refine c_loop (ι := Nat) [2, 3, 4, 5, 6, 7, 8, 9, 10, 11, 12, 13, 14, 15, 16, 17, 18, 19, 20, 21, 22, 23, 24, 25, 26, 27, 28, 29, 30, 31, 32, 33, 34, 35, 36, 37, 38, 39, 40, 41, 42, 43, 44, 45, 46, 47] (fun k => [(3, .int .i64 (k : Int))]) (fun k w' => Ext w w' ∧ (k ≤ s.size ∧ ∀ i, i < k → okc (btAt s i).toNat)) (fun k => s.size - k) (0) ⟨rfl, trivial⟩ ⟨Ext.refl _, ⟨by omega, fun i hi => by omega⟩⟩ ?_
  rintro k GL0 w1 ⟨hE1, hk, hL⟩
  have hX := hX.ext hE1
  have hWL0 := hE1
  refine c_seq ?_
  refine c_seq ?_
  refine r_plain ?_
  refine p1 (x_move (by conv => lhs; whnf)) ?_
  refine p1 (x_move (by conv => lhs; whnf)) ?_
  refine p1 (x_len_str u9 rfl) ?_
  refine p1 (x_lss rfl rfl) ?_
  refine r_nil ?_
  refine t_n ?_
  first | refine c_dec rfl (fun hc8 => ?_) (fun hc8 => ?_) | refine c_if rfl (fun hc8 => ?_) (fun hc8 => ?_)
  · try simp only [decide_eq_true_eq, decide_eq_false_iff_not, Bool.not_eq_true, Bool.not_eq_false, Bool.not_eq_eq_eq_not, Bool.not_true, Bool.not_false, Int.not_lt, Int.not_le] at hc8
    refine c_skip ?_
    refine t_n ?_
    refine c_seq ?_
    refine c_block ?_
    refine c_seq ?_
    refine r_plain ?_
    refine p1 (x_move (by conv => lhs; whnf)) ?_
    refine p1 (x_move (by conv => lhs; whnf)) ?_
    refine p1 (x_ixstr0 u9 rfl rfl (by omega)) ?_
    refine p1 (x_assign (by conv => lhs; whnf)) ?_
    refine r_nil ?_
    refine t_n ?_
    refine c_seq ?_
    have hWr5 := Ext.refl w1
    refine c_cut (ι := Unit) [14, 15, 16, 17, 18, 19, 20, 21, 22, 23, 24, 25, 26, 27, 28, 29, 30, 31, 32, 33, 34, 35, 36, 37, 38, 39, 40, 41, 42, 43, 44, 45, 46, 47] (fun _ => [(47, .bool (decide ((((btAt s k).toNat : Int) < 97 ∨ 122 < ((btAt s k).toNat : Int)) ∧ (((btAt s k).toNat : Int) < 65 ∨ 90 < ((btAt s k).toNat : Int)) ∧ (((btAt s k).toNat : Int) < 48 ∨ 57 < ((btAt s k).toNat : Int)) ∧ ((btAt s k).toNat : Int) ≠ 46 ∧ ((btAt s k).toNat : Int) ≠ 95 ∧ ((btAt s k).toNat : Int) ≠ 45)))]) (fun _ w' => Ext w1 w') ?_ ?_
    · skip
      refine r_plain ?_
      refine l_cut 6 [14, 15, 16, 17, 18, 19] [(19, .bool (decide (((btAt s k).toNat : Int) < 97 ∨ 122 < ((btAt s k).toNat : Int))))] ?_ ?_
      · skip
        refine p1 (x_move (by conv => lhs; whnf)) ?_
        refine p1 (x_lss rfl rfl) ?_
        refine p1b (x_move (by conv => lhs; whnf)) (fun hb5_2 => ?_) (fun hb5_2 => ?_)
        · try simp only [decide_eq_true_eq, decide_eq_false_iff_not, Bool.not_eq_true, Bool.not_eq_false, Bool.not_eq_eq_eq_not, Bool.not_true, Bool.not_false, Int.not_lt, Int.not_le] at hb5_2
          refine g0 16 rfl (by first | exact .inl rfl | exact .inr rfl) ?_
          refine g0 16 rfl (by first | exact .inl rfl | exact .inr rfl) ?_
          refine p1 (x_pick_t rfl (by conv => lhs; whnf)) ?_
          exact l_cutend rfl (by repeat (first | exact Agr.refl _ _ | exact Agr.hav _ _ _ | refine Agr.upd rfl ?_ | refine Agr.updL ?_ _ rfl | refine Agr.hav' rfl ?_)) ⟨congrArg Value.bool (by first | rfl | exact (decide_eq_true (by omega)).symm | exact (decide_eq_false (by omega)).symm | exact decide_eq_decide.2 (by omega) | (simp_all; done) | grind), trivial⟩
        · try simp only [decide_eq_true_eq, decide_eq_false_iff_not, Bool.not_eq_true, Bool.not_eq_false, Bool.not_eq_eq_eq_not, Bool.not_true, Bool.not_false, Int.not_lt, Int.not_le] at hb5_2
          refine g1 16 rfl rfl (x_move (by conv => lhs; whnf)) ?_
          refine g1 16 rfl rfl (x_gtr rfl rfl) ?_
          refine p1 (x_pick_f rfl (by conv => lhs; whnf)) ?_
          exact l_cutend rfl (by repeat (first | exact Agr.refl _ _ | exact Agr.hav _ _ _ | refine Agr.upd rfl ?_ | refine Agr.updL ?_ _ rfl | refine Agr.hav' rfl ?_)) ⟨congrArg Value.bool (by first | rfl | exact (decide_eq_true (by omega)).symm | exact (decide_eq_false (by omega)).symm | exact decide_eq_decide.2 (by omega) | (simp_all; done) | grind), trivial⟩
      · intro Gr5_0
        refine l_cut 8 [20, 21, 22, 23, 24, 25, 26, 27] [(27, .bool (decide ((((btAt s k).toNat : Int) < 97 ∨ 122 < ((btAt s k).toNat : Int)) ∧ (((btAt s k).toNat : Int) < 65 ∨ 90 < ((btAt s k).toNat : Int)))))] ?_ ?_
        · skip
          refine p1b (x_move (by conv => lhs; whnf)) (fun hb5_6 => ?_) (fun hb5_6 => ?_)
          · try simp only [decide_eq_true_eq, decide_eq_false_iff_not, Bool.not_eq_true, Bool.not_eq_false, Bool.not_eq_eq_eq_not, Bool.not_true, Bool.not_false, Int.not_lt, Int.not_le] at hb5_6
            refine g1 20 rfl rfl (x_move (by conv => lhs; whnf)) ?_
            refine g1 20 rfl rfl (x_lss rfl rfl) ?_
            refine g1b 20 rfl rfl (x_move (by conv => lhs; whnf)) (fun hb5_9 => ?_) (fun hb5_9 => ?_)
            · try simp only [decide_eq_true_eq, decide_eq_false_iff_not, Bool.not_eq_true, Bool.not_eq_false, Bool.not_eq_eq_eq_not, Bool.not_true, Bool.not_false, Int.not_lt, Int.not_le] at hb5_9
              refine g0 23 rfl (by first | exact .inl rfl | exact .inr rfl) ?_
              refine g0 23 rfl (by first | exact .inl rfl | exact .inr rfl) ?_
              refine g1 20 rfl rfl (x_pick_t rfl (by conv => lhs; whnf)) ?_
              refine p1 (x_pick_t rfl (by conv => lhs; whnf)) ?_
              exact l_cutend rfl (by repeat (first | exact Agr.refl _ _ | exact Agr.hav _ _ _ | refine Agr.upd rfl ?_ | refine Agr.updL ?_ _ rfl | refine Agr.hav' rfl ?_)) ⟨congrArg Value.bool (by first | rfl | exact (decide_eq_true (by omega)).symm | exact (decide_eq_false (by omega)).symm | exact decide_eq_decide.2 (by omega) | (simp_all; done) | grind), trivial⟩
            · try simp only [decide_eq_true_eq, decide_eq_false_iff_not, Bool.not_eq_true, Bool.not_eq_false, Bool.not_eq_eq_eq_not, Bool.not_true, Bool.not_false, Int.not_lt, Int.not_le] at hb5_9
              refine g1 23 rfl rfl (x_move (by conv => lhs; whnf)) ?_
              refine g1 23 rfl rfl (x_gtr rfl rfl) ?_
              refine g1 20 rfl rfl (x_pick_f rfl (by conv => lhs; whnf)) ?_
              refine p1 (x_pick_t rfl (by conv => lhs; whnf)) ?_
              exact l_cutend rfl (by repeat (first | exact Agr.refl _ _ | exact Agr.hav _ _ _ | refine Agr.upd rfl ?_ | refine Agr.updL ?_ _ rfl | refine Agr.hav' rfl ?_)) ⟨congrArg Value.bool (by first | rfl | exact (decide_eq_true (by omega)).symm | exact (decide_eq_false (by omega)).symm | exact decide_eq_decide.2 (by omega) | (simp_all; done) | grind), trivial⟩
          · try simp only [decide_eq_true_eq, decide_eq_false_iff_not, Bool.not_eq_true, Bool.not_eq_false, Bool.not_eq_eq_eq_not, Bool.not_true, Bool.not_false, Int.not_lt, Int.not_le] at hb5_6
            refine g0 20 rfl (by first | exact .inl rfl | exact .inr rfl) ?_
            refine g0 20 rfl (by first | exact .inl rfl | exact .inr rfl) ?_
            refine g0 20 rfl (by first | exact .inl rfl | exact .inr rfl) ?_
            refine g0 23 rfl (by first | exact .inl rfl | exact .inr rfl) ?_
            refine g0 23 rfl (by first | exact .inl rfl | exact .inr rfl) ?_
            refine g0 20 rfl (by first | exact .inl rfl | exact .inr rfl) ?_
            refine p1 (x_pick_f rfl (by conv => lhs; whnf)) ?_
            exact l_cutend rfl (by repeat (first | exact Agr.refl _ _ | exact Agr.hav _ _ _ | refine Agr.upd rfl ?_ | refine Agr.updL ?_ _ rfl | refine Agr.hav' rfl ?_)) ⟨congrArg Value.bool (by first | rfl | exact (decide_eq_true (by omega)).symm | exact (decide_eq_false (by omega)).symm | exact decide_eq_decide.2 (by omega) | (simp_all; done) | grind), trivial⟩
        · intro Gr5_6
          refine l_cut 8 [28, 29, 30, 31, 32, 33, 34, 35] [(35, .bool (decide ((((btAt s k).toNat : Int) < 97 ∨ 122 < ((btAt s k).toNat : Int)) ∧ (((btAt s k).toNat : Int) < 65 ∨ 90 < ((btAt s k).toNat : Int)) ∧ (((btAt s k).toNat : Int) < 48 ∨ 57 < ((btAt s k).toNat : Int)))))] ?_ ?_
          · skip
            refine p1b (x_move (by conv => lhs; whnf)) (fun hb5_14 => ?_) (fun hb5_14 => ?_)
            · try simp only [decide_eq_true_eq, decide_eq_false_iff_not, Bool.not_eq_true, Bool.not_eq_false, Bool.not_eq_eq_eq_not, Bool.not_true, Bool.not_false, Int.not_lt, Int.not_le] at hb5_14
              refine g1 28 rfl rfl (x_move (by conv => lhs; whnf)) ?_
              refine g1 28 rfl rfl (x_lss rfl rfl) ?_
              refine g1b 28 rfl rfl (x_move (by conv => lhs; whnf)) (fun hb5_17 => ?_) (fun hb5_17 => ?_)
              · try simp only [decide_eq_true_eq, decide_eq_false_iff_not, Bool.not_eq_true, Bool.not_eq_false, Bool.not_eq_eq_eq_not, Bool.not_true, Bool.not_false, Int.not_lt, Int.not_le] at hb5_17
                refine g0 31 rfl (by first | exact .inl rfl | exact .inr rfl) ?_
                refine g0 31 rfl (by first | exact .inl rfl | exact .inr rfl) ?_
                refine g1 28 rfl rfl (x_pick_t rfl (by conv => lhs; whnf)) ?_
                refine p1 (x_pick_t rfl (by conv => lhs; whnf)) ?_
                exact l_cutend rfl (by repeat (first | exact Agr.refl _ _ | exact Agr.hav _ _ _ | refine Agr.upd rfl ?_ | refine Agr.updL ?_ _ rfl | refine Agr.hav' rfl ?_)) ⟨congrArg Value.bool (by first | rfl | exact (decide_eq_true (by omega)).symm | exact (decide_eq_false (by omega)).symm | exact decide_eq_decide.2 (by omega) | (simp_all; done) | grind), trivial⟩
              · try simp only [decide_eq_true_eq, decide_eq_false_iff_not, Bool.not_eq_true, Bool.not_eq_false, Bool.not_eq_eq_eq_not, Bool.not_true, Bool.not_false, Int.not_lt, Int.not_le] at hb5_17
                refine g1 31 rfl rfl (x_move (by conv => lhs; whnf)) ?_
                refine g1 31 rfl rfl (x_gtr rfl rfl) ?_
                refine g1 28 rfl rfl (x_pick_f rfl (by conv => lhs; whnf)) ?_
                refine p1 (x_pick_t rfl (by conv => lhs; whnf)) ?_
                exact l_cutend rfl (by repeat (first | exact Agr.refl _ _ | exact Agr.hav _ _ _ | refine Agr.upd rfl ?_ | refine Agr.updL ?_ _ rfl | refine Agr.hav' rfl ?_)) ⟨congrArg Value.bool (by first | rfl | exact (decide_eq_true (by omega)).symm | exact (decide_eq_false (by omega)).symm | exact decide_eq_decide.2 (by omega) | (simp_all; done) | grind), trivial⟩
            · try simp only [decide_eq_true_eq, decide_eq_false_iff_not, Bool.not_eq_true, Bool.not_eq_false, Bool.not_eq_eq_eq_not, Bool.not_true, Bool.not_false, Int.not_lt, Int.not_le] at hb5_14
              refine g0 28 rfl (by first | exact .inl rfl | exact .inr rfl) ?_
              refine g0 28 rfl (by first | exact .inl rfl | exact .inr rfl) ?_
              refine g0 28 rfl (by first | exact .inl rfl | exact .inr rfl) ?_
              refine g0 31 rfl (by first | exact .inl rfl | exact .inr rfl) ?_
              refine g0 31 rfl (by first | exact .inl rfl | exact .inr rfl) ?_
              refine g0 28 rfl (by first | exact .inl rfl | exact .inr rfl) ?_
              refine p1 (x_pick_f rfl (by conv => lhs; whnf)) ?_
              exact l_cutend rfl (by repeat (first | exact Agr.refl _ _ | exact Agr.hav _ _ _ | refine Agr.upd rfl ?_ | refine Agr.updL ?_ _ rfl | refine Agr.hav' rfl ?_)) ⟨congrArg Value.bool (by first | rfl | exact (decide_eq_true (by omega)).symm | exact (decide_eq_false (by omega)).symm | exact decide_eq_decide.2 (by omega) | (simp_all; done) | grind), trivial⟩
          · intro Gr5_14
            refine l_cut 4 [36, 37, 38, 39] [(39, .bool (decide ((((btAt s k).toNat : Int) < 97 ∨ 122 < ((btAt s k).toNat : Int)) ∧ (((btAt s k).toNat : Int) < 65 ∨ 90 < ((btAt s k).toNat : Int)) ∧ (((btAt s k).toNat : Int) < 48 ∨ 57 < ((btAt s k).toNat : Int)) ∧ ((btAt s k).toNat : Int) ≠ 46)))] ?_ ?_
            · skip
              refine p1b (x_move (by conv => lhs; whnf)) (fun hb5_22 => ?_) (fun hb5_22 => ?_)
              · try simp only [decide_eq_true_eq, decide_eq_false_iff_not, Bool.not_eq_true, Bool.not_eq_false, Bool.not_eq_eq_eq_not, Bool.not_true, Bool.not_false, Int.not_lt, Int.not_le] at hb5_22
                refine g1 36 rfl rfl (x_move (by conv => lhs; whnf)) ?_
                refine g1 36 rfl rfl (x_neq rfl rfl) ?_
                refine p1 (x_pick_t rfl (by conv => lhs; whnf)) ?_
                exact l_cutend rfl (by repeat (first | exact Agr.refl _ _ | exact Agr.hav _ _ _ | refine Agr.upd rfl ?_ | refine Agr.updL ?_ _ rfl | refine Agr.hav' rfl ?_)) ⟨congrArg Value.bool (by first | rfl | exact (decide_eq_true (by omega)).symm | exact (decide_eq_false (by omega)).symm | exact decide_eq_decide.2 (by omega) | (simp_all; done) | grind), trivial⟩
              · try simp only [decide_eq_true_eq, decide_eq_false_iff_not, Bool.not_eq_true, Bool.not_eq_false, Bool.not_eq_eq_eq_not, Bool.not_true, Bool.not_false, Int.not_lt, Int.not_le] at hb5_22
                refine g0 36 rfl (by first | exact .inl rfl | exact .inr rfl) ?_
                refine g0 36 rfl (by first | exact .inl rfl | exact .inr rfl) ?_
                refine p1 (x_pick_f rfl (by conv => lhs; whnf)) ?_
                exact l_cutend rfl (by repeat (first | exact Agr.refl _ _ | exact Agr.hav _ _ _ | refine Agr.upd rfl ?_ | refine Agr.updL ?_ _ rfl | refine Agr.hav' rfl ?_)) ⟨congrArg Value.bool (by first | rfl | exact (decide_eq_true (by omega)).symm | exact (decide_eq_false (by omega)).symm | exact decide_eq_decide.2 (by omega) | (simp_all; done) | grind), trivial⟩
            · intro Gr5_22
              refine l_cut 4 [40, 41, 42, 43] [(43, .bool (decide ((((btAt s k).toNat : Int) < 97 ∨ 122 < ((btAt s k).toNat : Int)) ∧ (((btAt s k).toNat : Int) < 65 ∨ 90 < ((btAt s k).toNat : Int)) ∧ (((btAt s k).toNat : Int) < 48 ∨ 57 < ((btAt s k).toNat : Int)) ∧ ((btAt s k).toNat : Int) ≠ 46 ∧ ((btAt s k).toNat : Int) ≠ 95)))] ?_ ?_
              · skip
                refine p1b (x_move (by conv => lhs; whnf)) (fun hb5_26 => ?_) (fun hb5_26 => ?_)
                · try simp only [decide_eq_true_eq, decide_eq_false_iff_not, Bool.not_eq_true, Bool.not_eq_false, Bool.not_eq_eq_eq_not, Bool.not_true, Bool.not_false, Int.not_lt, Int.not_le] at hb5_26
                  refine g1 40 rfl rfl (x_move (by conv => lhs; whnf)) ?_
                  refine g1 40 rfl rfl (x_neq rfl rfl) ?_
                  refine p1 (x_pick_t rfl (by conv => lhs; whnf)) ?_
                  exact l_cutend rfl (by repeat (first | exact Agr.refl _ _ | exact Agr.hav _ _ _ | refine Agr.upd rfl ?_ | refine Agr.updL ?_ _ rfl | refine Agr.hav' rfl ?_)) ⟨congrArg Value.bool (by first | rfl | exact (decide_eq_true (by omega)).symm | exact (decide_eq_false (by omega)).symm | exact decide_eq_decide.2 (by omega) | (simp_all; done) | grind), trivial⟩
                · try simp only [decide_eq_true_eq, decide_eq_false_iff_not, Bool.not_eq_true, Bool.not_eq_false, Bool.not_eq_eq_eq_not, Bool.not_true, Bool.not_false, Int.not_lt, Int.not_le] at hb5_26
                  refine g0 40 rfl (by first | exact .inl rfl | exact .inr rfl) ?_
                  refine g0 40 rfl (by first | exact .inl rfl | exact .inr rfl) ?_
                  refine p1 (x_pick_f rfl (by conv => lhs; whnf)) ?_
                  exact l_cutend rfl (by repeat (first | exact Agr.refl _ _ | exact Agr.hav _ _ _ | refine Agr.upd rfl ?_ | refine Agr.updL ?_ _ rfl | refine Agr.hav' rfl ?_)) ⟨congrArg Value.bool (by first | rfl | exact (decide_eq_true (by omega)).symm | exact (decide_eq_false (by omega)).symm | exact decide_eq_decide.2 (by omega) | (simp_all; done) | grind), trivial⟩
              · intro Gr5_26
                refine p1b (x_move (by conv => lhs; whnf)) (fun hb5_30 => ?_) (fun hb5_30 => ?_)
                · try simp only [decide_eq_true_eq, decide_eq_false_iff_not, Bool.not_eq_true, Bool.not_eq_false, Bool.not_eq_eq_eq_not, Bool.not_true, Bool.not_false, Int.not_lt, Int.not_le] at hb5_30
                  refine g1 44 rfl rfl (x_move (by conv => lhs; whnf)) ?_
                  refine g1 44 rfl rfl (x_neq rfl rfl) ?_
                  refine p1 (x_pick_t rfl (by conv => lhs; whnf)) ?_
                  refine r_nil ?_
                  refine t_n (At.mk () (by repeat (first | exact Agr.refl _ _ | exact Agr.hav _ _ _ | refine Agr.upd rfl ?_ | refine Agr.updL ?_ _ rfl | refine Agr.hav' rfl ?_)) ⟨congrArg Value.bool (by first | rfl | exact (decide_eq_true (by omega)).symm | exact (decide_eq_false (by omega)).symm | exact decide_eq_decide.2 (by omega) | (simp_all; done) | grind), trivial⟩ hWr5)
                · try simp only [decide_eq_true_eq, decide_eq_false_iff_not, Bool.not_eq_true, Bool.not_eq_false, Bool.not_eq_eq_eq_not, Bool.not_true, Bool.not_false, Int.not_lt, Int.not_le] at hb5_30
                  refine g0 44 rfl (by first | exact .inl rfl | exact .inr rfl) ?_
                  refine g0 44 rfl (by first | exact .inl rfl | exact .inr rfl) ?_
                  refine p1 (x_pick_f rfl (by conv => lhs; whnf)) ?_
                  refine r_nil ?_
                  refine t_n (At.mk () (by repeat (first | exact Agr.refl _ _ | exact Agr.hav _ _ _ | refine Agr.upd rfl ?_ | refine Agr.updL ?_ _ rfl | refine Agr.hav' rfl ?_)) ⟨congrArg Value.bool (by first | rfl | exact (decide_eq_true (by omega)).symm | exact (decide_eq_false (by omega)).symm | exact decide_eq_decide.2 (by omega) | (simp_all; done) | grind), trivial⟩ hWr5)
    · rintro _ Gr5 w2 hE2
      have hX := hX.ext hE2
      have hWL0 := hWL0.ext hE2
      refine t_n ?_
      first | refine c_dec rfl (fun hc47 => ?_) (fun hc47 => ?_) | refine c_if rfl (fun hc47 => ?_) (fun hc47 => ?_)
      · try simp only [decide_eq_true_eq, decide_eq_false_iff_not, Bool.not_eq_true, Bool.not_eq_false, Bool.not_eq_eq_eq_not, Bool.not_true, Bool.not_false, Int.not_lt, Int.not_le] at hc47
        have hp := name_not (s := s) (i := k) (by omega) (by unfold okc; omega)
        refine c_seq ?_
        refine r_plain ?_
        refine p1 (x_assign (by conv => lhs; whnf)) ?_
        refine r_nil ?_
        refine t_n ?_
        refine c_ret ?_
        refine b_r ?_
        refine t_r ?_
        refine t_r ?_
        refine b_r ?_
        refine t_r ?_
        refine end1 rfl (by conv => lhs; whnf) ?_
        exact ⟨by rw [hp], hX⟩
      · try simp only [decide_eq_true_eq, decide_eq_false_iff_not, Bool.not_eq_true, Bool.not_eq_false, Bool.not_eq_eq_eq_not, Bool.not_true, Bool.not_false, Int.not_lt, Int.not_le] at hc47
        have hok : okc ((btAt s k).toNat : Int) := by unfold okc; omega
        refine c_skip ?_
        refine b_n ?_
        refine t_n ?_
        refine r_plain ?_
        refine p1 (x_move (by conv => lhs; whnf)) ?_
        refine p1 (x_add rfl rfl (fits_i64 (by omega) (by omega))) ?_
        refine p1 (x_assign (by conv => lhs; whnf)) ?_
        refine r_nil ?_
        refine t_n (At.mk (k + 1) (by repeat (first | exact Agr.refl _ _ | exact Agr.hav _ _ _ | refine Agr.upd rfl ?_ | refine Agr.updL ?_ _ rfl | refine Agr.hav' rfl ?_)) ⟨rfl, trivial⟩ ?_)
        exact ⟨⟨hWL0, ⟨by omega, fun i hi => if h : i < k then hL i h else by rw [show i = k from by omega]; exact hok⟩⟩, by first | (dsimp only; omega) | ((show _ < _); omega)⟩
  · try simp only [decide_eq_true_eq, decide_eq_false_iff_not, Bool.not_eq_true, Bool.not_eq_false, Bool.not_eq_eq_eq_not, Bool.not_true, Bool.not_false, Int.not_lt, Int.not_le] at hc8
    have ha : ∀ i, i < s.size → okc (btAt s i).toNat := fun i hi => hL i (by omega)
    have hp : isName s = decide (1 ≤ s.size ∧ s.size ≤ 32 ∧ s ≠ ⟨#[45]⟩) := by unfold isName; rw [name_all ha, Bool.and_true]
    refine c_exit ?_
    refine t_e ?_
    refine t_e ?_
    refine b_hit ?_
    refine t_n ?_
    refine c_seq ?_
    have hWr7 := Ext.refl w1
    refine c_cut (ι := Unit) [2, 48, 49, 50, 51, 52, 53, 54, 55, 56, 57, 58, 59] (fun _ => [(2, .bool (decide (1 ≤ s.size ∧ s.size ≤ 32 ∧ s ≠ ⟨#[45]⟩)))]) (fun _ w' => Ext w1 w') ?_ ?_
    · skip
      refine r_plain ?_
      refine p1 (x_move (by conv => lhs; whnf)) ?_
      refine p1 (x_len_str u9 rfl) ?_
      refine p1 (x_geq rfl rfl) ?_
      refine p1b (x_move (by conv => lhs; whnf)) (fun hb7_3 => ?_) (fun hb7_3 => ?_)
      · try simp only [decide_eq_true_eq, decide_eq_false_iff_not, Bool.not_eq_true, Bool.not_eq_false, Bool.not_eq_eq_eq_not, Bool.not_true, Bool.not_false, Int.not_lt, Int.not_le] at hb7_3
        refine g1 51 rfl rfl (x_move (by conv => lhs; whnf)) ?_
        refine g1 51 rfl rfl (x_len_str u9 rfl) ?_
        refine g1 51 rfl rfl (x_leq rfl rfl) ?_
        refine p1 (x_pick_t rfl (by conv => lhs; whnf)) ?_
        refine p1b (x_move (by conv => lhs; whnf)) (fun hb7_8 => ?_) (fun hb7_8 => ?_)
        · try simp only [decide_eq_true_eq, decide_eq_false_iff_not, Bool.not_eq_true, Bool.not_eq_false, Bool.not_eq_eq_eq_not, Bool.not_true, Bool.not_false, Int.not_lt, Int.not_le] at hb7_8
          refine g1 56 rfl rfl (x_move (by conv => lhs; whnf)) ?_
          refine g1 56 rfl rfl (x_neq_str rfl rfl) ?_
          refine p1 (x_pick_t rfl (by conv => lhs; whnf)) ?_
          refine p1 (x_assign (by conv => lhs; whnf)) ?_
          refine r_nil ?_
          refine t_n (At.mk () (by repeat (first | exact Agr.refl _ _ | exact Agr.hav _ _ _ | refine Agr.upd rfl ?_ | refine Agr.updL ?_ _ rfl | refine Agr.hav' rfl ?_)) ⟨congrArg Value.bool (by first | rfl | exact (decide_eq_true (by omega)).symm | exact (decide_eq_false (by omega)).symm | exact decide_eq_decide.2 (by omega) | (simp_all; done) | grind), trivial⟩ hWr7)
        · try simp only [decide_eq_true_eq, decide_eq_false_iff_not, Bool.not_eq_true, Bool.not_eq_false, Bool.not_eq_eq_eq_not, Bool.not_true, Bool.not_false, Int.not_lt, Int.not_le] at hb7_8
          refine g0 56 rfl (by first | exact .inl rfl | exact .inr rfl) ?_
          refine g0 56 rfl (by first | exact .inl rfl | exact .inr rfl) ?_
          refine p1 (x_pick_f rfl (by conv => lhs; whnf)) ?_
          refine p1 (x_assign (by conv => lhs; whnf)) ?_
          refine r_nil ?_
          refine t_n (At.mk () (by repeat (first | exact Agr.refl _ _ | exact Agr.hav _ _ _ | refine Agr.upd rfl ?_ | refine Agr.updL ?_ _ rfl | refine Agr.hav' rfl ?_)) ⟨congrArg Value.bool (by first | rfl | exact (decide_eq_true (by omega)).symm | exact (decide_eq_false (by omega)).symm | exact decide_eq_decide.2 (by omega) | (simp_all; done) | grind), trivial⟩ hWr7)
      · try simp only [decide_eq_true_eq, decide_eq_false_iff_not, Bool.not_eq_true, Bool.not_eq_false, Bool.not_eq_eq_eq_not, Bool.not_true, Bool.not_false, Int.not_lt, Int.not_le] at hb7_3
        refine g0 51 rfl (by first | exact .inl rfl | exact .inr rfl) ?_
        refine g0 51 rfl (by first | exact .inl rfl | exact .inr rfl) ?_
        refine g0 51 rfl (by first | exact .inl rfl | exact .inr rfl) ?_
        refine p1 (x_pick_f rfl (by conv => lhs; whnf)) ?_
        refine p1 (x_move (by conv => lhs; whnf)) ?_
        refine g0 56 rfl (by first | exact .inl rfl | exact .inr rfl) ?_
        refine g0 56 rfl (by first | exact .inl rfl | exact .inr rfl) ?_
        refine p1 (x_pick_f rfl (by conv => lhs; whnf)) ?_
        refine p1 (x_assign (by conv => lhs; whnf)) ?_
        refine r_nil ?_
        refine t_n (At.mk () (by repeat (first | exact Agr.refl _ _ | exact Agr.hav _ _ _ | refine Agr.upd rfl ?_ | refine Agr.updL ?_ _ rfl | refine Agr.hav' rfl ?_)) ⟨congrArg Value.bool (by first | rfl | exact (decide_eq_true (by omega)).symm | exact (decide_eq_false (by omega)).symm | exact decide_eq_decide.2 (by omega) | (simp_all; done) | grind), trivial⟩ hWr7)
    · rintro _ Gr7 w3 hE3
      have hX := hX.ext hE3
      refine t_n ?_
      refine c_ret ?_
      refine end1 rfl (by conv => lhs; whnf) ?_
      exact ⟨by rw [hp], hX⟩
theorem leb_Uint (N : Nat) (hN : N < 18446744073709551616) (w : World) :
    Ret Try.prog 82 [.int .u64 (N : Int)] w (fun v w' => (∃ p l c, v = .slice p l c ∧ Own kByte 5 0 w.heap.size w' p l c (lebU N)) ∧ Ext w w') := by
  have hX := Ext.refl w
  refine enter 20 _ Try.func82 rfl rfl (Nat.le_of_ble_eq_true rfl) ?_
  refine c_seq ?_
  refine r_plain ?_
  refine p1 (x_assign (by conv => lhs; whnf)) ?_
  refine r_nil ?_
  refine t_n ?_
  refine c_seq ?_
  refine r_plain ?_
  refine o_make u22 inf5 rfl rfl (by omega) (by omega) (by omega) (by omega) ?_
  intro w1 g4 hN4
  have hE1 := hN4.ext
  have hX := hX.ext hE1
  have hO : Own kByte 5 0 w.heap.size w1 (some ⟨g4, 0, none⟩) 0 10 [] := Own.made kByte 5 0 _ hN4 [] [] 0 10 rfl trivial (by have := hX.size; have := hN4.g_eq; have := hN4.ext.size; omega) (by omega) (by omega) (by rw [size_madeCells]; rfl) (by simp)
  refine p1 (x_assign (by conv => lhs; whnf)) ?_
  refine r_nil ?_
  refine t_n ?_
  refine c_seq ?_
  refine c_block ?_
  refine c_loop (ι := Nat × List UInt8 × Option Addr × Nat × Nat) [0, 3, 5, 6, 7, 8, 9, 10, 11, 12, 13, 14] (fun (m, acc, p, l, c) => [(0, .int .u64 (m : Int)), (3, .slice p l c)]) (fun (m, acc, p, l, c) w' => Ext w w' ∧ (Own kByte 5 0 w.heap.size w' p l c acc ∧ acc ++ lebU m = lebU N ∧ m < 18446744073709551616)) (fun (m, acc, p, l, c) => m) ((N, [], some ⟨g4, 0, none⟩, 0, 10)) ⟨rfl, rfl, trivial⟩ ⟨hX, ⟨hO, by simp, hN⟩⟩ ?_
  rintro ⟨m, acc, p, l, c⟩ GL0 w2 ⟨hE2, hO, hacc, hm⟩
  have hX := hE2
  refine c_seq ?_
  refine c_seq ?_
  refine r_plain ?_
  refine p1 (x_move (by conv => lhs; whnf)) ?_
  refine p1 (x_geq rfl rfl) ?_
  refine r_nil ?_
  refine t_n ?_
  first | refine c_dec rfl (fun hc6 => ?_) (fun hc6 => ?_) | refine c_if rfl (fun hc6 => ?_) (fun hc6 => ?_)
  · try simp only [decide_eq_true_eq, decide_eq_false_iff_not, Bool.not_eq_true, Bool.not_eq_false, Bool.not_eq_eq_eq_not, Bool.not_true, Bool.not_false, Int.not_lt, Int.not_le] at hc6
    refine c_skip ?_
    refine t_n ?_
    refine c_seq ?_
    refine c_block ?_
    refine r_plain ?_
    refine p1 (x_move (by conv => lhs; whnf)) ?_
    refine p1 (x_move (by conv => lhs; whnf)) ?_
    refine p1 (x_conv u5 us95 rfl) ?_
    refine p1 ((x_or rfl rfl).cast (congrArg _ (or128 m))) ?_
    refine o_buildSlice u22 inf5 rfl (by decide) (fun base hb => fill_one (by rfl) base hb) ?_
    intro w3 g13 hN13
    have hE3 := hN13.ext
    have hX := hX.ext hE3
    have hO := hO.ext hE3
    have hS : Blk w3 g13 #[cell (UInt8.ofNat (m % 128 + 128))] 5 := hN13.blk
    have hlen : acc.length = l := hO.len
    have hl10 := lebU_len10 hN
    rw [← hacc, List.length_append] at hl10
    have hB0 := hX.size
    refine o_append (d := kByte) ([UInt8.ofNat (m % 128 + 128)]) u22 inf5 rfl kByte_pos rfl rfl hO (src_byte u22 hS) rfl (byte_all _ _ _) (flat_single _) (by omega) (by omega) (by omega) (by omega) (by decide) ?_
    intro p14 c14 w4 hO hM4
    have hX := hX.mod hM4 (Nat.le_refl _)
    refine p1 (x_assign (by conv => lhs; whnf)) ?_
    refine r_nil ?_
    refine b_n ?_
    refine t_n ?_
    refine r_plain ?_
    refine p1 (x_move (by conv => lhs; whnf)) ?_
    refine p1 ((x_shr rfl rfl (by omega)).cast (congrArg _ (shr7 m))) ?_
    refine p1 (x_assign (by conv => lhs; whnf)) ?_
    refine r_nil ?_
    refine t_n (At.mk ((m / 128, acc ++ [UInt8.ofNat (m % 128 + 128)], p14, l + 1, c14)) (by repeat (first | exact Agr.refl _ _ | exact Agr.hav _ _ _ | refine Agr.upd rfl ?_ | refine Agr.updL ?_ _ rfl | refine Agr.hav' rfl ?_)) ⟨rfl, rfl, trivial⟩ ?_)
    exact ⟨⟨hX, ⟨hO, by rw [← hacc, lebU_ge (n := m) (by omega)]; simp, by omega⟩⟩, by first | (dsimp only; omega) | ((show _ < _); omega)⟩
  · try simp only [decide_eq_true_eq, decide_eq_false_iff_not, Bool.not_eq_true, Bool.not_eq_false, Bool.not_eq_eq_eq_not, Bool.not_true, Bool.not_false, Int.not_lt, Int.not_le] at hc6
    refine c_exit ?_
    refine t_e ?_
    refine t_e ?_
    refine b_hit ?_
    refine t_n ?_
    refine c_seq ?_
    refine r_plain ?_
    refine p1 (x_move (by conv => lhs; whnf)) ?_
    refine p1 (x_move (by conv => lhs; whnf)) ?_
    refine p1 ((x_convf u5 us95 rfl (fits_u8 (by omega) (by omega))).cast (congrArg _ (ofNat_toNat (n := m) (by omega)).symm)) ?_
    refine o_buildSlice u22 inf5 rfl (by decide) (fun base hb => fill_one (by rfl) base hb) ?_
    intro w5 g18 hN18
    have hE5 := hN18.ext
    have hX := hX.ext hE5
    have hO := hO.ext hE5
    have hS : Blk w5 g18 #[cell (UInt8.ofNat m)] 5 := hN18.blk
    have hlen : acc.length = l := hO.len
    have hl10 := lebU_len10 hN
    rw [← hacc, List.length_append] at hl10
    have hB0 := hX.size
    refine o_append (d := kByte) ([UInt8.ofNat m]) u22 inf5 rfl kByte_pos rfl rfl hO (src_byte u22 hS) rfl (byte_all _ _ _) (flat_single _) (by omega) (by omega) (by omega) (by omega) (by decide) ?_
    intro p19 c19 w6 hO hM6
    have hX := hX.mod hM6 (Nat.le_refl _)
    refine p1 (x_assign (by conv => lhs; whnf)) ?_
    refine r_nil ?_
    refine t_n ?_
    refine c_ret ?_
    refine end1 rfl (by conv => lhs; whnf) ?_
    rw [lebU_lt (n := m) (by omega)] at hacc
    exact ⟨⟨_, _, _, rfl, by rw [← hacc]; exact hO⟩, hX⟩
theorem ref02_Uint (N : Nat) (hN : N < 18446744073709551616) (w : World) :
    Ret Try.prog 98 [.int .u64 (N : Int)] w (fun v w' => (∃ p l c, v = .slice p l c ∧ Own kByte 5 0 w.heap.size w' p l c (lebU N)) ∧ Ext w w') := by
  have hX := Ext.refl w
  refine enter 20 _ Try.func98 rfl rfl (Nat.le_of_ble_eq_true rfl) ?_
  refine c_seq ?_
  refine r_plain ?_
  refine p1 (x_assign (by conv => lhs; whnf)) ?_
  refine r_nil ?_
  refine t_n ?_
  refine c_seq ?_
  refine r_plain ?_
  refine p1 (x_assign (by conv => lhs; whnf)) ?_
  refine r_nil ?_
  refine t_n ?_
  refine c_seq ?_
  refine c_block ?_
  have hO : Own kByte 5 0 w.heap.size w none 0 0 [] := Own.nil _ _ _ _ _
  refine c_loop (ι := Nat × List UInt8 × Option Addr × Nat × Nat) [0, 3, 4, 5, 6, 7, 8, 9, 10, 11, 12, 13, 14] (fun (m, acc, p, l, c) => [(0, .int .u64 (m : Int)), (3, .slice p l c)]) (fun (m, acc, p, l, c) w' => Ext w w' ∧ (Own kByte 5 0 w.heap.size w' p l c acc ∧ acc ++ lebU m = lebU N ∧ m < 18446744073709551616)) (fun (m, acc, p, l, c) => m) ((N, [], none, 0, 0)) ⟨rfl, rfl, trivial⟩ ⟨hX, ⟨hO, by simp, hN⟩⟩ ?_
  rintro ⟨m, acc, p, l, c⟩ GL0 w1 ⟨hE1, hO, hacc, hm⟩
  have hX := hE1
  refine c_seq ?_
  refine c_seq ?_
  refine r_plain ?_
  refine p1 (x_move (by conv => lhs; whnf)) ?_
  refine p1 (x_geq rfl rfl) ?_
  refine r_nil ?_
  refine t_n ?_
  first | refine c_dec rfl (fun hc5 => ?_) (fun hc5 => ?_) | refine c_if rfl (fun hc5 => ?_) (fun hc5 => ?_)
  · try simp only [decide_eq_true_eq, decide_eq_false_iff_not, Bool.not_eq_true, Bool.not_eq_false, Bool.not_eq_eq_eq_not, Bool.not_true, Bool.not_false, Int.not_lt, Int.not_le] at hc5
    refine c_skip ?_
    refine t_n ?_
    refine c_block ?_
    refine c_seq ?_
    refine r_plain ?_
    refine p1 (x_move (by conv => lhs; whnf)) ?_
    refine p1 (x_move (by conv => lhs; whnf)) ?_
    refine p1 (x_rem rfl rfl (by omega) (by omega)) ?_
    refine p1 (x_convf u5 us95 rfl (fits_u8 (by omega) (by omega))) ?_
    refine p1 ((x_add rfl rfl (fits_u8 (by omega) (by omega))).cast (congrArg _ (by rw [ofNat_toNat (by omega)]; omega : _ = ((UInt8.ofNat (m % 128 + 128)).toNat : Int)))) ?_
    refine o_buildSlice u22 inf5 rfl (by decide) (fun base hb => fill_one (by rfl) base hb) ?_
    intro w2 g11 hN11
    have hE2 := hN11.ext
    have hX := hX.ext hE2
    have hO := hO.ext hE2
    have hS : Blk w2 g11 #[cell (UInt8.ofNat (m % 128 + 128))] 5 := hN11.blk
    have hlen : acc.length = l := hO.len
    have hl10 := lebU_len10 hN
    rw [← hacc, List.length_append] at hl10
    have hB0 := hX.size
    refine o_append (d := kByte) ([UInt8.ofNat (m % 128 + 128)]) u22 inf5 rfl kByte_pos rfl rfl hO (src_byte u22 hS) rfl (byte_all _ _ _) (flat_single _) (by omega) (by omega) (by omega) (by omega) (by decide) ?_
    intro p12 c12 w3 hO hM3
    have hX := hX.mod hM3 (Nat.le_refl _)
    refine p1 (x_assign (by conv => lhs; whnf)) ?_
    refine r_nil ?_
    refine t_n ?_
    refine r_plain ?_
    refine p1 (x_move (by conv => lhs; whnf)) ?_
    refine p1 (x_quo rfl rfl (by omega) (by omega) (fits_u64 (by omega) (by omega))) ?_
    refine p1 (x_assign (by conv => lhs; whnf)) ?_
    refine r_nil ?_
    refine b_n ?_
    refine t_n (At.mk ((m / 128, acc ++ [UInt8.ofNat (m % 128 + 128)], p12, l + 1, c12)) (by repeat (first | exact Agr.refl _ _ | exact Agr.hav _ _ _ | refine Agr.upd rfl ?_ | refine Agr.updL ?_ _ rfl | refine Agr.hav' rfl ?_)) ⟨rfl, rfl, trivial⟩ ?_)
    exact ⟨⟨hX, ⟨hO, by rw [← hacc, lebU_ge (n := m) (by omega)]; simp, by omega⟩⟩, by first | (dsimp only; omega) | ((show _ < _); omega)⟩
  · try simp only [decide_eq_true_eq, decide_eq_false_iff_not, Bool.not_eq_true, Bool.not_eq_false, Bool.not_eq_eq_eq_not, Bool.not_true, Bool.not_false, Int.not_lt, Int.not_le] at hc5
    refine c_exit ?_
    refine t_e ?_
    refine t_e ?_
    refine b_hit ?_
    refine t_n ?_
    refine c_seq ?_
    refine r_plain ?_
    refine p1 (x_move (by conv => lhs; whnf)) ?_
    refine p1 (x_move (by conv => lhs; whnf)) ?_
    refine p1 ((x_convf u5 us95 rfl (fits_u8 (by omega) (by omega))).cast (congrArg _ (ofNat_toNat (n := m) (by omega)).symm)) ?_
    refine o_buildSlice u22 inf5 rfl (by decide) (fun base hb => fill_one (by rfl) base hb) ?_
    intro w4 g18 hN18
    have hE4 := hN18.ext
    have hX := hX.ext hE4
    have hO := hO.ext hE4
    have hS : Blk w4 g18 #[cell (UInt8.ofNat m)] 5 := hN18.blk
    have hlen : acc.length = l := hO.len
    have hl10 := lebU_len10 hN
    rw [← hacc, List.length_append] at hl10
    have hB0 := hX.size
    refine o_append (d := kByte) ([UInt8.ofNat m]) u22 inf5 rfl kByte_pos rfl rfl hO (src_byte u22 hS) rfl (byte_all _ _ _) (flat_single _) (by omega) (by omega) (by omega) (by omega) (by decide) ?_
    intro p19 c19 w5 hO hM5
    have hX := hX.mod hM5 (Nat.le_refl _)
    refine p1 (x_assign (by conv => lhs; whnf)) ?_
    refine r_nil ?_
    refine t_n ?_
    refine c_ret ?_
    refine end1 rfl (by conv => lhs; whnf) ?_
    rw [lebU_lt (n := m) (by omega)] at hacc
    exact ⟨⟨_, _, _, rfl, by rw [← hacc]; exact hO⟩, hX⟩
theorem leb_Text (s : ByteArray) (hs : s.size ≤ 140737488351232) (w : World) :
    Ret Try.prog 85 [.string s] w (fun v w' => (∃ p l c, v = .slice p l c ∧ Own kByte 5 0 w.heap.size w' p l c (lebU s.size ++ s.data.toList)) ∧ Ext w w') := by
  have hX := Ext.refl w
  refine enter 9 _ Try.func85 rfl rfl (Nat.le_of_ble_eq_true rfl) ?_
  refine c_seq ?_
  refine r_plain ?_
  refine p1 (x_assign (by conv => lhs; whnf)) ?_
  refine r_nil ?_
  refine t_n ?_
  refine c_seq ?_
  refine r_plain ?_
  refine p1 (x_move (by conv => lhs; whnf)) ?_
  refine p1 (x_len_str u9 rfl) ?_
  refine p1 (x_convf u95 us3 rfl (fits_u64 (by omega) (by omega))) ?_
  refine o_call Try.func82 fn82 fb82 (leb_Uint s.size (by omega) _) rfl ?_
  rintro v1 w1 ⟨⟨p6, l6, c6, rfl, hO⟩, hE1⟩
  have hX := hX.ext hE1
  refine p1 (x_move (by conv => lhs; whnf)) ?_
  have hlen := hO.len
  have hl10 := lebU_len10 (n := s.size) (by omega)
  have hB0 := hX.size
  have hO := hO.lower (B0' := w.heap.size) (by have := hX.size; omega)
  refine o_append (d := kByte) (s.data.toList) u22 inf5 rfl kByte_pos rfl rfl hO (src_str u9 s) (by simp) (byte_all _ _ _) (flat_single _) (by omega) (by omega) (by omega) (by omega) (by decide) ?_
  intro p8 c8 w2 hO hM2
  have hX := hX.mod hM2 (Nat.le_refl _)
  refine p1 (x_assign (by conv => lhs; whnf)) ?_
  refine r_nil ?_
  refine t_n ?_
  refine c_ret ?_
  refine end1 rfl (by conv => lhs; whnf) ?_
  exact ⟨⟨_, _, _, rfl, hO⟩, hX⟩
theorem ref02_Text (s : ByteArray) (hs : s.size ≤ 140737488351232) (w : World) :
    Ret Try.prog 118 [.string s] w (fun v w' => (∃ p l c, v = .slice p l c ∧ Own kByte 5 0 w.heap.size w' p l c (lebU s.size ++ s.data.toList)) ∧ Ext w w') := by
  have hX := Ext.refl w
  refine enter 9 _ Try.func118 rfl rfl (Nat.le_of_ble_eq_true rfl) ?_
  refine c_seq ?_
  refine r_plain ?_
  refine p1 (x_assign (by conv => lhs; whnf)) ?_
  refine r_nil ?_
  refine t_n ?_
  refine c_seq ?_
  refine r_plain ?_
  refine p1 (x_move (by conv => lhs; whnf)) ?_
  refine p1 (x_len_str u9 rfl) ?_
  refine p1 (x_convf u95 us3 rfl (fits_u64 (by omega) (by omega))) ?_
  refine o_call Try.func98 fn98 fb98 (ref02_Uint s.size (by omega) _) rfl ?_
  rintro v1 w1 ⟨⟨p6, l6, c6, rfl, hO⟩, hE1⟩
  have hX := hX.ext hE1
  refine p1 (x_move (by conv => lhs; whnf)) ?_
  have hlen := hO.len
  have hl10 := lebU_len10 (n := s.size) (by omega)
  have hB0 := hX.size
  have hO := hO.lower (B0' := w.heap.size) (by have := hX.size; omega)
  refine o_append (d := kByte) (s.data.toList) u22 inf5 rfl kByte_pos rfl rfl hO (src_str u9 s) (by simp) (byte_all _ _ _) (flat_single _) (by omega) (by omega) (by omega) (by omega) (by decide) ?_
  intro p8 c8 w2 hO hM2
  have hX := hX.mod hM2 (Nat.le_refl _)
  refine p1 (x_assign (by conv => lhs; whnf)) ?_
  refine r_nil ?_
  refine t_n ?_
  refine c_ret ?_
  refine end1 rfl (by conv => lhs; whnf) ?_
  exact ⟨⟨_, _, _, rfl, hO⟩, hX⟩
end Go.Proofs.Eng
end
section
set_option linter.unusedVariables false
set_option linter.unusedSimpArgs false
set_option maxRecDepth 100000
set_option maxHeartbeats 4000000
namespace Go.Proofs.Eng
open Go.RowKit
open Extern.Stop (cell)
theorem slices_Clone_hash (xs : List Hash) (B : Nat) (p : Option Addr) (n c : Nat) (w : World) (hl : Sl kHash 35 B w p n c xs) (hs : n ≤ 4194304000) :
    Ret Try.prog 89 [.slice p n c] w (fun v w' => (∃ q c', v = .slice q n c' ∧ Own kHash 35 0 w.heap.size w' q n c' xs) ∧ Ext w w') := by
  have hX := Ext.refl w
  refine enter 8 _ Try.func89 rfl rfl (Nat.le_of_ble_eq_true rfl) ?_
  refine c_seq ?_
  refine r_plain ?_
  refine p1 (x_assign (by conv => lhs; whnf)) ?_
  refine r_nil ?_
  refine t_n ?_
  refine c_seq ?_
  refine c_seq ?_
  refine r_plain ?_
  refine p1 (x_move (by conv => lhs; whnf)) ?_
  refine p1 (x_eql_slnil u31 rfl rfl) ?_
  refine r_nil ?_
  refine t_n ?_
  first | refine c_dec rfl (fun hc4 => ?_) (fun hc4 => ?_) | refine c_if rfl (fun hc4 => ?_) (fun hc4 => ?_)
  · try simp only [decide_eq_true_eq, decide_eq_false_iff_not, Bool.not_eq_true, Bool.not_eq_false, Bool.not_eq_eq_eq_not, Bool.not_true, Bool.not_false, Int.not_lt, Int.not_le] at hc4
    have hn : n = 0 := by
      rcases Nat.eq_zero_or_pos n with h | h
      · exact h
      · have := hl.adr kHash_pos h; rw [hc4] at this; cases this
    have hx0 : xs = [] := List.eq_nil_of_length_eq_zero (by rw [hl.len, hn])
    have hp : Own kHash 35 0 w.heap.size w none 0 0 xs := by rw [hx0]; exact Own.nil _ _ _ _ _
    refine c_seq ?_
    refine r_plain ?_
    refine p1 (x_assign (by conv => lhs; whnf)) ?_
    refine r_nil ?_
    refine t_n ?_
    refine c_ret ?_
    refine t_r ?_
    refine end1 rfl (by conv => lhs; whnf) ?_
    first | (subst hn; exact ⟨⟨none, 0, rfl, hp⟩, hX⟩) | exact ⟨⟨_, _, by rw [Nat.zero_add], by rw [List.nil_append, Nat.zero_add] at hO; exact hO⟩, hX⟩
  · try simp only [decide_eq_true_eq, decide_eq_false_iff_not, Bool.not_eq_true, Bool.not_eq_false, Bool.not_eq_eq_eq_not, Bool.not_true, Bool.not_false, Int.not_lt, Int.not_le] at hc4
    refine c_skip ?_
    refine t_n ?_
    refine c_seq ?_
    refine r_plain ?_
    refine o_buildSlice u31 inf35 rfl (by decide) (fun base hb => by have h0 : base = #[] := Array.eq_empty_of_size_eq_zero (by simpa using hb); subst h0; rfl) ?_
    intro w1 g5 hN5
    have hE1 := hN5.ext
    have hX := hX.ext hE1
    have hO : Own kHash 35 0 w.heap.size w1 (some ⟨g5, 0, none⟩) 0 0 [] := Own.made kHash 35 0 _ hN5 [] [] 0 0 rfl trivial (by have := hX.size; have := hN5.g_eq; have := hN5.ext.size; omega) (by omega) (by omega) (by rfl) (by simp)
    refine p1 (x_move (by conv => lhs; whnf)) ?_
    have hB0 := hX.size
    have hl2 := hl.ext hX
    refine o_append (d := kHash) (xs) u31 inf35 rfl kHash_pos rfl rfl hO (src_pure u31 hl2 (by decide)) hl.len (hash_all _ _ _) (rfl) (by omega) (by omega) (by omega) (by omega) (by decide) ?_
    intro p7 c7 w2 hO hM2
    have hX := hX.mod hM2 (Nat.le_refl _)
    refine p1 (x_assign (by conv => lhs; whnf)) ?_
    refine r_nil ?_
    refine t_n ?_
    refine c_ret ?_
    refine end1 rfl (by conv => lhs; whnf) ?_
    first | (subst hn; exact ⟨⟨none, 0, rfl, hp⟩, hX⟩) | exact ⟨⟨_, _, by rw [Nat.zero_add], by rw [List.nil_append, Nat.zero_add] at hO; exact hO⟩, hX⟩
theorem slices_Compact_hash (xs : List Hash) (B0 : Nat) (p : Option Addr) (n c : Nat) (w : World) (hO : Own kHash 35 0 B0 w p n c xs) :
    Ret Try.prog 92 [.slice p n c] w (fun v w' => ∃ m, m ≤ n ∧ v = .slice p m c ∧ Own kHash 35 0 B0 w' p m c (cpt xs n) ∧ Mod B0 35 w w') := by
  have hX := Mod.refl B0 35 w
  refine enter 61 _ Try.func92 rfl rfl (Nat.le_of_ble_eq_true rfl) ?_
  refine c_seq ?_
  refine r_plain ?_
  refine p1 (x_assign (by conv => lhs; whnf)) ?_
  refine r_nil ?_
  refine t_n ?_
  refine c_seq ?_
  refine c_seq ?_
  have hlen := hO.len
  have hsm := hO.small
  refine r_plain ?_
  refine p1 (x_move (by conv => lhs; whnf)) ?_
  refine p1 (x_len_slice u31 rfl) ?_
  refine p1 (x_lss rfl rfl) ?_
  refine r_nil ?_
  refine t_n ?_
  first | refine c_dec rfl (fun hc8 => ?_) (fun hc8 => ?_) | refine c_if rfl (fun hc8 => ?_) (fun hc8 => ?_)
  · try simp only [decide_eq_true_eq, decide_eq_false_iff_not, Bool.not_eq_true, Bool.not_eq_false, Bool.not_eq_eq_eq_not, Bool.not_true, Bool.not_false, Int.not_lt, Int.not_le] at hc8
    have hp : cpt xs n = xs := by rw [cpt_take n (by omega) (fun i h1 h2 => by omega), List.take_of_length_le (by omega)]
    refine c_seq ?_
    refine r_plain ?_
    refine p1 (x_move (by conv => lhs; whnf)) ?_
    refine p1 (x_assign (by conv => lhs; whnf)) ?_
    refine r_nil ?_
    refine t_n ?_
    refine c_ret ?_
    refine t_r ?_
    refine end1 rfl (by conv => lhs; whnf) ?_
    first | exact ⟨n, Nat.le_refl _, rfl, (by rw [hp]; exact hO), hX⟩ | exact ⟨m, by omega, rfl, (by rw [← hmt]; exact hO), hX⟩
  · try simp only [decide_eq_true_eq, decide_eq_false_iff_not, Bool.not_eq_true, Bool.not_eq_false, Bool.not_eq_eq_eq_not, Bool.not_true, Bool.not_false, Int.not_lt, Int.not_le] at hc8
    refine c_skip ?_
    refine t_n ?_
    refine c_seq ?_
    refine c_seq ?_
    refine r_plain ?_
    refine p1 (x_assign (by conv => lhs; whnf)) ?_
    refine r_nil ?_
    refine t_n ?_
    refine c_block ?_
    have hWL0 := Ext.refl w
    refine c_loop (ι := Nat) [2, 3, 4, 5, 10, 11, 12, 13, 14, 15, 16, 17, 18, 19, 20, 21, 22, 23, 24, 25, 26, 27, 28, 29, 30, 31, 32, 33, 34, 35, 36, 37, 38, 39, 40, 41, 42, 43, 44, 45, 46, 47, 48, 49, 50, 51, 52, 53, 54, 55, 56, 57, 58, 59] (fun k => [(3, .int .i64 (k : Int))]) (fun k w' => Ext w w' ∧ (1 ≤ k ∧ k ≤ n ∧ ∀ i, 0 < i → i < k → xs.getD i default ≠ xs.getD (i - 1) default)) (fun k => n - k) (1) ⟨rfl, trivial⟩ ⟨Ext.refl _, ⟨by omega, by omega, fun i h1 h2 => by omega⟩⟩ ?_
    rintro k GL0 w1 ⟨hE1, hk1, hkn, hL⟩
    have hX := hX.ext hE1
    have hO := hO.ext hE1
    have hWL0 := hE1
    refine c_seq ?_
    refine c_seq ?_
    refine r_plain ?_
    refine p1 (x_move (by conv => lhs; whnf)) ?_
    refine p1 (x_move (by conv => lhs; whnf)) ?_
    refine p1 (x_len_slice u31 rfl) ?_
    refine p1 (x_lss rfl rfl) ?_
    refine r_nil ?_
    refine t_n ?_
    first | refine c_dec rfl (fun hc13 => ?_) (fun hc13 => ?_) | refine c_if rfl (fun hc13 => ?_) (fun hc13 => ?_)
    · try simp only [decide_eq_true_eq, decide_eq_false_iff_not, Bool.not_eq_true, Bool.not_eq_false, Bool.not_eq_eq_eq_not, Bool.not_true, Bool.not_false, Int.not_lt, Int.not_le] at hc13
      refine c_skip ?_
      refine t_n ?_
      refine c_seq ?_
      refine c_block ?_
      refine c_seq ?_
      refine r_still mixed (by kernel_rfl) ?_
      intro w2 hE2
      have hX := hX.ext hE2
      have hO := hO.ext hE2
      have hWL0 := hWL0.ext hE2
      refine s1 (x_move (by conv => lhs; whnf)) ?_
      refine s1 (x_move (by conv => lhs; whnf)) ?_
      refine s1 (x_ixs u31 sz35 rfl rfl (hO.sl.adr kHash_pos (by omega)) (by omega) (by omega)) ?_
      refine s1 (x_loadN ua35 rfl (hcs_sz sz35 _) (hO.sl.hashAt _ (by omega) (by omega))) ?_
      refine s1 (x_move (by conv => lhs; whnf)) ?_
      refine s1 (x_move (by conv => lhs; whnf)) ?_
      refine s1 (x_sub rfl rfl (fits_i64 (by omega) (by omega))) ?_
      refine s1 (x_ixs u31 sz35 rfl rfl (hO.sl.adr kHash_pos (by omega)) (by omega) (by omega)) ?_
      refine s1 (x_loadN ua35 rfl (hcs_sz sz35 _) (hO.sl.hashAt _ (by omega) (by omega))) ?_
      refine s1 (x_eql_bytes u35 u5 sz5 eg35 rfl rfl (xs.getD _ default).2 (xs.getD _ default).2) ?_
      refine s_nil ?_
      refine t_n ?_
      first | refine c_dec rfl (fun hc25 => ?_) (fun hc25 => ?_) | refine c_if rfl (fun hc25 => ?_) (fun hc25 => ?_)
      · try simp only [decide_eq_true_eq, decide_eq_false_iff_not, Bool.not_eq_true, Bool.not_eq_false, Bool.not_eq_eq_eq_not, Bool.not_true, Bool.not_false, Int.not_lt, Int.not_le] at hc25
        have hq : xs.getD k default = xs.getD (k - 1) default := by have := Subtype.ext hc25; rw [show ((k : Int) - 1).toNat = k - 1 from by omega, Int.toNat_natCast] at this; exact this
        have hq2 : cpt xs (k + 1) = xs.take k := by rw [cpt_eq (by omega) hq, cpt_take k (by omega) hL]
        refine c_seq ?_
        refine r_plain ?_
        refine p1 (x_move (by conv => lhs; whnf)) ?_
        refine p1 (x_move (by conv => lhs; whnf)) ?_
        refine p1 (x_slice_lN u31 sz35 rfl rfl (by omega)) ?_
        refine p1 (x_assign (by conv => lhs; whnf)) ?_
        refine r_nil ?_
        refine t_n ?_
        refine c_seq ?_
        refine c_seq ?_
        refine r_plain ?_
        refine p1 (x_assign (by conv => lhs; whnf)) ?_
        refine r_nil ?_
        refine t_n ?_
        refine c_block ?_
        refine c_loop (ι := Nat × Nat × List Hash) [3, 5, 29, 30, 31, 32, 33, 34, 35, 36, 37, 38, 39, 40, 41, 42, 43, 44, 45, 46, 47, 48, 49, 50, 51, 52, 53] (fun (j, m, zs) => [(3, .int .i64 (m : Int)), (5, .int .i64 (j : Int))]) (fun (j, m, zs) w' => Mod B0 35 w w' ∧ (Own kHash 35 0 B0 w' p n c zs ∧ 1 ≤ j ∧ k + j ≤ n ∧ m < k + j ∧ m = (cpt xs (k + j)).length ∧ zs.take m = cpt xs (k + j) ∧ zs.drop (k + j - 1) = xs.drop (k + j - 1))) (fun (j, m, zs) => n - k - j) ((1, k, xs)) ⟨rfl, rfl, trivial⟩ ⟨hX, ⟨hO, by omega, by omega, by omega, by rw [hq2, List.length_take]; omega, hq2.symm, rfl⟩⟩ ?_
        rintro ⟨j, m, zs⟩ GL2 w3 ⟨hE3, hO, hj1, hjn, hmk, hml, hmt, hmd⟩
        have hX := hE3
        refine c_seq ?_
        refine c_seq ?_
        refine r_plain ?_
        refine p1 (x_move (by conv => lhs; whnf)) ?_
        refine p1 (x_move (by conv => lhs; whnf)) ?_
        refine p1 (x_len_slice u31 rfl) ?_
        refine p1 (x_lss rfl rfl) ?_
        refine r_nil ?_
        refine t_n ?_
        first | refine c_dec rfl (fun hc32 => ?_) (fun hc32 => ?_) | refine c_if rfl (fun hc32 => ?_) (fun hc32 => ?_)
        · try simp only [decide_eq_true_eq, decide_eq_false_iff_not, Bool.not_eq_true, Bool.not_eq_false, Bool.not_eq_eq_eq_not, Bool.not_true, Bool.not_false, Int.not_lt, Int.not_le] at hc32
          refine c_skip ?_
          refine t_n ?_
          refine c_seq ?_
          refine c_block ?_
          refine c_seq ?_
          have hlz := hO.len
          have ez : ∀ i, k + j - 1 ≤ k + i → (zs.drop k).getD i default = xs.getD (k + i) default := fun i hi => by
            have h1 := congrArg (fun l => l.getD (k + i - (k + j - 1)) default) hmd
            simp only [List.getD_eq_getElem?_getD, List.getElem?_drop] at h1 ⊢
            rw [show k + j - 1 + (k + i - (k + j - 1)) = k + i from by omega] at h1
            exact h1
          refine r_still mixed (by kernel_rfl) ?_
          intro w4 hE4
          have hX := hX.ext hE4
          have hO := hO.ext hE4
          refine s1 (x_move (by conv => lhs; whnf)) ?_
          refine s1 (x_move (by conv => lhs; whnf)) ?_
          refine s1 (x_ixs u31 sz35 rfl rfl ((hO.sl.dropI k (by omega)).adr kHash_pos (by omega)) (by omega) (by omega)) ?_
          refine s1 (x_loadN ua35 rfl (hcs_sz sz35 _) ((hO.sl.dropI k (by omega)).hashAt _ (by omega) (by omega))) ?_
          refine s1 (x_move (by conv => lhs; whnf)) ?_
          refine s1 (x_move (by conv => lhs; whnf)) ?_
          refine s1 (x_sub rfl rfl (fits_i64 (by omega) (by omega))) ?_
          refine s1 (x_ixs u31 sz35 rfl rfl ((hO.sl.dropI k (by omega)).adr kHash_pos (by omega)) (by omega) (by omega)) ?_
          refine s1 (x_loadN ua35 rfl (hcs_sz sz35 _) ((hO.sl.dropI k (by omega)).hashAt _ (by omega) (by omega))) ?_
          refine s1 (x_neq_bytes u35 u5 sz5 eg35 rfl rfl ((zs.drop k).getD _ default).2 ((zs.drop k).getD _ default).2) ?_
          refine s_nil ?_
          refine t_n ?_
          first | refine c_dec rfl (fun hc44 => ?_) (fun hc44 => ?_) | refine c_if rfl (fun hc44 => ?_) (fun hc44 => ?_)
          · try simp only [decide_eq_true_eq, decide_eq_false_iff_not, Bool.not_eq_true, Bool.not_eq_false, Bool.not_eq_eq_eq_not, Bool.not_true, Bool.not_false, Int.not_lt, Int.not_le] at hc44
            have hne : xs.getD (k + j) default ≠ xs.getD (k + j - 1) default := fun e => hc44 (by rw [show ((j : Int) - 1).toNat = j - 1 from by omega, Int.toNat_natCast, ez j (by omega), ez (j - 1) (by omega), show k + (j - 1) = k + j - 1 from by omega, e])
            have hcp : cpt xs (k + j + 1) = cpt xs (k + j) ++ [xs.getD (k + j) default] := cpt_ne hne
            have ey : (zs.drop k).getD ((j : Int)).toNat default = xs.getD (k + j) default := by rw [Int.toNat_natCast, ez j (by omega)]
            refine c_seq ?_
            refine r_plain ?_
            refine p1 (x_move (by conv => lhs; whnf)) ?_
            refine p1 (x_move (by conv => lhs; whnf)) ?_
            refine p1 (x_move (by conv => lhs; whnf)) ?_
            refine p1 (x_move (by conv => lhs; whnf)) ?_
            refine p1 (x_ixs u31 sz35 rfl rfl ((hO.sl.dropI k (by omega)).adr kHash_pos (by omega)) (by omega) (by omega)) ?_
            refine p1 (x_loadN ua35 rfl (hcs_sz sz35 _) ((hO.sl.dropI k (by omega)).hashAt _ (by omega) (by omega))) ?_
            refine p1 (x_ixs u31 sz35 rfl rfl (hO.sl.adr kHash_pos (by omega)) (by omega) (by omega)) ?_
            refine o_storeSl (d := kHash) (i := m) ((zs.drop k).getD ((j : Int)).toNat default) rfl rfl hO (by omega) rfl sz35 (Nat.zero_le _) (by decide) ?_
            intro w5 hO hM5
            have hX := hX.mod hM5 (trivial)
            refine r_nil ?_
            refine t_n ?_
            refine r_plain ?_
            refine p1 (x_move (by conv => lhs; whnf)) ?_
            refine p1 (x_add rfl rfl (fits_i64 (by omega) (by omega))) ?_
            refine p1 (x_assign (by conv => lhs; whnf)) ?_
            refine r_nil ?_
            refine b_n ?_
            refine t_n ?_
            refine r_plain ?_
            refine p1 (x_move (by conv => lhs; whnf)) ?_
            refine p1 (x_add rfl rfl (fits_i64 (by omega) (by omega))) ?_
            refine p1 (x_assign (by conv => lhs; whnf)) ?_
            refine r_nil ?_
            first
              | exact t_n (At.mk ((j + 1, m + 1, zs.set m ((zs.drop k).getD ((j : Int)).toNat default))) (by repeat (first | exact Agr.refl _ _ | exact Agr.hav _ _ _ | refine Agr.upd rfl ?_ | refine Agr.updL ?_ _ rfl | refine Agr.hav' rfl ?_)) ⟨rfl, rfl, trivial⟩ ⟨⟨hX, hO, by omega, by omega, by omega, by rw [← Nat.add_assoc, hcp, List.length_append, ← hml]; rfl, by rw [← Nat.add_assoc, hcp, ey, List.take_succ_eq_append_getElem (by rw [List.length_set]; omega), List.getElem_set_self, List.take_set_of_le (Nat.le_refl _), hmt], by rw [List.drop_set_of_lt (by omega)]; exact drop_more hmd (by omega)⟩, by first | (dsimp only; omega) | ((show _ < _); omega)⟩)
              | exact t_n (At.mk ((j + 1, m, zs)) (by repeat (first | exact Agr.refl _ _ | exact Agr.hav _ _ _ | refine Agr.upd rfl ?_ | refine Agr.updL ?_ _ rfl | refine Agr.hav' rfl ?_)) ⟨rfl, rfl, trivial⟩ ⟨⟨hX, hO, by omega, by omega, by omega, by rw [← Nat.add_assoc, hcp]; exact hml, by rw [← Nat.add_assoc, hcp]; exact hmt, drop_more hmd (by omega)⟩, by first | (dsimp only; omega) | ((show _ < _); omega)⟩)
          · try simp only [decide_eq_true_eq, decide_eq_false_iff_not, Bool.not_eq_true, Bool.not_eq_false, Bool.not_eq_eq_eq_not, Bool.not_true, Bool.not_false, Int.not_lt, Int.not_le] at hc44
            have heq : xs.getD (k + j) default = xs.getD (k + j - 1) default := by
              have h1 := Subtype.ext (Classical.byContradiction hc44)
              rw [show ((j : Int) - 1).toNat = j - 1 from by omega, Int.toNat_natCast, ez j (by omega), ez (j - 1) (by omega), show k + (j - 1) = k + j - 1 from by omega] at h1
              exact h1
            have hcp : cpt xs (k + j + 1) = cpt xs (k + j) := cpt_eq (by omega) heq
            refine c_skip ?_
            refine b_n ?_
            refine t_n ?_
            refine r_plain ?_
            refine p1 (x_move (by conv => lhs; whnf)) ?_
            refine p1 (x_add rfl rfl (fits_i64 (by omega) (by omega))) ?_
            refine p1 (x_assign (by conv => lhs; whnf)) ?_
            refine r_nil ?_
            first
              | exact t_n (At.mk ((j + 1, m + 1, zs.set m ((zs.drop k).getD ((j : Int)).toNat default))) (by repeat (first | exact Agr.refl _ _ | exact Agr.hav _ _ _ | refine Agr.upd rfl ?_ | refine Agr.updL ?_ _ rfl | refine Agr.hav' rfl ?_)) ⟨rfl, rfl, trivial⟩ ⟨⟨hX, hO, by omega, by omega, by omega, by rw [← Nat.add_assoc, hcp, List.length_append, ← hml]; rfl, by rw [← Nat.add_assoc, hcp, ey, List.take_succ_eq_append_getElem (by rw [List.length_set]; omega), List.getElem_set_self, List.take_set_of_le (Nat.le_refl _), hmt], by rw [List.drop_set_of_lt (by omega)]; exact drop_more hmd (by omega)⟩, by first | (dsimp only; omega) | ((show _ < _); omega)⟩)
              | exact t_n (At.mk ((j + 1, m, zs)) (by repeat (first | exact Agr.refl _ _ | exact Agr.hav _ _ _ | refine Agr.upd rfl ?_ | refine Agr.updL ?_ _ rfl | refine Agr.hav' rfl ?_)) ⟨rfl, rfl, trivial⟩ ⟨⟨hX, hO, by omega, by omega, by omega, by rw [← Nat.add_assoc, hcp]; exact hml, by rw [← Nat.add_assoc, hcp]; exact hmt, drop_more hmd (by omega)⟩, by first | (dsimp only; omega) | ((show _ < _); omega)⟩)
        · try simp only [decide_eq_true_eq, decide_eq_false_iff_not, Bool.not_eq_true, Bool.not_eq_false, Bool.not_eq_eq_eq_not, Bool.not_true, Bool.not_false, Int.not_lt, Int.not_le] at hc32
          have hjj : k + j = n := by omega
          have hlz := hO.len
          rw [hjj] at hmt
          refine c_exit ?_
          refine t_e ?_
          refine t_e ?_
          refine b_hit ?_
          refine t_n ?_
          refine c_seq ?_
          refine r_plain ?_
          refine p1 (x_move (by conv => lhs; whnf)) ?_
          refine p1 (x_move (by conv => lhs; whnf)) ?_
          refine p1 (x_slice_lN u31 sz35 rfl rfl (by omega)) ?_
          refine o_clear (d := kHash) u31 inf35 rfl (by decide) kHash_pos rfl hO (by omega) (Nat.zero_le _) (by decide) ?_
          intro w6 hO hM6
          have hX := hX.mod hM6 (trivial)
          refine r_nil ?_
          refine t_n ?_
          refine c_seq ?_
          refine r_plain ?_
          refine p1 (x_move (by conv => lhs; whnf)) ?_
          refine p1 (x_move (by conv => lhs; whnf)) ?_
          refine p1 (x_slice_hN u31 sz35 rfl rfl (by omega)) ?_
          refine p1 (x_assign (by conv => lhs; whnf)) ?_
          refine r_nil ?_
          refine t_n ?_
          refine c_ret ?_
          refine b_r ?_
          refine t_r ?_
          refine t_r ?_
          refine b_r ?_
          refine t_r ?_
          refine end1 rfl (by conv => lhs; whnf) ?_
          first | exact ⟨n, Nat.le_refl _, rfl, (by rw [hp]; exact hO), hX⟩ | exact ⟨m, by omega, rfl, (by rw [← hmt]; exact hO), hX⟩
      · try simp only [decide_eq_true_eq, decide_eq_false_iff_not, Bool.not_eq_true, Bool.not_eq_false, Bool.not_eq_eq_eq_not, Bool.not_true, Bool.not_false, Int.not_lt, Int.not_le] at hc25
        have hq : xs.getD k default ≠ xs.getD (k - 1) default := fun e => hc25 (by rw [show ((k : Int) - 1).toNat = k - 1 from by omega, Int.toNat_natCast, e])
        refine c_skip ?_
        refine b_n ?_
        refine t_n ?_
        refine r_plain ?_
        refine p1 (x_move (by conv => lhs; whnf)) ?_
        refine p1 (x_add rfl rfl (fits_i64 (by omega) (by omega))) ?_
        refine p1 (x_assign (by conv => lhs; whnf)) ?_
        refine r_nil ?_
        refine t_n (At.mk (k + 1) (by repeat (first | exact Agr.refl _ _ | exact Agr.hav _ _ _ | refine Agr.upd rfl ?_ | refine Agr.updL ?_ _ rfl | refine Agr.hav' rfl ?_)) ⟨rfl, trivial⟩ ?_)
        exact ⟨⟨hWL0, ⟨by omega, by omega, fun i h1 h2 => if h : i < k then hL i h1 h else by rw [show i = k from by omega]; exact hq⟩⟩, by first | (dsimp only; omega) | ((show _ < _); omega)⟩
    · try simp only [decide_eq_true_eq, decide_eq_false_iff_not, Bool.not_eq_true, Bool.not_eq_false, Bool.not_eq_eq_eq_not, Bool.not_true, Bool.not_false, Int.not_lt, Int.not_le] at hc13
      have hp : cpt xs n = xs := by rw [cpt_take n (by omega) (fun i h1 h2 => hL i h1 (by omega)), List.take_of_length_le (by omega)]
      refine c_exit ?_
      refine t_e ?_
      refine t_e ?_
      refine b_hit ?_
      refine t_n ?_
      refine c_seq ?_
      refine r_plain ?_
      refine p1 (x_move (by conv => lhs; whnf)) ?_
      refine p1 (x_assign (by conv => lhs; whnf)) ?_
      refine r_nil ?_
      refine t_n ?_
      refine c_ret ?_
      refine end1 rfl (by conv => lhs; whnf) ?_
      first | exact ⟨n, Nat.le_refl _, rfl, (by rw [hp]; exact hO), hX⟩ | exact ⟨m, by omega, rfl, (by rw [← hmt]; exact hO), hX⟩
end Go.Proofs.Eng
end
section
set_option linter.unusedVariables false
set_option linter.unusedSimpArgs false
set_option maxRecDepth 100000
set_option maxHeartbeats 4000000
namespace Go.Proofs.Eng
open Go.RowKit
open Extern.Stop (cell)
theorem hashes_Sort (xs : List Hash) (B : Nat) (p : Option Addr) (n c : Nat) (w : World) (hl : Sl kHash 35 B w p n c xs) (hs : n ≤ 4194304000) :
    Ret Try.prog 35 [.slice p n c] w (fun v w' => (∃ q m c', v = .slice q m c' ∧ m ≤ n ∧ Own kHash 35 0 w.heap.size w' q m c' (srt xs)) ∧ Ext w w') := by
  have hX := Ext.refl w
  refine enter 10 _ Try.func35 rfl rfl (Nat.le_of_ble_eq_true rfl) ?_
  refine c_seq ?_
  refine r_plain ?_
  refine p1 (x_assign (by conv => lhs; whnf)) ?_
  refine r_nil ?_
  refine t_n ?_
  refine c_seq ?_
  refine r_plain ?_
  refine p1 (x_move (by conv => lhs; whnf)) ?_
  refine o_call Try.func89 fn89 fb89 (slices_Clone_hash xs B p n c _ (hl.ext hX) hs) rfl ?_
  rintro v1 w1 ⟨⟨q, c1, rfl, hO⟩, hE1⟩
  have hX := hX.ext hE1
  refine p1 (x_assign (by conv => lhs; whnf)) ?_
  refine r_nil ?_
  refine t_n ?_
  refine c_seq ?_
  refine r_plain ?_
  refine p1 (x_move (by conv => lhs; whnf)) ?_
  refine o_call Try.func90 fn90 fb90 (slices_SortFunc_hash xs _ _ _ _ _ hO hs) rfl ?_
  rintro v2 w2 ⟨ys, hO, hpm, hso, hM2⟩
  have hX := hX.mod hM2 (Nat.le_refl _)
  refine r_nil ?_
  refine t_n ?_
  refine c_seq ?_
  refine r_plain ?_
  refine p1 (x_move (by conv => lhs; whnf)) ?_
  refine o_call Try.func92 fn92 fb92 (slices_Compact_hash ys _ _ _ _ _ hO) rfl ?_
  rintro v3 w3 ⟨m, hm, rfl, hO2, hM3⟩
  have hX := hX.mod hM3 (Nat.le_refl _)
  refine p1 (x_assign (by conv => lhs; whnf)) ?_
  refine r_nil ?_
  refine t_n ?_
  refine c_ret ?_
  refine end1 rfl (by conv => lhs; whnf) ?_
  exact ⟨⟨_, _, _, rfl, hm, by rw [← srt_cpt hpm hso hO.len]; exact hO2⟩, hX⟩
theorem hashes_Same (xs ys : List Hash) (B B2 : Nat) (p q : Option Addr) (n c m c2 : Nat) (w : World) (ha : Sl kHash 35 B w p n c xs) (hb : Sl kHash 35 B2 w q m c2 ys) :
    Ret Try.prog 40 [.slice p n c, .slice q m c2] w (fun v w' => v = .bool (decide (xs = ys)) ∧ Ext w w') := by
  have hX := Ext.refl w
  refine enter 8 _ Try.func40 rfl rfl (Nat.le_of_ble_eq_true rfl) ?_
  refine c_seq ?_
  refine r_plain ?_
  refine p1 (x_assign (by conv => lhs; whnf)) ?_
  refine r_nil ?_
  refine t_n ?_
  refine c_seq ?_
  refine r_plain ?_
  refine p1 (x_move (by conv => lhs; whnf)) ?_
  refine p1 (x_move (by conv => lhs; whnf)) ?_
  refine o_call Try.func88 fn88 fb88 (slices_Equal_hash xs ys _ _ _ _ _ _ _ _ _ (ha.ext hX) (hb.ext hX)) rfl ?_
  rintro v1 w1 ⟨rfl, hE1⟩
  have hX := hX.ext hE1
  refine p1 (x_assign (by conv => lhs; whnf)) ?_
  refine r_nil ?_
  refine t_n ?_
  refine c_ret ?_
  refine end1 rfl (by conv => lhs; whnf) ?_
  exact ⟨rfl, hX⟩
end Go.Proofs.Eng
end
section
set_option linter.unusedVariables false
set_option linter.unusedSimpArgs false
set_option maxRecDepth 100000
set_option maxHeartbeats 4000000
namespace Go.Proofs.Eng
open Go.RowKit
open Extern.Stop (cell)
theorem branch_New (w : World) :
    Ret Try.prog 62 [] w (fun v w' => (∃ g r, v = .pointer (some ⟨g, 0, none⟩) ∧ w.heap.size ≤ g ∧ Tbl nS w.heap.size w' g r []) ∧ Ext w w') := by
  have hX := Ext.refl w
  refine enter 4 _ Try.func62 rfl rfl (Nat.le_of_ble_eq_true rfl) ?_
  refine c_seq ?_
  refine r_plain ?_
  refine p1 (x_assign (by conv => lhs; whnf)) ?_
  refine r_nil ?_
  refine t_n ?_
  refine c_seq ?_
  refine r_plain ?_
  have hXs := hX.size
  refine o_makeMap0 (κ := ByteArray) (ν := List Hash) ?_
  intro w1 g1 hE1 hK1
  have hX := hX.ext hE1
  have hM := hK1 kkStr (vHs nS) 0 w.heap.size (hXs)
  refine p1 (x_build1 pl124 (by conv => lhs; whnf) rfl) ?_
  have hXs := hX.size
  refine o_boxA (by conv => lhs; whnf) ?_
  intro w2 g3 hN3
  have hE2 := hN3.ext
  have hX := hX.ext hE2
  have hM := hM.ext hE2
  have hB3 := hN3.blk
  refine p1 (x_assign (by conv => lhs; whnf)) ?_
  refine r_nil ?_
  refine t_n ?_
  refine c_ret ?_
  refine end1 rfl (by conv => lhs; whnf) ?_
  exact ⟨⟨g3, g1, rfl, by rw [hN3.g_eq]; exact hXs, ⟨hB3, hM.congr (fun k => rfl), .nil, by simp, by simp⟩⟩, hX⟩
theorem branch_may (hs : List Hash) (B : Nat) (p : Option Addr) (n c : Nat) (w : World) (hl : Sl kHash 35 B w p n c hs) :
    Ret Try.prog 102 [.slice p n c] w (fun v w' => v = .bool (mayB hs) ∧ Ext w w') := by
  have hX := Ext.refl w
  refine enter 10 _ Try.func102 rfl rfl (Nat.le_of_ble_eq_true rfl) ?_
  refine c_seq ?_
  refine r_plain ?_
  refine p1 (x_assign (by conv => lhs; whnf)) ?_
  refine r_nil ?_
  refine t_n ?_
  refine c_seq ?_
  refine r_plain ?_
  refine p1 (x_move (by conv => lhs; whnf)) ?_
  refine p1 (x_len_slice u31 rfl) ?_
  refine p1 (x_leq rfl rfl) ?_
  refine p1b (x_move (by conv => lhs; whnf)) (fun hb1_3 => ?_) (fun hb1_3 => ?_)
  · try simp only [decide_eq_true_eq, decide_eq_false_iff_not, Bool.not_eq_true, Bool.not_eq_false, Bool.not_eq_eq_eq_not, Bool.not_true, Bool.not_false, Int.not_lt, Int.not_le] at hb1_3
    refine g1 6 rfl rfl (x_move (by conv => lhs; whnf)) ?_
    refine g_drop 6 rfl rfl ?_
    refine o_call Try.func38 fn38 fb38 (hashes_Rising hs _ _ _ _ _ (hl.ext hX)) rfl ?_
    rintro v1 w1 ⟨rfl, hE1⟩
    have hX := hX.ext hE1
    refine p1 (x_pick_t rfl (by conv => lhs; whnf)) ?_
    refine p1 (x_assign (by conv => lhs; whnf)) ?_
    refine r_nil ?_
    refine t_n ?_
    refine c_ret ?_
    refine end1 rfl (by conv => lhs; whnf) ?_
    have hlen := hl.len
    first | exact ⟨congrArg Value.bool (by unfold mayB; rw [decide_eq_true (by omega), Bool.true_and]), hX⟩ | exact ⟨congrArg Value.bool (by unfold mayB; rw [decide_eq_false (by omega), Bool.false_and]), hX⟩
  · try simp only [decide_eq_true_eq, decide_eq_false_iff_not, Bool.not_eq_true, Bool.not_eq_false, Bool.not_eq_eq_eq_not, Bool.not_true, Bool.not_false, Int.not_lt, Int.not_le] at hb1_3
    refine g0 6 rfl (by first | exact .inl rfl | exact .inr rfl) ?_
    refine g0 6 rfl (by first | exact .inl rfl | exact .inr rfl) ?_
    refine p1 (x_pick_f rfl (by conv => lhs; whnf)) ?_
    refine p1 (x_assign (by conv => lhs; whnf)) ?_
    refine r_nil ?_
    refine t_n ?_
    refine c_ret ?_
    refine end1 rfl (by conv => lhs; whnf) ?_
    have hlen := hl.len
    first | exact ⟨congrArg Value.bool (by unfold mayB; rw [decide_eq_true (by omega), Bool.true_and]), hX⟩ | exact ⟨congrArg Value.bool (by unfold mayB; rw [decide_eq_false (by omega), Bool.false_and]), hX⟩
theorem ref15_may (hs : List Hash) (B : Nat) (p : Option Addr) (n c : Nat) (w : World) (hl : Sl kHash 35 B w p n c hs) :
    Ret Try.prog 115 [.slice p n c] w (fun v w' => v = .bool (mayB hs) ∧ Ext w w') := by
  have hX := Ext.refl w
  refine enter 10 _ Try.func115 rfl rfl (Nat.le_of_ble_eq_true rfl) ?_
  refine c_seq ?_
  refine r_plain ?_
  refine p1 (x_assign (by conv => lhs; whnf)) ?_
  refine r_nil ?_
  refine t_n ?_
  refine c_seq ?_
  refine r_plain ?_
  refine p1 (x_move (by conv => lhs; whnf)) ?_
  refine p1 (x_len_slice u31 rfl) ?_
  refine p1 (x_leq rfl rfl) ?_
  refine p1b (x_move (by conv => lhs; whnf)) (fun hb1_3 => ?_) (fun hb1_3 => ?_)
  · try simp only [decide_eq_true_eq, decide_eq_false_iff_not, Bool.not_eq_true, Bool.not_eq_false, Bool.not_eq_eq_eq_not, Bool.not_true, Bool.not_false, Int.not_lt, Int.not_le] at hb1_3
    refine g1 6 rfl rfl (x_move (by conv => lhs; whnf)) ?_
    refine g_drop 6 rfl rfl ?_
    refine o_call Try.func39 fn39 fb39 (ref06_Rising hs _ _ _ _ _ (hl.ext hX)) rfl ?_
    rintro v1 w1 ⟨rfl, hE1⟩
    have hX := hX.ext hE1
    refine p1 (x_pick_t rfl (by conv => lhs; whnf)) ?_
    refine p1 (x_assign (by conv => lhs; whnf)) ?_
    refine r_nil ?_
    refine t_n ?_
    refine c_ret ?_
    refine end1 rfl (by conv => lhs; whnf) ?_
    have hlen := hl.len
    first | exact ⟨congrArg Value.bool (by unfold mayB; rw [decide_eq_true (by omega), Bool.true_and]), hX⟩ | exact ⟨congrArg Value.bool (by unfold mayB; rw [decide_eq_false (by omega), Bool.false_and]), hX⟩
  · try simp only [decide_eq_true_eq, decide_eq_false_iff_not, Bool.not_eq_true, Bool.not_eq_false, Bool.not_eq_eq_eq_not, Bool.not_true, Bool.not_false, Int.not_lt, Int.not_le] at hb1_3
    refine g0 6 rfl (by first | exact .inl rfl | exact .inr rfl) ?_
    refine g0 6 rfl (by first | exact .inl rfl | exact .inr rfl) ?_
    refine p1 (x_pick_f rfl (by conv => lhs; whnf)) ?_
    refine p1 (x_assign (by conv => lhs; whnf)) ?_
    refine r_nil ?_
    refine t_n ?_
    refine c_ret ?_
    refine end1 rfl (by conv => lhs; whnf) ?_
    have hlen := hl.len
    first | exact ⟨congrArg Value.bool (by unfold mayB; rw [decide_eq_true (by omega), Bool.true_and]), hX⟩ | exact ⟨congrArg Value.bool (by unfold mayB; rw [decide_eq_false (by omega), Bool.false_and]), hX⟩
end Go.Proofs.Eng
end
section
set_option linter.unusedVariables false
set_option linter.unusedSimpArgs false
set_option maxRecDepth 100000
set_option maxHeartbeats 4000000
namespace Go.Proofs.Eng
open Go.RowKit
open Extern.Stop (cell)
theorem ref06_With (xs : List Hash) (x : Hash) (B : Nat) (p : Option Addr) (n c : Nat) (w : World) (hl : Sl kHash 35 B w p n c xs) (hs : n ≤ 4194304000) :
    Ret Try.prog 93 [.slice p n c, .agg (hv x)] w (fun v w' => (∃ q m c', v = .slice q m c' ∧ Sl kHash 35 B w' q m c' (wth xs x) ∧ m ≤ n + 1) ∧ Ext w w') := by
  have hX := Ext.refl w
  refine enter 47 _ Try.func93 rfl rfl (Nat.le_of_ble_eq_true rfl) ?_
  refine c_seq ?_
  refine r_plain ?_
  refine o_boxA (by conv => lhs; whnf) ?_
  intro w1 g3 hN3
  have hE1 := hN3.ext
  have hX := hX.ext hE1
  have hB3 := hN3.blk
  refine p1 (x_assign (by conv => lhs; whnf)) ?_
  refine r_nil ?_
  refine t_n ?_
  refine c_seq ?_
  refine r_plain ?_
  refine p1 (x_assign (by conv => lhs; whnf)) ?_
  refine r_nil ?_
  refine t_n ?_
  refine c_seq ?_
  refine c_block ?_
  have hWL0 := Ext.refl w1
  have hlen := hl.len
  have hfit := hl.fit
  have hcap := hl.cap
  refine c_loop (ι := Nat) [5, 7, 8, 9, 10, 11, 12, 13, 14, 15, 16, 17, 18, 19, 20] (fun k => [(5, .int .i64 (k : Int))]) (fun k w' => Ext w1 w' ∧ (k ≤ n ∧ ∀ j, j < k → hlt (xs.getD j default) x = true)) (fun k => n - k) (0) ⟨rfl, trivial⟩ ⟨Ext.refl _, ⟨by omega, fun i hi => by omega⟩⟩ ?_
  rintro k GL0 w2 ⟨hE2, hk, hL⟩
  have hX := hX.ext hE2
  have hB3 := hB3.ext hE2
  have hWL0 := hE2
  refine c_seq ?_
  refine c_seq ?_
  refine r_tail 10 mixed (by kernel_rfl) ?_
  intro w3 hE3
  have hX := hX.ext hE3
  have hB3 := hB3.ext hE3
  have hWL0 := hWL0.ext hE3
  refine s1 (x_move (by conv => lhs; whnf)) ?_
  refine s1 (x_move (by conv => lhs; whnf)) ?_
  refine s1 (x_len_slice u31 rfl) ?_
  refine s1 (x_lss rfl rfl) ?_
  refine s1b (x_move (by conv => lhs; whnf)) (fun hb2_4 => ?_) (fun hb2_4 => ?_)
  · try simp only [decide_eq_true_eq, decide_eq_false_iff_not, Bool.not_eq_true, Bool.not_eq_false, Bool.not_eq_eq_eq_not, Bool.not_true, Bool.not_false, Int.not_lt, Int.not_le] at hb2_4
    refine sg1 11 rfl rfl (x_move (by conv => lhs; whnf)) ?_
    refine sg1 11 rfl rfl (x_move (by conv => lhs; whnf)) ?_
    refine sg1 11 rfl rfl (x_ixs u31 sz35 rfl rfl ((hl.ext hX).adr kHash_pos (by omega)) (by omega) (by omega)) ?_
    refine sg1 11 rfl rfl (x_loadN ua35 rfl (hcs_sz sz35 _) ((hl.ext hX).hashAt _ (by omega) (by omega))) ?_
    refine sg1 11 rfl rfl (x_loadB ua35 rfl hB3 (hv_sz sz35 x)) ?_
    refine s_nil ?_
    refine g_drop 11 rfl rfl ?_
    refine o_call Try.func95 fn95 fb95 (ref01_Less _ x _) rfl ?_
    rintro v4 w4 ⟨rfl, hE4⟩
    have hX := hX.ext hE4
    have hB3 := hB3.ext hE4
    have hWL0 := hWL0.ext hE4
    refine p1 (x_pick_t rfl (by conv => lhs; whnf)) ?_
    refine r_nil ?_
    refine t_n ?_
    first | refine c_dec rfl (fun hc18 => ?_) (fun hc18 => ?_) | refine c_if rfl (fun hc18 => ?_) (fun hc18 => ?_)
    · try simp only [decide_eq_true_eq, decide_eq_false_iff_not, Bool.not_eq_true, Bool.not_eq_false, Bool.not_eq_eq_eq_not, Bool.not_true, Bool.not_false, Int.not_lt, Int.not_le] at hc18
      have h1 : hlt (xs.getD k default) x = true := hc18
      refine c_skip ?_
      refine t_n ?_
      refine c_block ?_
      refine r_plain ?_
      refine p1 (x_move (by conv => lhs; whnf)) ?_
      refine p1 (x_add rfl rfl (fits_i64 (by omega) (by omega))) ?_
      refine p1 (x_assign (by conv => lhs; whnf)) ?_
      refine r_nil ?_
      refine b_n ?_
      refine t_n (At.mk (k + 1) (by repeat (first | exact Agr.refl _ _ | exact Agr.hav _ _ _ | refine Agr.upd rfl ?_ | refine Agr.updL ?_ _ rfl | refine Agr.hav' rfl ?_)) ⟨rfl, trivial⟩ ?_)
      exact ⟨⟨hWL0, ⟨by omega, fun i hi => if h : i < k then hL i h else by rw [show i = k from by omega]; exact h1⟩⟩, by first | (dsimp only; omega) | ((show _ < _); omega)⟩
    · try simp only [decide_eq_true_eq, decide_eq_false_iff_not, Bool.not_eq_true, Bool.not_eq_false, Bool.not_eq_eq_eq_not, Bool.not_true, Bool.not_false, Int.not_lt, Int.not_le] at hc18
      have hex : k < n → hlt (xs.getD k default) x = false := by first | (intro h; exfalso; omega) | (intro h; exact Bool.eq_false_iff.2 (fun e => by simp_all))
      have hwa := wth_at xs x k (by omega) hL (fun h => hex (by omega))
      refine c_exit ?_
      refine t_e ?_
      refine t_e ?_
      refine b_hit ?_
      refine t_n ?_
      refine c_seq ?_
      refine c_seq ?_
      refine r_still mixed (by kernel_rfl) ?_
      intro w5 hE5
      have hX := hX.ext hE5
      have hB3 := hB3.ext hE5
      refine s1 (x_move (by conv => lhs; whnf)) ?_
      refine s1 (x_move (by conv => lhs; whnf)) ?_
      refine s1 (x_len_slice u31 rfl) ?_
      refine s1 (x_lss rfl rfl) ?_
      refine s1b (x_move (by conv => lhs; whnf)) (fun hb4_4 => ?_) (fun hb4_4 => ?_)
      · try simp only [decide_eq_true_eq, decide_eq_false_iff_not, Bool.not_eq_true, Bool.not_eq_false, Bool.not_eq_eq_eq_not, Bool.not_true, Bool.not_false, Int.not_lt, Int.not_le] at hb4_4
        refine sg1 25 rfl rfl (x_move (by conv => lhs; whnf)) ?_
        refine sg1 25 rfl rfl (x_move (by conv => lhs; whnf)) ?_
        refine sg1 25 rfl rfl (x_ixs u31 sz35 rfl rfl ((hl.ext hX).adr kHash_pos (by omega)) (by omega) (by omega)) ?_
        refine sg1 25 rfl rfl (x_loadN ua35 rfl (hcs_sz sz35 _) ((hl.ext hX).hashAt _ (by omega) (by omega))) ?_
        refine sg1 25 rfl rfl (x_loadB ua35 rfl hB3 (hv_sz sz35 x)) ?_
        refine sg1 25 rfl rfl (x_eql_bytes u35 u5 sz5 eg35 rfl rfl (xs.getD _ default).2 x.2) ?_
        refine s1 (x_pick_t rfl (by conv => lhs; whnf)) ?_
        refine s_nil ?_
        refine t_n ?_
        first | refine c_dec rfl (fun hc32 => ?_) (fun hc32 => ?_) | refine c_if rfl (fun hc32 => ?_) (fun hc32 => ?_)
        · try simp only [decide_eq_true_eq, decide_eq_false_iff_not, Bool.not_eq_true, Bool.not_eq_false, Bool.not_eq_eq_eq_not, Bool.not_true, Bool.not_false, Int.not_lt, Int.not_le] at hc32
          have hp : wth xs x = xs := by rw [hwa, if_pos ⟨by omega, Subtype.ext hc32⟩]
          refine c_seq ?_
          refine r_plain ?_
          refine p1 (x_move (by conv => lhs; whnf)) ?_
          refine p1 (x_assign (by conv => lhs; whnf)) ?_
          refine r_nil ?_
          refine t_n ?_
          refine c_ret ?_
          refine t_r ?_
          refine end1 rfl (by conv => lhs; whnf) ?_
          first | exact ⟨⟨_, _, _, rfl, (by rw [hp]; exact hl.ext hX), by omega⟩, hX⟩ | exact ⟨⟨_, _, _, rfl, (by rw [hp]; have h9 := hO.sl.mono (Nat.zero_le B); rw [show [] ++ xs.take k ++ [x] ++ xs.drop k = xs.take k ++ x :: xs.drop k from by simp] at h9; exact h9), by omega⟩, hX⟩
        · try simp only [decide_eq_true_eq, decide_eq_false_iff_not, Bool.not_eq_true, Bool.not_eq_false, Bool.not_eq_eq_eq_not, Bool.not_true, Bool.not_false, Int.not_lt, Int.not_le] at hc32
          have hp : wth xs x = xs.take k ++ x :: xs.drop k := by rw [hwa, if_neg (fun e => by first | exact hc32 (congrArg Subtype.val e.2) | omega)]
          refine c_skip ?_
          refine t_n ?_
          refine c_seq ?_
          refine r_plain ?_
          refine p1 (x_assign (by conv => lhs; whnf)) ?_
          refine r_nil ?_
          refine t_n ?_
          refine c_seq ?_
          refine r_held (fun w1 w2 => Ext w1 w2) mixed ?_
          intro w6 hE6
          have hX := hX.ext hE6
          have hB3 := hB3.ext hE6
          have hSr7 : (fun w1 w2 => Ext w1 w2) w6 w6 := Ext.refl w6
          refine h_take 0 rfl (by kernel_rfl) (by kernel_rfl) (by kernel_rfl) hSr7 (fun wS hSS => by (have hX := hX.ext hSS; have hB3 := hB3.ext hSS; exact (x_move (by conv => lhs; whnf)))) ?_
          refine h_take 1 rfl (by kernel_rfl) (by kernel_rfl) (by kernel_rfl) hSr7 (fun wS hSS => by (have hX := hX.ext hSS; have hB3 := hB3.ext hSS; exact (x_move (by conv => lhs; whnf)))) ?_
          refine h_take 2 rfl (by kernel_rfl) (by kernel_rfl) (by kernel_rfl) hSr7 (fun wS hSS => by (have hX := hX.ext hSS; have hB3 := hB3.ext hSS; exact (x_move (by conv => lhs; whnf)))) ?_
          refine h_take 3 rfl (by kernel_rfl) (by kernel_rfl) (by kernel_rfl) hSr7 (fun wS hSS => by (have hX := hX.ext hSS; have hB3 := hB3.ext hSS; exact (x_slice_hN u31 sz35 rfl rfl (by omega)))) ?_
          refine h_take 5 rfl (by kernel_rfl) (by kernel_rfl) (by kernel_rfl) hSr7 (fun wS hSS => by (have hX := hX.ext hSS; have hB3 := hB3.ext hSS; exact (x_loadB ua35 rfl hB3 (hv_sz sz35 x)))) ?_
          refine h_two 4 6 _ _ rfl rfl (by kernel_rfl) (hop_of_list (fun Q4 hQ4 => ?_)) (hop_of_list (fun Q6 hQ6 => ?_))
          · skip
            have hO : Own kHash 35 0 w6.heap.size w6 none 0 0 [] := Own.nil _ _ _ _ _
            have hBz : w.heap.size ≤ w6.heap.size := hX.size
            have hBs := hSr7.size
            have hWt := Ext.refl w6
            refine o_append (d := kHash) (xs.take k) u31 inf35 rfl kHash_pos rfl rfl hO (src_pure u31 ((hl.ext hX).take k (by omega)) (by decide)) (by rw [List.length_take]; omega) (hash_all _ _ _) (rfl) (by omega) (by omega) (by omega) (by omega) (by decide) ?_
            intro p38 c38 w7 hO hM7
            have hX := hX.mod hM7 (hBz)
            have hB3 := hB3.ext ((Ext.refl _).mod hM7 (Nat.le_refl _))
            have hSr7 := hSr7.mod hM7 (by first | exact Nat.le_refl _ | exact trivial | omega)
            have hWt := hWt.mod hM7 (by first | exact Nat.le_refl _ | exact trivial | omega)
            refine hop_end hQ4 ⟨hSr7, ?_⟩
            refine h_one 6 _ rfl (by kernel_rfl) (hop_of_list (fun Q6 hQ6 => ?_))
            refine o_buildSlice u31 inf35 rfl (by decide) (fun base hb => fill_kn [.agg (hv x)] (by intro v hv'; simp only [List.mem_singleton] at hv'; subst hv'; simp [Value.cells, hv, hcs_len]) base hb) ?_
            intro w8 g40 hN40
            have hE8 := hN40.ext
            have hX := hX.ext hE8
            have hB3 := hB3.ext hE8
            have hSr7 := hSr7.ext hE8
            have hWt := hWt.ext hE8
            have hO := hO.ext hE8
            have hJ : Own kHash 35 0 0 w8 (some ⟨g40, 0, none⟩) 1 1 [x] := own_lit [x] hN40 (Nat.zero_le _) (by simp)
            refine hop_end hQ6 ⟨hSr7, ?_⟩
            refine h_one 7 _ rfl (by kernel_rfl) (hop_of_list (fun Q7 hQ7 => ?_))
            have hq1 := hWt.size
            refine o_append (d := kHash) ([x]) u31 inf35 rfl kHash_pos rfl rfl hO (src_pure u31 hJ.sl (by decide)) rfl (hash_all _ _ _) (rfl) (by omega) (by omega) (by omega) (by omega) (by decide) ?_
            intro p41 c41 w9 hO hM9
            have hX := hX.mod hM9 (hBz)
            have hSr7 := hSr7.mod hM9 (by first | exact Nat.le_refl _ | exact trivial | omega)
            have hWt := hWt.mod hM9 (by first | exact Nat.le_refl _ | exact trivial | omega)
            refine hop_end hQ7 ⟨hSr7, ?_⟩
            refine h_take 8 rfl (by kernel_rfl) (by kernel_rfl) (by kernel_rfl) hSr7 (fun wS hSS => by ( exact (x_assign (by conv => lhs; whnf)))) ?_
            refine h_done (by kernel_rfl) ?_
            refine t_n ?_
            refine c_seq ?_
            refine r_plain ?_
            refine p1 (x_move (by conv => lhs; whnf)) ?_
            refine p1 (x_move (by conv => lhs; whnf)) ?_
            refine p1 (x_move (by conv => lhs; whnf)) ?_
            refine p1 (x_slice_lN u31 sz35 rfl rfl (by omega)) ?_
            have hq1 := hWt.size
            refine o_append (d := kHash) (xs.drop k) u31 inf35 rfl kHash_pos rfl rfl hO (src_pure u31 ((hl.ext hX).dropI k (by omega)) (by decide)) (by rw [List.length_drop]; omega) (hash_all _ _ _) (rfl) (by omega) (by omega) (by omega) (by omega) (by decide) ?_
            intro p46 c46 w10 hO hM10
            have hX := hX.mod hM10 (hBz)
            have hWt := hWt.mod hM10 (by first | exact Nat.le_refl _ | exact trivial | omega)
            refine p1 (x_assign (by conv => lhs; whnf)) ?_
            refine r_nil ?_
            refine t_n ?_
            refine c_ret ?_
            refine end1 rfl (by conv => lhs; whnf) ?_
            first | exact ⟨⟨_, _, _, rfl, (by rw [hp]; exact hl.ext hX), by omega⟩, hX⟩ | exact ⟨⟨_, _, _, rfl, (by rw [hp]; have h9 := hO.sl.mono (Nat.zero_le B); rw [show [] ++ xs.take k ++ [x] ++ xs.drop k = xs.take k ++ x :: xs.drop k from by simp] at h9; exact h9), by omega⟩, hX⟩
          · skip
            refine o_buildSlice u31 inf35 rfl (by decide) (fun base hb => fill_kn [.agg (hv x)] (by intro v hv'; simp only [List.mem_singleton] at hv'; subst hv'; simp [Value.cells, hv, hcs_len]) base hb) ?_
            intro w11 g40 hN40
            have hE11 := hN40.ext
            have hX := hX.ext hE11
            have hB3 := hB3.ext hE11
            have hSr7 := hSr7.ext hE11
            have hJ : Own kHash 35 0 0 w11 (some ⟨g40, 0, none⟩) 1 1 [x] := own_lit [x] hN40 (Nat.zero_le _) (by simp)
            refine hop_end hQ6 ⟨hSr7, ?_⟩
            refine h_one 4 _ rfl (by kernel_rfl) (hop_of_list (fun Q4 hQ4 => ?_))
            have hO : Own kHash 35 0 w11.heap.size w11 none 0 0 [] := Own.nil _ _ _ _ _
            have hBz : w.heap.size ≤ w11.heap.size := hX.size
            have hBs := hSr7.size
            have hWt := Ext.refl w11
            refine o_append (d := kHash) (xs.take k) u31 inf35 rfl kHash_pos rfl rfl hO (src_pure u31 ((hl.ext hX).take k (by omega)) (by decide)) (by rw [List.length_take]; omega) (hash_all _ _ _) (rfl) (by omega) (by omega) (by omega) (by omega) (by decide) ?_
            intro p38 c38 w12 hO hM12
            have hX := hX.mod hM12 (hBz)
            have hB3 := hB3.ext ((Ext.refl _).mod hM12 (Nat.le_refl _))
            have hSr7 := hSr7.mod hM12 (by first | exact Nat.le_refl _ | exact trivial | omega)
            have hJ := hJ.ext ((Ext.refl _).mod hM12 (Nat.le_refl _))
            have hWt := hWt.mod hM12 (by first | exact Nat.le_refl _ | exact trivial | omega)
            refine hop_end hQ4 ⟨hSr7, ?_⟩
            refine h_one 7 _ rfl (by kernel_rfl) (hop_of_list (fun Q7 hQ7 => ?_))
            have hq1 := hWt.size
            refine o_append (d := kHash) ([x]) u31 inf35 rfl kHash_pos rfl rfl hO (src_pure u31 hJ.sl (by decide)) rfl (hash_all _ _ _) (rfl) (by omega) (by omega) (by omega) (by omega) (by decide) ?_
            intro p41 c41 w13 hO hM13
            have hX := hX.mod hM13 (hBz)
            have hSr7 := hSr7.mod hM13 (by first | exact Nat.le_refl _ | exact trivial | omega)
            have hWt := hWt.mod hM13 (by first | exact Nat.le_refl _ | exact trivial | omega)
            refine hop_end hQ7 ⟨hSr7, ?_⟩
            refine h_take 8 rfl (by kernel_rfl) (by kernel_rfl) (by kernel_rfl) hSr7 (fun wS hSS => by ( exact (x_assign (by conv => lhs; whnf)))) ?_
            refine h_done (by kernel_rfl) ?_
            refine t_n ?_
            refine c_seq ?_
            refine r_plain ?_
            refine p1 (x_move (by conv => lhs; whnf)) ?_
            refine p1 (x_move (by conv => lhs; whnf)) ?_
            refine p1 (x_move (by conv => lhs; whnf)) ?_
            refine p1 (x_slice_lN u31 sz35 rfl rfl (by omega)) ?_
            have hq1 := hWt.size
            refine o_append (d := kHash) (xs.drop k) u31 inf35 rfl kHash_pos rfl rfl hO (src_pure u31 ((hl.ext hX).dropI k (by omega)) (by decide)) (by rw [List.length_drop]; omega) (hash_all _ _ _) (rfl) (by omega) (by omega) (by omega) (by omega) (by decide) ?_
            intro p46 c46 w14 hO hM14
            have hX := hX.mod hM14 (hBz)
            have hWt := hWt.mod hM14 (by first | exact Nat.le_refl _ | exact trivial | omega)
            refine p1 (x_assign (by conv => lhs; whnf)) ?_
            refine r_nil ?_
            refine t_n ?_
            refine c_ret ?_
            refine end1 rfl (by conv => lhs; whnf) ?_
            first | exact ⟨⟨_, _, _, rfl, (by rw [hp]; exact hl.ext hX), by omega⟩, hX⟩ | exact ⟨⟨_, _, _, rfl, (by rw [hp]; have h9 := hO.sl.mono (Nat.zero_le B); rw [show [] ++ xs.take k ++ [x] ++ xs.drop k = xs.take k ++ x :: xs.drop k from by simp] at h9; exact h9), by omega⟩, hX⟩
      · try simp only [decide_eq_true_eq, decide_eq_false_iff_not, Bool.not_eq_true, Bool.not_eq_false, Bool.not_eq_eq_eq_not, Bool.not_true, Bool.not_false, Int.not_lt, Int.not_le] at hb4_4
        refine sg0 25 rfl (by first | exact .inl rfl | exact .inr rfl) ?_
        refine sg0 25 rfl (by first | exact .inl rfl | exact .inr rfl) ?_
        refine sg0 25 rfl (by first | exact .inl rfl | exact .inr rfl) ?_
        refine sg0 25 rfl (by first | exact .inl rfl | exact .inr rfl) ?_
        refine sg0 25 rfl (by first | exact .inl rfl | exact .inr rfl) ?_
        refine sg0 25 rfl (by first | exact .inl rfl | exact .inr rfl) ?_
        refine s1 (x_pick_f rfl (by conv => lhs; whnf)) ?_
        refine s_nil ?_
        refine t_n ?_
        refine c_f rfl ?_
        have hp : wth xs x = xs.take k ++ x :: xs.drop k := by rw [hwa, if_neg (fun e => by first | exact hc32 (congrArg Subtype.val e.2) | omega)]
        refine c_skip ?_
        refine t_n ?_
        refine c_seq ?_
        refine r_plain ?_
        refine p1 (x_assign (by conv => lhs; whnf)) ?_
        refine r_nil ?_
        refine t_n ?_
        refine c_seq ?_
        refine r_held (fun w1 w2 => Ext w1 w2) mixed ?_
        intro w15 hE15
        have hX := hX.ext hE15
        have hB3 := hB3.ext hE15
        have hSr7 : (fun w1 w2 => Ext w1 w2) w15 w15 := Ext.refl w15
        refine h_take 0 rfl (by kernel_rfl) (by kernel_rfl) (by kernel_rfl) hSr7 (fun wS hSS => by (have hX := hX.ext hSS; have hB3 := hB3.ext hSS; exact (x_move (by conv => lhs; whnf)))) ?_
        refine h_take 1 rfl (by kernel_rfl) (by kernel_rfl) (by kernel_rfl) hSr7 (fun wS hSS => by (have hX := hX.ext hSS; have hB3 := hB3.ext hSS; exact (x_move (by conv => lhs; whnf)))) ?_
        refine h_take 2 rfl (by kernel_rfl) (by kernel_rfl) (by kernel_rfl) hSr7 (fun wS hSS => by (have hX := hX.ext hSS; have hB3 := hB3.ext hSS; exact (x_move (by conv => lhs; whnf)))) ?_
        refine h_take 3 rfl (by kernel_rfl) (by kernel_rfl) (by kernel_rfl) hSr7 (fun wS hSS => by (have hX := hX.ext hSS; have hB3 := hB3.ext hSS; exact (x_slice_hN u31 sz35 rfl rfl (by omega)))) ?_
        refine h_take 5 rfl (by kernel_rfl) (by kernel_rfl) (by kernel_rfl) hSr7 (fun wS hSS => by (have hX := hX.ext hSS; have hB3 := hB3.ext hSS; exact (x_loadB ua35 rfl hB3 (hv_sz sz35 x)))) ?_
        refine h_two 4 6 _ _ rfl rfl (by kernel_rfl) (hop_of_list (fun Q4 hQ4 => ?_)) (hop_of_list (fun Q6 hQ6 => ?_))
        · skip
          have hO : Own kHash 35 0 w15.heap.size w15 none 0 0 [] := Own.nil _ _ _ _ _
          have hBz : w.heap.size ≤ w15.heap.size := hX.size
          have hBs := hSr7.size
          have hWt := Ext.refl w15
          refine o_append (d := kHash) (xs.take k) u31 inf35 rfl kHash_pos rfl rfl hO (src_pure u31 ((hl.ext hX).take k (by omega)) (by decide)) (by rw [List.length_take]; omega) (hash_all _ _ _) (rfl) (by omega) (by omega) (by omega) (by omega) (by decide) ?_
          intro p38 c38 w16 hO hM16
          have hX := hX.mod hM16 (hBz)
          have hB3 := hB3.ext ((Ext.refl _).mod hM16 (Nat.le_refl _))
          have hSr7 := hSr7.mod hM16 (by first | exact Nat.le_refl _ | exact trivial | omega)
          have hWt := hWt.mod hM16 (by first | exact Nat.le_refl _ | exact trivial | omega)
          refine hop_end hQ4 ⟨hSr7, ?_⟩
          refine h_one 6 _ rfl (by kernel_rfl) (hop_of_list (fun Q6 hQ6 => ?_))
          refine o_buildSlice u31 inf35 rfl (by decide) (fun base hb => fill_kn [.agg (hv x)] (by intro v hv'; simp only [List.mem_singleton] at hv'; subst hv'; simp [Value.cells, hv, hcs_len]) base hb) ?_
          intro w17 g40 hN40
          have hE17 := hN40.ext
          have hX := hX.ext hE17
          have hB3 := hB3.ext hE17
          have hSr7 := hSr7.ext hE17
          have hWt := hWt.ext hE17
          have hO := hO.ext hE17
          have hJ : Own kHash 35 0 0 w17 (some ⟨g40, 0, none⟩) 1 1 [x] := own_lit [x] hN40 (Nat.zero_le _) (by simp)
          refine hop_end hQ6 ⟨hSr7, ?_⟩
          refine h_one 7 _ rfl (by kernel_rfl) (hop_of_list (fun Q7 hQ7 => ?_))
          have hq1 := hWt.size
          refine o_append (d := kHash) ([x]) u31 inf35 rfl kHash_pos rfl rfl hO (src_pure u31 hJ.sl (by decide)) rfl (hash_all _ _ _) (rfl) (by omega) (by omega) (by omega) (by omega) (by decide) ?_
          intro p41 c41 w18 hO hM18
          have hX := hX.mod hM18 (hBz)
          have hSr7 := hSr7.mod hM18 (by first | exact Nat.le_refl _ | exact trivial | omega)
          have hWt := hWt.mod hM18 (by first | exact Nat.le_refl _ | exact trivial | omega)
          refine hop_end hQ7 ⟨hSr7, ?_⟩
          refine h_take 8 rfl (by kernel_rfl) (by kernel_rfl) (by kernel_rfl) hSr7 (fun wS hSS => by ( exact (x_assign (by conv => lhs; whnf)))) ?_
          refine h_done (by kernel_rfl) ?_
          refine t_n ?_
          refine c_seq ?_
          refine r_plain ?_
          refine p1 (x_move (by conv => lhs; whnf)) ?_
          refine p1 (x_move (by conv => lhs; whnf)) ?_
          refine p1 (x_move (by conv => lhs; whnf)) ?_
          refine p1 (x_slice_lN u31 sz35 rfl rfl (by omega)) ?_
          have hq1 := hWt.size
          refine o_append (d := kHash) (xs.drop k) u31 inf35 rfl kHash_pos rfl rfl hO (src_pure u31 ((hl.ext hX).dropI k (by omega)) (by decide)) (by rw [List.length_drop]; omega) (hash_all _ _ _) (rfl) (by omega) (by omega) (by omega) (by omega) (by decide) ?_
          intro p46 c46 w19 hO hM19
          have hX := hX.mod hM19 (hBz)
          have hWt := hWt.mod hM19 (by first | exact Nat.le_refl _ | exact trivial | omega)
          refine p1 (x_assign (by conv => lhs; whnf)) ?_
          refine r_nil ?_
          refine t_n ?_
          refine c_ret ?_
          refine end1 rfl (by conv => lhs; whnf) ?_
          first | exact ⟨⟨_, _, _, rfl, (by rw [hp]; exact hl.ext hX), by omega⟩, hX⟩ | exact ⟨⟨_, _, _, rfl, (by rw [hp]; have h9 := hO.sl.mono (Nat.zero_le B); rw [show [] ++ xs.take k ++ [x] ++ xs.drop k = xs.take k ++ x :: xs.drop k from by simp] at h9; exact h9), by omega⟩, hX⟩
        · skip
          refine o_buildSlice u31 inf35 rfl (by decide) (fun base hb => fill_kn [.agg (hv x)] (by intro v hv'; simp only [List.mem_singleton] at hv'; subst hv'; simp [Value.cells, hv, hcs_len]) base hb) ?_
          intro w20 g40 hN40
          have hE20 := hN40.ext
          have hX := hX.ext hE20
          have hB3 := hB3.ext hE20
          have hSr7 := hSr7.ext hE20
          have hJ : Own kHash 35 0 0 w20 (some ⟨g40, 0, none⟩) 1 1 [x] := own_lit [x] hN40 (Nat.zero_le _) (by simp)
          refine hop_end hQ6 ⟨hSr7, ?_⟩
          refine h_one 4 _ rfl (by kernel_rfl) (hop_of_list (fun Q4 hQ4 => ?_))
          have hO : Own kHash 35 0 w20.heap.size w20 none 0 0 [] := Own.nil _ _ _ _ _
          have hBz : w.heap.size ≤ w20.heap.size := hX.size
          have hBs := hSr7.size
          have hWt := Ext.refl w20
          refine o_append (d := kHash) (xs.take k) u31 inf35 rfl kHash_pos rfl rfl hO (src_pure u31 ((hl.ext hX).take k (by omega)) (by decide)) (by rw [List.length_take]; omega) (hash_all _ _ _) (rfl) (by omega) (by omega) (by omega) (by omega) (by decide) ?_
          intro p38 c38 w21 hO hM21
          have hX := hX.mod hM21 (hBz)
          have hB3 := hB3.ext ((Ext.refl _).mod hM21 (Nat.le_refl _))
          have hSr7 := hSr7.mod hM21 (by first | exact Nat.le_refl _ | exact trivial | omega)
          have hJ := hJ.ext ((Ext.refl _).mod hM21 (Nat.le_refl _))
          have hWt := hWt.mod hM21 (by first | exact Nat.le_refl _ | exact trivial | omega)
          refine hop_end hQ4 ⟨hSr7, ?_⟩
          refine h_one 7 _ rfl (by kernel_rfl) (hop_of_list (fun Q7 hQ7 => ?_))
          have hq1 := hWt.size
          refine o_append (d := kHash) ([x]) u31 inf35 rfl kHash_pos rfl rfl hO (src_pure u31 hJ.sl (by decide)) rfl (hash_all _ _ _) (rfl) (by omega) (by omega) (by omega) (by omega) (by decide) ?_
          intro p41 c41 w22 hO hM22
          have hX := hX.mod hM22 (hBz)
          have hSr7 := hSr7.mod hM22 (by first | exact Nat.le_refl _ | exact trivial | omega)
          have hWt := hWt.mod hM22 (by first | exact Nat.le_refl _ | exact trivial | omega)
          refine hop_end hQ7 ⟨hSr7, ?_⟩
          refine h_take 8 rfl (by kernel_rfl) (by kernel_rfl) (by kernel_rfl) hSr7 (fun wS hSS => by ( exact (x_assign (by conv => lhs; whnf)))) ?_
          refine h_done (by kernel_rfl) ?_
          refine t_n ?_
          refine c_seq ?_
          refine r_plain ?_
          refine p1 (x_move (by conv => lhs; whnf)) ?_
          refine p1 (x_move (by conv => lhs; whnf)) ?_
          refine p1 (x_move (by conv => lhs; whnf)) ?_
          refine p1 (x_slice_lN u31 sz35 rfl rfl (by omega)) ?_
          have hq1 := hWt.size
          refine o_append (d := kHash) (xs.drop k) u31 inf35 rfl kHash_pos rfl rfl hO (src_pure u31 ((hl.ext hX).dropI k (by omega)) (by decide)) (by rw [List.length_drop]; omega) (hash_all _ _ _) (rfl) (by omega) (by omega) (by omega) (by omega) (by decide) ?_
          intro p46 c46 w23 hO hM23
          have hX := hX.mod hM23 (hBz)
          have hWt := hWt.mod hM23 (by first | exact Nat.le_refl _ | exact trivial | omega)
          refine p1 (x_assign (by conv => lhs; whnf)) ?_
          refine r_nil ?_
          refine t_n ?_
          refine c_ret ?_
          refine end1 rfl (by conv => lhs; whnf) ?_
          first | exact ⟨⟨_, _, _, rfl, (by rw [hp]; exact hl.ext hX), by omega⟩, hX⟩ | exact ⟨⟨_, _, _, rfl, (by rw [hp]; have h9 := hO.sl.mono (Nat.zero_le B); rw [show [] ++ xs.take k ++ [x] ++ xs.drop k = xs.take k ++ x :: xs.drop k from by simp] at h9; exact h9), by omega⟩, hX⟩
  · try simp only [decide_eq_true_eq, decide_eq_false_iff_not, Bool.not_eq_true, Bool.not_eq_false, Bool.not_eq_eq_eq_not, Bool.not_true, Bool.not_false, Int.not_lt, Int.not_le] at hb2_4
    refine sg0 11 rfl (by first | exact .inl rfl | exact .inr rfl) ?_
    refine sg0 11 rfl (by first | exact .inl rfl | exact .inr rfl) ?_
    refine sg0 11 rfl (by first | exact .inl rfl | exact .inr rfl) ?_
    refine sg0 11 rfl (by first | exact .inl rfl | exact .inr rfl) ?_
    refine sg0 11 rfl (by first | exact .inl rfl | exact .inr rfl) ?_
    refine s_nil ?_
    refine g0 11 rfl (by first | exact .inl rfl | exact .inr rfl) ?_
    refine p1 (x_pick_f rfl (by conv => lhs; whnf)) ?_
    refine r_nil ?_
    refine t_n ?_
    refine c_f rfl ?_
    have hex : k < n → hlt (xs.getD k default) x = false := by first | (intro h; exfalso; omega) | (intro h; exact Bool.eq_false_iff.2 (fun e => by simp_all))
    have hwa := wth_at xs x k (by omega) hL (fun h => hex (by omega))
    refine c_exit ?_
    refine t_e ?_
    refine t_e ?_
    refine b_hit ?_
    refine t_n ?_
    refine c_seq ?_
    refine c_seq ?_
    refine r_still mixed (by kernel_rfl) ?_
    intro w24 hE24
    have hX := hX.ext hE24
    have hB3 := hB3.ext hE24
    refine s1 (x_move (by conv => lhs; whnf)) ?_
    refine s1 (x_move (by conv => lhs; whnf)) ?_
    refine s1 (x_len_slice u31 rfl) ?_
    refine s1 (x_lss rfl rfl) ?_
    refine s1b (x_move (by conv => lhs; whnf)) (fun hb4_4 => ?_) (fun hb4_4 => ?_)
    · try simp only [decide_eq_true_eq, decide_eq_false_iff_not, Bool.not_eq_true, Bool.not_eq_false, Bool.not_eq_eq_eq_not, Bool.not_true, Bool.not_false, Int.not_lt, Int.not_le] at hb4_4
      refine sg1 25 rfl rfl (x_move (by conv => lhs; whnf)) ?_
      refine sg1 25 rfl rfl (x_move (by conv => lhs; whnf)) ?_
      refine sg1 25 rfl rfl (x_ixs u31 sz35 rfl rfl ((hl.ext hX).adr kHash_pos (by omega)) (by omega) (by omega)) ?_
      refine sg1 25 rfl rfl (x_loadN ua35 rfl (hcs_sz sz35 _) ((hl.ext hX).hashAt _ (by omega) (by omega))) ?_
      refine sg1 25 rfl rfl (x_loadB ua35 rfl hB3 (hv_sz sz35 x)) ?_
      refine sg1 25 rfl rfl (x_eql_bytes u35 u5 sz5 eg35 rfl rfl (xs.getD _ default).2 x.2) ?_
      refine s1 (x_pick_t rfl (by conv => lhs; whnf)) ?_
      refine s_nil ?_
      refine t_n ?_
      first | refine c_dec rfl (fun hc32 => ?_) (fun hc32 => ?_) | refine c_if rfl (fun hc32 => ?_) (fun hc32 => ?_)
      · try simp only [decide_eq_true_eq, decide_eq_false_iff_not, Bool.not_eq_true, Bool.not_eq_false, Bool.not_eq_eq_eq_not, Bool.not_true, Bool.not_false, Int.not_lt, Int.not_le] at hc32
        have hp : wth xs x = xs := by rw [hwa, if_pos ⟨by omega, Subtype.ext hc32⟩]
        refine c_seq ?_
        refine r_plain ?_
        refine p1 (x_move (by conv => lhs; whnf)) ?_
        refine p1 (x_assign (by conv => lhs; whnf)) ?_
        refine r_nil ?_
        refine t_n ?_
        refine c_ret ?_
        refine t_r ?_
        refine end1 rfl (by conv => lhs; whnf) ?_
        first | exact ⟨⟨_, _, _, rfl, (by rw [hp]; exact hl.ext hX), by omega⟩, hX⟩ | exact ⟨⟨_, _, _, rfl, (by rw [hp]; have h9 := hO.sl.mono (Nat.zero_le B); rw [show [] ++ xs.take k ++ [x] ++ xs.drop k = xs.take k ++ x :: xs.drop k from by simp] at h9; exact h9), by omega⟩, hX⟩
      · try simp only [decide_eq_true_eq, decide_eq_false_iff_not, Bool.not_eq_true, Bool.not_eq_false, Bool.not_eq_eq_eq_not, Bool.not_true, Bool.not_false, Int.not_lt, Int.not_le] at hc32
        have hp : wth xs x = xs.take k ++ x :: xs.drop k := by rw [hwa, if_neg (fun e => by first | exact hc32 (congrArg Subtype.val e.2) | omega)]
        refine c_skip ?_
        refine t_n ?_
        refine c_seq ?_
        refine r_plain ?_
        refine p1 (x_assign (by conv => lhs; whnf)) ?_
        refine r_nil ?_
        refine t_n ?_
        refine c_seq ?_
        refine r_held (fun w1 w2 => Ext w1 w2) mixed ?_
        intro w25 hE25
        have hX := hX.ext hE25
        have hB3 := hB3.ext hE25
        have hSr7 : (fun w1 w2 => Ext w1 w2) w25 w25 := Ext.refl w25
        refine h_take 0 rfl (by kernel_rfl) (by kernel_rfl) (by kernel_rfl) hSr7 (fun wS hSS => by (have hX := hX.ext hSS; have hB3 := hB3.ext hSS; exact (x_move (by conv => lhs; whnf)))) ?_
        refine h_take 1 rfl (by kernel_rfl) (by kernel_rfl) (by kernel_rfl) hSr7 (fun wS hSS => by (have hX := hX.ext hSS; have hB3 := hB3.ext hSS; exact (x_move (by conv => lhs; whnf)))) ?_
        refine h_take 2 rfl (by kernel_rfl) (by kernel_rfl) (by kernel_rfl) hSr7 (fun wS hSS => by (have hX := hX.ext hSS; have hB3 := hB3.ext hSS; exact (x_move (by conv => lhs; whnf)))) ?_
        refine h_take 3 rfl (by kernel_rfl) (by kernel_rfl) (by kernel_rfl) hSr7 (fun wS hSS => by (have hX := hX.ext hSS; have hB3 := hB3.ext hSS; exact (x_slice_hN u31 sz35 rfl rfl (by omega)))) ?_
        refine h_take 5 rfl (by kernel_rfl) (by kernel_rfl) (by kernel_rfl) hSr7 (fun wS hSS => by (have hX := hX.ext hSS; have hB3 := hB3.ext hSS; exact (x_loadB ua35 rfl hB3 (hv_sz sz35 x)))) ?_
        refine h_two 4 6 _ _ rfl rfl (by kernel_rfl) (hop_of_list (fun Q4 hQ4 => ?_)) (hop_of_list (fun Q6 hQ6 => ?_))
        · skip
          have hO : Own kHash 35 0 w25.heap.size w25 none 0 0 [] := Own.nil _ _ _ _ _
          have hBz : w.heap.size ≤ w25.heap.size := hX.size
          have hBs := hSr7.size
          have hWt := Ext.refl w25
          refine o_append (d := kHash) (xs.take k) u31 inf35 rfl kHash_pos rfl rfl hO (src_pure u31 ((hl.ext hX).take k (by omega)) (by decide)) (by rw [List.length_take]; omega) (hash_all _ _ _) (rfl) (by omega) (by omega) (by omega) (by omega) (by decide) ?_
          intro p38 c38 w26 hO hM26
          have hX := hX.mod hM26 (hBz)
          have hB3 := hB3.ext ((Ext.refl _).mod hM26 (Nat.le_refl _))
          have hSr7 := hSr7.mod hM26 (by first | exact Nat.le_refl _ | exact trivial | omega)
          have hWt := hWt.mod hM26 (by first | exact Nat.le_refl _ | exact trivial | omega)
          refine hop_end hQ4 ⟨hSr7, ?_⟩
          refine h_one 6 _ rfl (by kernel_rfl) (hop_of_list (fun Q6 hQ6 => ?_))
          refine o_buildSlice u31 inf35 rfl (by decide) (fun base hb => fill_kn [.agg (hv x)] (by intro v hv'; simp only [List.mem_singleton] at hv'; subst hv'; simp [Value.cells, hv, hcs_len]) base hb) ?_
          intro w27 g40 hN40
          have hE27 := hN40.ext
          have hX := hX.ext hE27
          have hB3 := hB3.ext hE27
          have hSr7 := hSr7.ext hE27
          have hWt := hWt.ext hE27
          have hO := hO.ext hE27
          have hJ : Own kHash 35 0 0 w27 (some ⟨g40, 0, none⟩) 1 1 [x] := own_lit [x] hN40 (Nat.zero_le _) (by simp)
          refine hop_end hQ6 ⟨hSr7, ?_⟩
          refine h_one 7 _ rfl (by kernel_rfl) (hop_of_list (fun Q7 hQ7 => ?_))
          have hq1 := hWt.size
          refine o_append (d := kHash) ([x]) u31 inf35 rfl kHash_pos rfl rfl hO (src_pure u31 hJ.sl (by decide)) rfl (hash_all _ _ _) (rfl) (by omega) (by omega) (by omega) (by omega) (by decide) ?_
          intro p41 c41 w28 hO hM28
          have hX := hX.mod hM28 (hBz)
          have hSr7 := hSr7.mod hM28 (by first | exact Nat.le_refl _ | exact trivial | omega)
          have hWt := hWt.mod hM28 (by first | exact Nat.le_refl _ | exact trivial | omega)
          refine hop_end hQ7 ⟨hSr7, ?_⟩
          refine h_take 8 rfl (by kernel_rfl) (by kernel_rfl) (by kernel_rfl) hSr7 (fun wS hSS => by ( exact (x_assign (by conv => lhs; whnf)))) ?_
          refine h_done (by kernel_rfl) ?_
          refine t_n ?_
          refine c_seq ?_
          refine r_plain ?_
          refine p1 (x_move (by conv => lhs; whnf)) ?_
          refine p1 (x_move (by conv => lhs; whnf)) ?_
          refine p1 (x_move (by conv => lhs; whnf)) ?_
          refine p1 (x_slice_lN u31 sz35 rfl rfl (by omega)) ?_
          have hq1 := hWt.size
          refine o_append (d := kHash) (xs.drop k) u31 inf35 rfl kHash_pos rfl rfl hO (src_pure u31 ((hl.ext hX).dropI k (by omega)) (by decide)) (by rw [List.length_drop]; omega) (hash_all _ _ _) (rfl) (by omega) (by omega) (by omega) (by omega) (by decide) ?_
          intro p46 c46 w29 hO hM29
          have hX := hX.mod hM29 (hBz)
          have hWt := hWt.mod hM29 (by first | exact Nat.le_refl _ | exact trivial | omega)
          refine p1 (x_assign (by conv => lhs; whnf)) ?_
          refine r_nil ?_
          refine t_n ?_
          refine c_ret ?_
          refine end1 rfl (by conv => lhs; whnf) ?_
          first | exact ⟨⟨_, _, _, rfl, (by rw [hp]; exact hl.ext hX), by omega⟩, hX⟩ | exact ⟨⟨_, _, _, rfl, (by rw [hp]; have h9 := hO.sl.mono (Nat.zero_le B); rw [show [] ++ xs.take k ++ [x] ++ xs.drop k = xs.take k ++ x :: xs.drop k from by simp] at h9; exact h9), by omega⟩, hX⟩
        · skip
          refine o_buildSlice u31 inf35 rfl (by decide) (fun base hb => fill_kn [.agg (hv x)] (by intro v hv'; simp only [List.mem_singleton] at hv'; subst hv'; simp [Value.cells, hv, hcs_len]) base hb) ?_
          intro w30 g40 hN40
          have hE30 := hN40.ext
          have hX := hX.ext hE30
          have hB3 := hB3.ext hE30
          have hSr7 := hSr7.ext hE30
          have hJ : Own kHash 35 0 0 w30 (some ⟨g40, 0, none⟩) 1 1 [x] := own_lit [x] hN40 (Nat.zero_le _) (by simp)
          refine hop_end hQ6 ⟨hSr7, ?_⟩
          refine h_one 4 _ rfl (by kernel_rfl) (hop_of_list (fun Q4 hQ4 => ?_))
          have hO : Own kHash 35 0 w30.heap.size w30 none 0 0 [] := Own.nil _ _ _ _ _
          have hBz : w.heap.size ≤ w30.heap.size := hX.size
          have hBs := hSr7.size
          have hWt := Ext.refl w30
          refine o_append (d := kHash) (xs.take k) u31 inf35 rfl kHash_pos rfl rfl hO (src_pure u31 ((hl.ext hX).take k (by omega)) (by decide)) (by rw [List.length_take]; omega) (hash_all _ _ _) (rfl) (by omega) (by omega) (by omega) (by omega) (by decide) ?_
          intro p38 c38 w31 hO hM31
          have hX := hX.mod hM31 (hBz)
          have hB3 := hB3.ext ((Ext.refl _).mod hM31 (Nat.le_refl _))
          have hSr7 := hSr7.mod hM31 (by first | exact Nat.le_refl _ | exact trivial | omega)
          have hJ := hJ.ext ((Ext.refl _).mod hM31 (Nat.le_refl _))
          have hWt := hWt.mod hM31 (by first | exact Nat.le_refl _ | exact trivial | omega)
          refine hop_end hQ4 ⟨hSr7, ?_⟩
          refine h_one 7 _ rfl (by kernel_rfl) (hop_of_list (fun Q7 hQ7 => ?_))
          have hq1 := hWt.size
          refine o_append (d := kHash) ([x]) u31 inf35 rfl kHash_pos rfl rfl hO (src_pure u31 hJ.sl (by decide)) rfl (hash_all _ _ _) (rfl) (by omega) (by omega) (by omega) (by omega) (by decide) ?_
          intro p41 c41 w32 hO hM32
          have hX := hX.mod hM32 (hBz)
          have hSr7 := hSr7.mod hM32 (by first | exact Nat.le_refl _ | exact trivial | omega)
          have hWt := hWt.mod hM32 (by first | exact Nat.le_refl _ | exact trivial | omega)
          refine hop_end hQ7 ⟨hSr7, ?_⟩
          refine h_take 8 rfl (by kernel_rfl) (by kernel_rfl) (by kernel_rfl) hSr7 (fun wS hSS => by ( exact (x_assign (by conv => lhs; whnf)))) ?_
          refine h_done (by kernel_rfl) ?_
          refine t_n ?_
          refine c_seq ?_
          refine r_plain ?_
          refine p1 (x_move (by conv => lhs; whnf)) ?_
          refine p1 (x_move (by conv => lhs; whnf)) ?_
          refine p1 (x_move (by conv => lhs; whnf)) ?_
          refine p1 (x_slice_lN u31 sz35 rfl rfl (by omega)) ?_
          have hq1 := hWt.size
          refine o_append (d := kHash) (xs.drop k) u31 inf35 rfl kHash_pos rfl rfl hO (src_pure u31 ((hl.ext hX).dropI k (by omega)) (by decide)) (by rw [List.length_drop]; omega) (hash_all _ _ _) (rfl) (by omega) (by omega) (by omega) (by omega) (by decide) ?_
          intro p46 c46 w33 hO hM33
          have hX := hX.mod hM33 (hBz)
          have hWt := hWt.mod hM33 (by first | exact Nat.le_refl _ | exact trivial | omega)
          refine p1 (x_assign (by conv => lhs; whnf)) ?_
          refine r_nil ?_
          refine t_n ?_
          refine c_ret ?_
          refine end1 rfl (by conv => lhs; whnf) ?_
          first | exact ⟨⟨_, _, _, rfl, (by rw [hp]; exact hl.ext hX), by omega⟩, hX⟩ | exact ⟨⟨_, _, _, rfl, (by rw [hp]; have h9 := hO.sl.mono (Nat.zero_le B); rw [show [] ++ xs.take k ++ [x] ++ xs.drop k = xs.take k ++ x :: xs.drop k from by simp] at h9; exact h9), by omega⟩, hX⟩
    · try simp only [decide_eq_true_eq, decide_eq_false_iff_not, Bool.not_eq_true, Bool.not_eq_false, Bool.not_eq_eq_eq_not, Bool.not_true, Bool.not_false, Int.not_lt, Int.not_le] at hb4_4
      refine sg0 25 rfl (by first | exact .inl rfl | exact .inr rfl) ?_
      refine sg0 25 rfl (by first | exact .inl rfl | exact .inr rfl) ?_
      refine sg0 25 rfl (by first | exact .inl rfl | exact .inr rfl) ?_
      refine sg0 25 rfl (by first | exact .inl rfl | exact .inr rfl) ?_
      refine sg0 25 rfl (by first | exact .inl rfl | exact .inr rfl) ?_
      refine sg0 25 rfl (by first | exact .inl rfl | exact .inr rfl) ?_
      refine s1 (x_pick_f rfl (by conv => lhs; whnf)) ?_
      refine s_nil ?_
      refine t_n ?_
      refine c_f rfl ?_
      have hp : wth xs x = xs.take k ++ x :: xs.drop k := by rw [hwa, if_neg (fun e => by first | exact hc32 (congrArg Subtype.val e.2) | omega)]
      refine c_skip ?_
      refine t_n ?_
      refine c_seq ?_
      refine r_plain ?_
      refine p1 (x_assign (by conv => lhs; whnf)) ?_
      refine r_nil ?_
      refine t_n ?_
      refine c_seq ?_
      refine r_held (fun w1 w2 => Ext w1 w2) mixed ?_
      intro w34 hE34
      have hX := hX.ext hE34
      have hB3 := hB3.ext hE34
      have hSr7 : (fun w1 w2 => Ext w1 w2) w34 w34 := Ext.refl w34
      refine h_take 0 rfl (by kernel_rfl) (by kernel_rfl) (by kernel_rfl) hSr7 (fun wS hSS => by (have hX := hX.ext hSS; have hB3 := hB3.ext hSS; exact (x_move (by conv => lhs; whnf)))) ?_
      refine h_take 1 rfl (by kernel_rfl) (by kernel_rfl) (by kernel_rfl) hSr7 (fun wS hSS => by (have hX := hX.ext hSS; have hB3 := hB3.ext hSS; exact (x_move (by conv => lhs; whnf)))) ?_
      refine h_take 2 rfl (by kernel_rfl) (by kernel_rfl) (by kernel_rfl) hSr7 (fun wS hSS => by (have hX := hX.ext hSS; have hB3 := hB3.ext hSS; exact (x_move (by conv => lhs; whnf)))) ?_
      refine h_take 3 rfl (by kernel_rfl) (by kernel_rfl) (by kernel_rfl) hSr7 (fun wS hSS => by (have hX := hX.ext hSS; have hB3 := hB3.ext hSS; exact (x_slice_hN u31 sz35 rfl rfl (by omega)))) ?_
      refine h_take 5 rfl (by kernel_rfl) (by kernel_rfl) (by kernel_rfl) hSr7 (fun wS hSS => by (have hX := hX.ext hSS; have hB3 := hB3.ext hSS; exact (x_loadB ua35 rfl hB3 (hv_sz sz35 x)))) ?_
      refine h_two 4 6 _ _ rfl rfl (by kernel_rfl) (hop_of_list (fun Q4 hQ4 => ?_)) (hop_of_list (fun Q6 hQ6 => ?_))
      · skip
        have hO : Own kHash 35 0 w34.heap.size w34 none 0 0 [] := Own.nil _ _ _ _ _
        have hBz : w.heap.size ≤ w34.heap.size := hX.size
        have hBs := hSr7.size
        have hWt := Ext.refl w34
        refine o_append (d := kHash) (xs.take k) u31 inf35 rfl kHash_pos rfl rfl hO (src_pure u31 ((hl.ext hX).take k (by omega)) (by decide)) (by rw [List.length_take]; omega) (hash_all _ _ _) (rfl) (by omega) (by omega) (by omega) (by omega) (by decide) ?_
        intro p38 c38 w35 hO hM35
        have hX := hX.mod hM35 (hBz)
        have hB3 := hB3.ext ((Ext.refl _).mod hM35 (Nat.le_refl _))
        have hSr7 := hSr7.mod hM35 (by first | exact Nat.le_refl _ | exact trivial | omega)
        have hWt := hWt.mod hM35 (by first | exact Nat.le_refl _ | exact trivial | omega)
        refine hop_end hQ4 ⟨hSr7, ?_⟩
        refine h_one 6 _ rfl (by kernel_rfl) (hop_of_list (fun Q6 hQ6 => ?_))
        refine o_buildSlice u31 inf35 rfl (by decide) (fun base hb => fill_kn [.agg (hv x)] (by intro v hv'; simp only [List.mem_singleton] at hv'; subst hv'; simp [Value.cells, hv, hcs_len]) base hb) ?_
        intro w36 g40 hN40
        have hE36 := hN40.ext
        have hX := hX.ext hE36
        have hB3 := hB3.ext hE36
        have hSr7 := hSr7.ext hE36
        have hWt := hWt.ext hE36
        have hO := hO.ext hE36
        have hJ : Own kHash 35 0 0 w36 (some ⟨g40, 0, none⟩) 1 1 [x] := own_lit [x] hN40 (Nat.zero_le _) (by simp)
        refine hop_end hQ6 ⟨hSr7, ?_⟩
        refine h_one 7 _ rfl (by kernel_rfl) (hop_of_list (fun Q7 hQ7 => ?_))
        have hq1 := hWt.size
        refine o_append (d := kHash) ([x]) u31 inf35 rfl kHash_pos rfl rfl hO (src_pure u31 hJ.sl (by decide)) rfl (hash_all _ _ _) (rfl) (by omega) (by omega) (by omega) (by omega) (by decide) ?_
        intro p41 c41 w37 hO hM37
        have hX := hX.mod hM37 (hBz)
        have hSr7 := hSr7.mod hM37 (by first | exact Nat.le_refl _ | exact trivial | omega)
        have hWt := hWt.mod hM37 (by first | exact Nat.le_refl _ | exact trivial | omega)
        refine hop_end hQ7 ⟨hSr7, ?_⟩
        refine h_take 8 rfl (by kernel_rfl) (by kernel_rfl) (by kernel_rfl) hSr7 (fun wS hSS => by ( exact (x_assign (by conv => lhs; whnf)))) ?_
        refine h_done (by kernel_rfl) ?_
        refine t_n ?_
        refine c_seq ?_
        refine r_plain ?_
        refine p1 (x_move (by conv => lhs; whnf)) ?_
        refine p1 (x_move (by conv => lhs; whnf)) ?_
        refine p1 (x_move (by conv => lhs; whnf)) ?_
        refine p1 (x_slice_lN u31 sz35 rfl rfl (by omega)) ?_
        have hq1 := hWt.size
        refine o_append (d := kHash) (xs.drop k) u31 inf35 rfl kHash_pos rfl rfl hO (src_pure u31 ((hl.ext hX).dropI k (by omega)) (by decide)) (by rw [List.length_drop]; omega) (hash_all _ _ _) (rfl) (by omega) (by omega) (by omega) (by omega) (by decide) ?_
        intro p46 c46 w38 hO hM38
        have hX := hX.mod hM38 (hBz)
        have hWt := hWt.mod hM38 (by first | exact Nat.le_refl _ | exact trivial | omega)
        refine p1 (x_assign (by conv => lhs; whnf)) ?_
        refine r_nil ?_
        refine t_n ?_
        refine c_ret ?_
        refine end1 rfl (by conv => lhs; whnf) ?_
        first | exact ⟨⟨_, _, _, rfl, (by rw [hp]; exact hl.ext hX), by omega⟩, hX⟩ | exact ⟨⟨_, _, _, rfl, (by rw [hp]; have h9 := hO.sl.mono (Nat.zero_le B); rw [show [] ++ xs.take k ++ [x] ++ xs.drop k = xs.take k ++ x :: xs.drop k from by simp] at h9; exact h9), by omega⟩, hX⟩
      · skip
        refine o_buildSlice u31 inf35 rfl (by decide) (fun base hb => fill_kn [.agg (hv x)] (by intro v hv'; simp only [List.mem_singleton] at hv'; subst hv'; simp [Value.cells, hv, hcs_len]) base hb) ?_
        intro w39 g40 hN40
        have hE39 := hN40.ext
        have hX := hX.ext hE39
        have hB3 := hB3.ext hE39
        have hSr7 := hSr7.ext hE39
        have hJ : Own kHash 35 0 0 w39 (some ⟨g40, 0, none⟩) 1 1 [x] := own_lit [x] hN40 (Nat.zero_le _) (by simp)
        refine hop_end hQ6 ⟨hSr7, ?_⟩
        refine h_one 4 _ rfl (by kernel_rfl) (hop_of_list (fun Q4 hQ4 => ?_))
        have hO : Own kHash 35 0 w39.heap.size w39 none 0 0 [] := Own.nil _ _ _ _ _
        have hBz : w.heap.size ≤ w39.heap.size := hX.size
        have hBs := hSr7.size
        have hWt := Ext.refl w39
        refine o_append (d := kHash) (xs.take k) u31 inf35 rfl kHash_pos rfl rfl hO (src_pure u31 ((hl.ext hX).take k (by omega)) (by decide)) (by rw [List.length_take]; omega) (hash_all _ _ _) (rfl) (by omega) (by omega) (by omega) (by omega) (by decide) ?_
        intro p38 c38 w40 hO hM40
        have hX := hX.mod hM40 (hBz)
        have hB3 := hB3.ext ((Ext.refl _).mod hM40 (Nat.le_refl _))
        have hSr7 := hSr7.mod hM40 (by first | exact Nat.le_refl _ | exact trivial | omega)
        have hJ := hJ.ext ((Ext.refl _).mod hM40 (Nat.le_refl _))
        have hWt := hWt.mod hM40 (by first | exact Nat.le_refl _ | exact trivial | omega)
        refine hop_end hQ4 ⟨hSr7, ?_⟩
        refine h_one 7 _ rfl (by kernel_rfl) (hop_of_list (fun Q7 hQ7 => ?_))
        have hq1 := hWt.size
        refine o_append (d := kHash) ([x]) u31 inf35 rfl kHash_pos rfl rfl hO (src_pure u31 hJ.sl (by decide)) rfl (hash_all _ _ _) (rfl) (by omega) (by omega) (by omega) (by omega) (by decide) ?_
        intro p41 c41 w41 hO hM41
        have hX := hX.mod hM41 (hBz)
        have hSr7 := hSr7.mod hM41 (by first | exact Nat.le_refl _ | exact trivial | omega)
        have hWt := hWt.mod hM41 (by first | exact Nat.le_refl _ | exact trivial | omega)
        refine hop_end hQ7 ⟨hSr7, ?_⟩
        refine h_take 8 rfl (by kernel_rfl) (by kernel_rfl) (by kernel_rfl) hSr7 (fun wS hSS => by ( exact (x_assign (by conv => lhs; whnf)))) ?_
        refine h_done (by kernel_rfl) ?_
        refine t_n ?_
        refine c_seq ?_
        refine r_plain ?_
        refine p1 (x_move (by conv => lhs; whnf)) ?_
        refine p1 (x_move (by conv => lhs; whnf)) ?_
        refine p1 (x_move (by conv => lhs; whnf)) ?_
        refine p1 (x_slice_lN u31 sz35 rfl rfl (by omega)) ?_
        have hq1 := hWt.size
        refine o_append (d := kHash) (xs.drop k) u31 inf35 rfl kHash_pos rfl rfl hO (src_pure u31 ((hl.ext hX).dropI k (by omega)) (by decide)) (by rw [List.length_drop]; omega) (hash_all _ _ _) (rfl) (by omega) (by omega) (by omega) (by omega) (by decide) ?_
        intro p46 c46 w42 hO hM42
        have hX := hX.mod hM42 (hBz)
        have hWt := hWt.mod hM42 (by first | exact Nat.le_refl _ | exact trivial | omega)
        refine p1 (x_assign (by conv => lhs; whnf)) ?_
        refine r_nil ?_
        refine t_n ?_
        refine c_ret ?_
        refine end1 rfl (by conv => lhs; whnf) ?_
        first | exact ⟨⟨_, _, _, rfl, (by rw [hp]; exact hl.ext hX), by omega⟩, hX⟩ | exact ⟨⟨_, _, _, rfl, (by rw [hp]; have h9 := hO.sl.mono (Nat.zero_le B); rw [show [] ++ xs.take k ++ [x] ++ xs.drop k = xs.take k ++ x :: xs.drop k from by simp] at h9; exact h9), by omega⟩, hX⟩
theorem ref06_Sort (xs : List Hash) (B : Nat) (p : Option Addr) (n c : Nat) (w : World) (hl : Sl kHash 35 B w p n c xs) (hs : n ≤ 4194304000) :
    Ret Try.prog 37 [.slice p n c] w (fun v w' => (∃ q m c', v = .slice q m c' ∧ Sl kHash 35 B w' q m c' (srt xs) ∧ m ≤ n) ∧ Ext w w') := by
  have hX := Ext.refl w
  refine enter 18 _ Try.func37 rfl rfl (Nat.le_of_ble_eq_true rfl) ?_
  refine c_seq ?_
  refine r_plain ?_
  refine p1 (x_assign (by conv => lhs; whnf)) ?_
  refine r_nil ?_
  refine t_n ?_
  refine c_seq ?_
  refine r_plain ?_
  refine p1 (x_assign (by conv => lhs; whnf)) ?_
  refine r_nil ?_
  refine t_n ?_
  refine c_seq ?_
  refine c_seq ?_
  refine r_plain ?_
  refine p1 (x_assign (by conv => lhs; whnf)) ?_
  refine r_nil ?_
  refine t_n ?_
  refine c_block ?_
  have hWL0 := Ext.refl w
  have hlen := hl.len
  have hfit := hl.fit
  have hcap := hl.cap
  refine c_loop (ι := Nat × Option Addr × Nat × Nat) [3, 4, 5, 6, 7, 8, 9, 10, 11, 12, 13, 14, 15, 16] (fun (k, q, m, c1) => [(3, .slice q m c1), (4, .int .i64 (k : Int))]) (fun (k, q, m, c1) w' => Ext w w' ∧ (Sl kHash 35 B w' q m c1 (srtTo [] (xs.take k)) ∧ m ≤ k ∧ k ≤ n)) (fun (k, q, m, c1) => n - k) ((0, none, 0, 0)) ⟨rfl, rfl, trivial⟩ ⟨Ext.refl _, ⟨Sl.nil _ _ _ _ _ _ (by omega), by omega, by omega⟩⟩ ?_
  rintro ⟨k, q, m, c1⟩ GL0 w1 ⟨hE1, hR, hm, hk⟩
  have hX := hX.ext hE1
  have hWL0 := hE1
  refine c_seq ?_
  refine c_seq ?_
  refine r_plain ?_
  refine p1 (x_move (by conv => lhs; whnf)) ?_
  refine p1 (x_move (by conv => lhs; whnf)) ?_
  refine p1 (x_len_slice u31 rfl) ?_
  refine p1 (x_lss rfl rfl) ?_
  refine r_nil ?_
  refine t_n ?_
  first | refine c_dec rfl (fun hc8 => ?_) (fun hc8 => ?_) | refine c_if rfl (fun hc8 => ?_) (fun hc8 => ?_)
  · try simp only [decide_eq_true_eq, decide_eq_false_iff_not, Bool.not_eq_true, Bool.not_eq_false, Bool.not_eq_eq_eq_not, Bool.not_true, Bool.not_false, Int.not_lt, Int.not_le] at hc8
    refine c_skip ?_
    refine t_n ?_
    refine c_seq ?_
    refine c_block ?_
    refine r_plain ?_
    refine p1 (x_move (by conv => lhs; whnf)) ?_
    refine p1 (x_move (by conv => lhs; whnf)) ?_
    refine p1 (x_move (by conv => lhs; whnf)) ?_
    refine p1 (x_ixs u31 sz35 rfl rfl ((hl.ext hX).adr kHash_pos (by omega)) (by omega) (by omega)) ?_
    refine p1 (x_loadN ua35 rfl (hcs_sz sz35 _) ((hl.ext hX).hashAt _ (by omega) (by omega))) ?_
    refine o_call Try.func93 fn93 fb93 (ref06_With (srtTo [] (xs.take k)) (xs.getD _ default) B _ _ _ _ hR (by omega)) rfl ?_
    rintro v2 w2 ⟨⟨q2, m2, c2, rfl, hR2, hm2⟩, hE2⟩
    have hX := hX.ext hE2
    have hWL0 := hWL0.ext hE2
    have hR := hR.ext hE2
    refine p1 (x_assign (by conv => lhs; whnf)) ?_
    refine r_nil ?_
    refine b_n ?_
    refine t_n ?_
    refine r_plain ?_
    refine p1 (x_move (by conv => lhs; whnf)) ?_
    refine p1 (x_add rfl rfl (fits_i64 (by omega) (by omega))) ?_
    refine p1 (x_assign (by conv => lhs; whnf)) ?_
    refine r_nil ?_
    refine t_n (At.mk ((k + 1, q2, m2, c2)) (by repeat (first | exact Agr.refl _ _ | exact Agr.hav _ _ _ | refine Agr.upd rfl ?_ | refine Agr.updL ?_ _ rfl | refine Agr.hav' rfl ?_)) ⟨rfl, rfl, trivial⟩ ?_)
    exact ⟨⟨hWL0, ⟨by rw [srtTo_take (by omega)]; exact hR2, by omega, by omega⟩⟩, by first | (dsimp only; omega) | ((show _ < _); omega)⟩
  · try simp only [decide_eq_true_eq, decide_eq_false_iff_not, Bool.not_eq_true, Bool.not_eq_false, Bool.not_eq_eq_eq_not, Bool.not_true, Bool.not_false, Int.not_lt, Int.not_le] at hc8
    have hkn : k = n := by omega
    rw [hkn, List.take_of_length_le (by omega)] at hR
    refine c_exit ?_
    refine t_e ?_
    refine t_e ?_
    refine b_hit ?_
    refine t_n ?_
    refine c_seq ?_
    refine r_plain ?_
    refine p1 (x_move (by conv => lhs; whnf)) ?_
    refine p1 (x_assign (by conv => lhs; whnf)) ?_
    refine r_nil ?_
    refine t_n ?_
    refine c_ret ?_
    refine end1 rfl (by conv => lhs; whnf) ?_
    exact ⟨⟨_, _, _, rfl, hR, by omega⟩, hX⟩
end Go.Proofs.Eng
end
section
set_option linter.unusedVariables false
set_option linter.unusedSimpArgs false
set_option maxRecDepth 100000
set_option maxHeartbeats 4000000
namespace Go.Proofs.Eng
open Go.RowKit
open Extern.Stop (cell)
theorem ref15_own (k : ByteArray) (hs : List Hash) (B : Nat) (p : Option Addr) (n c : Nat) (w : World) (ha : Sl kHash 35 B w p n c hs) (hn : n ≤ 4398046511104) :
    Ret Try.prog 114 [.string k, .slice p n c] w (fun v w' => (∃ g, v = .slice (some ⟨g, 0, none⟩) 1 1 ∧ Own (kBr (fun j => w.heap.size ≤ j)) 81 0 w.heap.size w' (some ⟨g, 0, none⟩) 1 1 [(k, hs)]) ∧ Ext w w') := by
  have hX := Ext.refl w
  refine enter 11 _ Try.func114 rfl rfl (Nat.le_of_ble_eq_true rfl) ?_
  refine c_seq ?_
  refine r_plain ?_
  refine p1 (x_assign (by conv => lhs; whnf)) ?_
  refine r_nil ?_
  refine t_n ?_
  refine c_seq ?_
  refine r_plain ?_
  refine p1 (x_move (by conv => lhs; whnf)) ?_
  have hXs := hX.size
  refine o_buildSlice u31 inf35 rfl (by decide) (fun base hb => by have h0 : base = #[] := Array.eq_empty_of_size_eq_zero (by simpa using hb); subst h0; rfl) ?_
  intro w1 g6 hN6
  have hE1 := hN6.ext
  have hX := hX.ext hE1
  have hO : Own kHash 35 0 w.heap.size w1 (some ⟨g6, 0, none⟩) 0 0 [] := Own.made kHash 35 0 _ hN6 [] [] 0 0 rfl trivial hXs (by omega) (by omega) (by rfl) (by simp)
  refine p1 (x_move (by conv => lhs; whnf)) ?_
  have hq1 := hX.size
  refine o_append (d := kHash) (hs) u31 inf35 rfl kHash_pos rfl rfl hO (src_pure u31 (ha.ext hX) (by decide)) ha.len (hash_all _ _ _) (rfl) (by omega) (by omega) (by omega) (by omega) (by decide) ?_
  intro p8 c8 w2 hO hM2
  have hX := hX.mod hM2 (Nat.le_refl _)
  rw [List.nil_append] at hO
  refine p1 (x_build2 pl81 (by conv => lhs; whnf) (by conv => lhs; whnf) rfl rfl) ?_
  have hXs := hX.size
  refine o_buildSlice u30 inf81 rfl (by decide) (fun base hb => fill_one (by rfl) base hb) ?_
  intro w3 g10 hN10
  have hE3 := hN10.ext
  have hX := hX.ext hE3
  have hO := hO.ext hE3
  have hI : Own (kBr (fun j => w.heap.size ≤ j)) 81 0 w.heap.size w3 (some ⟨g10, 0, none⟩) 1 1 [(k, hs)] := Own.made _ 81 0 _ hN10 [(k, hs)] [[.string k, .slice p8 (0 + n) c8]] 1 1 rfl ⟨⟨p8, _, c8, rfl, SlS.ofHash hO⟩, trivial⟩ hXs (by omega) (by omega) (by rfl) (by rfl)
  refine p1 (x_assign (by conv => lhs; whnf)) ?_
  refine r_nil ?_
  refine t_n ?_
  refine c_ret ?_
  refine end1 rfl (by conv => lhs; whnf) ?_
  exact ⟨⟨_, rfl, hI⟩, hX⟩
end Go.Proofs.Eng
end
section
set_option linter.unusedVariables false
set_option linter.unusedSimpArgs false
set_option maxRecDepth 100000
set_option maxHeartbeats 4000000
namespace Go.Proofs.Eng
open Go.RowKit
open Extern.Stop (cell)
theorem fb112 : Try.f112.body.isNone = false := by kernel_rfl
theorem fb113 : Try.f113.body.isNone = false := by kernel_rfl
theorem fn112 : (Try.f112.name == "runtime.NumGoroutine") = false := by kernel_rfl
theorem fn113 : (Try.f113.name == "runtime.NumGoroutine") = false := by kernel_rfl
theorem ua81 : (Try.prog.underlying 81).map TypeDesc.isRow = some true := by kernel_rfl
theorem zr81 : (Try.prog.info? 81).map (·.zero) = some (some (.agg #[.string ByteArray.empty, .slice none 0 0])) := by kernel_rfl
end Go.Proofs.Eng
end
section
set_option linter.unusedVariables false
set_option linter.unusedSimpArgs false
set_option maxRecDepth 100000
set_option maxHeartbeats 4000000
namespace Go.Proofs.Eng
open Go.RowKit
open Extern.Stop (cell)
theorem Ext.range {w w2 : World} (h : Ext w w2) {b o : Nat} {cs : List Value} (hr : w.rangeAt b o cs) : w2.rangeAt b o cs := fun j v hv => h.cell (hr j v hv)
theorem branch_Same1 (a b : ByteArray) (p q : Option Addr) (n c m c2 : Nat) (B B2 : Nat) (xs ys : List Hash) (w : World) (ha : Sl kHash 35 B w p n c xs) (hb : Sl kHash 35 B2 w q m c2 ys) :
    Ret Try.prog 113 [.agg #[.string a, .slice p n c], .agg #[.string b, .slice q m c2]] w (fun v w' => v = .bool (decide ((a, xs) = (b, ys))) ∧ Ext w w') := by
  have hX := Ext.refl w
  refine enter 17 _ Try.func113 rfl rfl (Nat.le_of_ble_eq_true rfl) ?_
  refine c_seq ?_
  refine r_plain ?_
  refine o_boxA (by conv => lhs; whnf) ?_
  intro w1 g2 hN2
  have hE1 := hN2.ext
  have hX := hX.ext hE1
  have hB2 := hN2.blk
  refine o_boxA (by conv => lhs; whnf) ?_
  intro w2 g3 hN3
  have hE2 := hN3.ext
  have hX := hX.ext hE2
  have hB2 := hB2.ext hE2
  have hB3 := hN3.blk
  refine p1 (x_assign (by conv => lhs; whnf)) ?_
  refine r_nil ?_
  refine t_n ?_
  refine c_seq ?_
  refine r_plain ?_
  refine p1 (x_fieldAddr fo81_0 sz9 rfl) ?_
  refine p1 (x_load1 un9 rfl (hB2.cell (rfl))) ?_
  refine p1 (x_fieldAddr fo81_0 sz9 rfl) ?_
  refine p1 (x_load1 un9 rfl (hB3.cell (rfl))) ?_
  refine p1 (x_eql_str rfl rfl) ?_
  refine p1b (x_move (by conv => lhs; whnf)) (fun hb1_5 => ?_) (fun hb1_5 => ?_)
  · try simp only [decide_eq_true_eq, decide_eq_false_iff_not, Bool.not_eq_true, Bool.not_eq_false, Bool.not_eq_eq_eq_not, Bool.not_true, Bool.not_false, Int.not_lt, Int.not_le] at hb1_5
    refine g1 10 rfl rfl (x_fieldAddr fo81_1 sz31 rfl) ?_
    refine g1 10 rfl rfl (x_load1 un31 rfl (hB2.cell (rfl))) ?_
    refine g1 10 rfl rfl (x_fieldAddr fo81_1 sz31 rfl) ?_
    refine g1 10 rfl rfl (x_load1 un31 rfl (hB3.cell (rfl))) ?_
    refine g_drop 10 rfl rfl ?_
    refine o_call Try.func88 fn88 fb88 (slices_Equal_hash xs ys _ _ _ _ _ _ _ _ _ (ha.ext hX) (hb.ext hX)) rfl ?_
    rintro v3 w3 ⟨rfl, hE3⟩
    have hX := hX.ext hE3
    have hB2 := hB2.ext hE3
    have hB3 := hB3.ext hE3
    refine p1 (x_pick_t rfl (by conv => lhs; whnf)) ?_
    refine p1 (x_assign (by conv => lhs; whnf)) ?_
    refine r_nil ?_
    refine t_n ?_
    refine c_ret ?_
    refine end1 rfl (by conv => lhs; whnf) ?_
    first | exact ⟨congrArg Value.bool (decide_eq_decide.2 (by simp_all)), hX⟩ | exact ⟨congrArg Value.bool (decide_eq_false (fun e => hb1_5 (congrArg Prod.fst e))).symm, hX⟩
  · try simp only [decide_eq_true_eq, decide_eq_false_iff_not, Bool.not_eq_true, Bool.not_eq_false, Bool.not_eq_eq_eq_not, Bool.not_true, Bool.not_false, Int.not_lt, Int.not_le] at hb1_5
    refine g0 10 rfl (by first | exact .inl rfl | exact .inr rfl) ?_
    refine g0 10 rfl (by first | exact .inl rfl | exact .inr rfl) ?_
    refine g0 10 rfl (by first | exact .inl rfl | exact .inr rfl) ?_
    refine g0 10 rfl (by first | exact .inl rfl | exact .inr rfl) ?_
    refine g0 10 rfl (by first | exact .inl rfl | exact .inr rfl) ?_
    refine p1 (x_pick_f rfl (by conv => lhs; whnf)) ?_
    refine p1 (x_assign (by conv => lhs; whnf)) ?_
    refine r_nil ?_
    refine t_n ?_
    refine c_ret ?_
    refine end1 rfl (by conv => lhs; whnf) ?_
    first | exact ⟨congrArg Value.bool (decide_eq_decide.2 (by simp_all)), hX⟩ | exact ⟨congrArg Value.bool (decide_eq_false (fun e => hb1_5 (congrArg Prod.fst e))).symm, hX⟩
theorem slices_EqualFunc_br (l l2 : List Br) (B B2 : Nat) (p q : Option Addr) (n c m c2 : Nat) (w : World) (ha : Sl kBrA 81 B w p n c l) (hb : Sl kBrA 81 B2 w q m c2 l2) :
    Ret Try.prog 112 [.slice p n c, .slice q m c2, .func (.func 113) #[] #[]] w (fun v w' => v = .bool (decide (l = l2)) ∧ Ext w w') := by
  have hX := Ext.refl w
  refine enter 32 _ Try.func112 rfl rfl (Nat.le_of_ble_eq_true rfl) ?_
  refine c_seq ?_
  refine r_plain ?_
  refine p1 (x_assign (by conv => lhs; whnf)) ?_
  refine r_nil ?_
  refine t_n ?_
  refine c_seq ?_
  refine c_seq ?_
  refine r_plain ?_
  refine p1 (x_move (by conv => lhs; whnf)) ?_
  refine p1 (x_len_slice u30 rfl) ?_
  refine p1 (x_move (by conv => lhs; whnf)) ?_
  refine p1 (x_len_slice u30 rfl) ?_
  refine p1 (x_neq rfl rfl) ?_
  refine r_nil ?_
  refine t_n ?_
  first | refine c_dec rfl (fun hc14 => ?_) (fun hc14 => ?_) | refine c_if rfl (fun hc14 => ?_) (fun hc14 => ?_)
  · try simp only [decide_eq_true_eq, decide_eq_false_iff_not, Bool.not_eq_true, Bool.not_eq_false, Bool.not_eq_eq_eq_not, Bool.not_true, Bool.not_false, Int.not_lt, Int.not_le] at hc14
    have hlen := ha.len
    have hlen2 := hb.len
    have hp : decide (l = l2) = false := decide_eq_false (fun e => by subst e; omega)
    refine c_seq ?_
    refine r_plain ?_
    refine p1 (x_assign (by conv => lhs; whnf)) ?_
    refine r_nil ?_
    refine t_n ?_
    refine c_ret ?_
    refine t_r ?_
    refine end1 rfl (by conv => lhs; whnf) ?_
    exact ⟨by rw [hp], hX⟩
  · try simp only [decide_eq_true_eq, decide_eq_false_iff_not, Bool.not_eq_true, Bool.not_eq_false, Bool.not_eq_eq_eq_not, Bool.not_true, Bool.not_false, Int.not_lt, Int.not_le] at hc14
    refine c_skip ?_
    refine t_n ?_
    refine c_seq ?_
    refine c_seq ?_
    refine r_plain ?_
    refine p1 (x_move (by conv => lhs; whnf)) ?_
    refine p1 (x_len_slice u30 rfl) ?_
    refine p1 (x_move (by conv => lhs; whnf)) ?_
    refine r_nil ?_
    refine t_n ?_
    refine c_block ?_
    have hlen := ha.len
    have hfit := ha.fit
    have hcap := ha.cap
    have hlen2 := hb.len
    refine c_loop (ι := Nat) [6, 7, 8, 9, 17, 18, 19, 20, 21, 22, 23, 24, 25, 26, 27, 28, 29, 30, 31] (fun i => [(17, .int .i64 (i : Int))]) (fun i w' => Ext w w' ∧ (i ≤ n ∧ ∀ j, j < i → l.getD j default = l2.getD j default)) (fun i => n - i) (0) ⟨rfl, trivial⟩ ⟨hX, ⟨by omega, fun j hj => by omega⟩⟩ ?_
    rintro i GL0 w1 ⟨hE1, hi, hL0⟩
    have hX := hE1
    refine c_seq ?_
    refine r_plain ?_
    refine p1 (x_lss rfl rfl) ?_
    refine r_nil ?_
    refine t_n ?_
    refine c_seq ?_
    first | refine c_dec rfl (fun hc18 => ?_) (fun hc18 => ?_) | refine c_if rfl (fun hc18 => ?_) (fun hc18 => ?_)
    · try simp only [decide_eq_true_eq, decide_eq_false_iff_not, Bool.not_eq_true, Bool.not_eq_false, Bool.not_eq_eq_eq_not, Bool.not_true, Bool.not_false, Int.not_lt, Int.not_le] at hc18
      refine c_skip ?_
      refine t_n ?_
      refine c_seq ?_
      refine c_block ?_
      refine c_seq ?_
      obtain ⟨q1, m1, c1, hrow1, hc0_1, hc1_1, hS1⟩ := ha.brAt i (by omega)
      refine r_plain ?_
      refine p1 (x_move (by conv => lhs; whnf)) ?_
      refine p1 (x_ixs u30 sz81 rfl rfl ((ha.ext hX).adr kBrA_pos (by omega)) (by omega) (by omega)) ?_
      refine p1 (x_loadN ua81 rfl (by exact sz81) (hX.range hrow1)) ?_
      have hXs8 := hX.size
      refine o_alloc zr81 ?_
      intro w2 g8 hN8
      have hE2 := hN8.ext
      have hX := hX.ext hE2
      have hB8 := hN8.blk
      refine p1 (x_assign (by conv => lhs; whnf)) ?_
      refine o_storeAll rfl (by conv => lhs; whnf) (by simp [Value.oneCell']) (by exact sz81) hB8 (by rfl) ?_
      intro w3 hP3
      have hX := hX.put hP3 (by rw [hN8.g_eq]; exact hXs8)
      have hB8 := hP3.blk
      refine r_nil ?_
      refine t_n ?_
      refine c_seq ?_
      obtain ⟨q2, m2, c2, hrow2, hc0_2, hc1_2, hS2⟩ := hb.brAt i (by omega)
      refine r_plain ?_
      refine p1 (x_move (by conv => lhs; whnf)) ?_
      refine p1 (x_move (by conv => lhs; whnf)) ?_
      refine p1 (x_ixs u30 sz81 rfl rfl ((hb.ext hX).adr kBrA_pos (by omega)) (by omega) (by omega)) ?_
      refine p1 (x_loadN ua81 rfl (by exact sz81) (hX.range hrow2)) ?_
      have hXs9 := hX.size
      have hB8lt := hB8.lt
      refine o_alloc zr81 ?_
      intro w4 g9 hN9
      have hE4 := hN9.ext
      have hX := hX.ext hE4
      have hB8 := hB8.ext hE4
      have hB9 := hN9.blk
      have hg9 := hN9.g_eq
      refine o_storeAll rfl (by conv => lhs; whnf) (by simp [Value.oneCell']) (by exact sz81) hB9 (by rfl) ?_
      intro w5 hP5
      have hX := hX.put hP5 (by rw [hN9.g_eq]; exact hXs9)
      have hB8 := hP5.keep hB8 (by omega)
      have hB9 := hP5.blk
      refine r_nil ?_
      refine t_n ?_
      refine c_seq ?_
      refine r_plain ?_
      refine p1 (x_move (by conv => lhs; whnf)) ?_
      refine p1 (x_loadB ua81 rfl hB8 sz81) ?_
      refine p1 (x_loadB ua81 rfl hB9 sz81) ?_
      refine o_callv (fs := []) (cs := []) rfl Try.func113 fn113 fb113 rfl rfl (branch_Same1 _ _ _ _ _ _ _ _ _ _ (l.getD i default).2 (l2.getD i default).2 _ (hS1.ext hX) (hS2.ext hX)) ?_
      rintro v6 w6 ⟨rfl, hE6⟩
      have hX := hX.ext hE6
      have hB8 := hB8.ext hE6
      have hB9 := hB9.ext hE6
      first | refine p1 (x_notd rfl) ?_ | refine p1 (x_not rfl) ?_
      refine r_nil ?_
      refine t_n ?_
      first | refine c_dec rfl (fun hc30 => ?_) (fun hc30 => ?_) | refine c_if rfl (fun hc30 => ?_) (fun hc30 => ?_)
      · try simp only [decide_eq_true_eq, decide_eq_false_iff_not, Bool.not_eq_true, Bool.not_eq_false, Bool.not_eq_eq_eq_not, Bool.not_true, Bool.not_false, Int.not_lt, Int.not_le] at hc30
        have hp : decide (l = l2) = false := decide_eq_false (fun e => hc30 (by rw [e]))
        refine c_seq ?_
        refine r_plain ?_
        refine p1 (x_assign (by conv => lhs; whnf)) ?_
        refine r_nil ?_
        refine t_n ?_
        refine c_ret ?_
        refine b_r ?_
        refine t_r ?_
        refine t_r ?_
        refine b_r ?_
        refine t_r ?_
        refine end1 rfl (by conv => lhs; whnf) ?_
        exact ⟨by rw [hp], hX⟩
      · try simp only [decide_eq_true_eq, decide_eq_false_iff_not, Bool.not_eq_true, Bool.not_eq_false, Bool.not_eq_eq_eq_not, Bool.not_true, Bool.not_false, Int.not_lt, Int.not_le] at hc30
        have h1 : l.getD i default = l2.getD i default := Prod.ext_iff.2 (by simpa using hc30)
        refine c_skip ?_
        refine b_n ?_
        refine t_n ?_
        refine r_plain ?_
        refine p1 (x_add rfl rfl (fits_i64 (by omega) (by omega))) ?_
        refine p1 (x_move (by conv => lhs; whnf)) ?_
        refine r_nil ?_
        refine t_n (At.mk (i + 1) (by repeat (first | exact Agr.refl _ _ | exact Agr.hav _ _ _ | refine Agr.upd rfl ?_ | refine Agr.updL ?_ _ rfl | refine Agr.hav' rfl ?_)) ⟨rfl, trivial⟩ ?_)
        exact ⟨⟨hX, ⟨by omega, fun j hj => if h : j < i then hL0 j h else by rw [show j = i from by omega]; exact h1⟩⟩, by first | (dsimp only; omega) | ((show _ < _); omega)⟩
    · try simp only [decide_eq_true_eq, decide_eq_false_iff_not, Bool.not_eq_true, Bool.not_eq_false, Bool.not_eq_eq_eq_not, Bool.not_true, Bool.not_false, Int.not_lt, Int.not_le] at hc18
      have hp : decide (l = l2) = true := decide_eq_true (br_ext (by omega) (fun j hj => hL0 j (by omega)))
      refine c_exit ?_
      refine t_e ?_
      refine t_e ?_
      refine b_hit ?_
      refine t_n ?_
      refine c_seq ?_
      refine r_plain ?_
      refine p1 (x_assign (by conv => lhs; whnf)) ?_
      refine r_nil ?_
      refine t_n ?_
      refine c_ret ?_
      refine end1 rfl (by conv => lhs; whnf) ?_
      exact ⟨by rw [hp], hX⟩
theorem branch_Same (l l2 : List Br) (B B2 : Nat) (p q : Option Addr) (n c m c2 : Nat) (w : World) (ha : Sl kBrA 81 B w p n c l) (hb : Sl kBrA 81 B2 w q m c2 l2) :
    Ret Try.prog 66 [.slice p n c, .slice q m c2] w (fun v w' => v = .bool (decide (l = l2)) ∧ Ext w w') := by
  have hX := Ext.refl w
  refine enter 8 _ Try.func66 rfl rfl (Nat.le_of_ble_eq_true rfl) ?_
  refine c_seq ?_
  refine r_plain ?_
  refine p1 (x_assign (by conv => lhs; whnf)) ?_
  refine r_nil ?_
  refine t_n ?_
  refine c_seq ?_
  refine r_plain ?_
  refine p1 (x_move (by conv => lhs; whnf)) ?_
  refine p1 (x_move (by conv => lhs; whnf)) ?_
  refine o_call Try.func112 fn112 fb112 (slices_EqualFunc_br l l2 _ _ _ _ _ _ _ _ _ (ha.ext hX) (hb.ext hX)) rfl ?_
  rintro v1 w1 ⟨rfl, hE1⟩
  have hX := hX.ext hE1
  refine p1 (x_assign (by conv => lhs; whnf)) ?_
  refine r_nil ?_
  refine t_n ?_
  refine c_ret ?_
  refine end1 rfl (by conv => lhs; whnf) ?_
  exact ⟨rfl, hX⟩
theorem ref15_Same (l l2 : List Br) (B B2 : Nat) (p q : Option Addr) (n c m c2 : Nat) (w : World) (ha : Sl kBrA 81 B w p n c l) (hb : Sl kBrA 81 B2 w q m c2 l2) :
    Ret Try.prog 81 [.slice p n c, .slice q m c2] w (fun v w' => v = .bool (decide (l = l2)) ∧ Ext w w') := by
  have hX := Ext.refl w
  refine enter 42 _ Try.func81 rfl rfl (Nat.le_of_ble_eq_true rfl) ?_
  refine c_seq ?_
  refine r_plain ?_
  refine p1 (x_assign (by conv => lhs; whnf)) ?_
  refine r_nil ?_
  refine t_n ?_
  refine c_seq ?_
  refine c_seq ?_
  refine r_plain ?_
  refine p1 (x_move (by conv => lhs; whnf)) ?_
  refine p1 (x_len_slice u30 rfl) ?_
  refine p1 (x_move (by conv => lhs; whnf)) ?_
  refine p1 (x_len_slice u30 rfl) ?_
  refine p1 (x_neq rfl rfl) ?_
  refine r_nil ?_
  refine t_n ?_
  first | refine c_dec rfl (fun hc10 => ?_) (fun hc10 => ?_) | refine c_if rfl (fun hc10 => ?_) (fun hc10 => ?_)
  · try simp only [decide_eq_true_eq, decide_eq_false_iff_not, Bool.not_eq_true, Bool.not_eq_false, Bool.not_eq_eq_eq_not, Bool.not_true, Bool.not_false, Int.not_lt, Int.not_le] at hc10
    have hlen := ha.len
    have hlen2 := hb.len
    have hp : decide (l = l2) = false := decide_eq_false (fun e => by subst e; omega)
    refine c_seq ?_
    refine r_plain ?_
    refine p1 (x_assign (by conv => lhs; whnf)) ?_
    refine r_nil ?_
    refine t_n ?_
    refine c_ret ?_
    refine t_r ?_
    refine end1 rfl (by conv => lhs; whnf) ?_
    exact ⟨by rw [hp], hX⟩
  · try simp only [decide_eq_true_eq, decide_eq_false_iff_not, Bool.not_eq_true, Bool.not_eq_false, Bool.not_eq_eq_eq_not, Bool.not_true, Bool.not_false, Int.not_lt, Int.not_le] at hc10
    refine c_skip ?_
    refine t_n ?_
    refine c_seq ?_
    refine c_seq ?_
    refine r_plain ?_
    refine p1 (x_assign (by conv => lhs; whnf)) ?_
    refine r_nil ?_
    refine t_n ?_
    refine c_block ?_
    have hWL0 := Ext.refl w
    have hlen := ha.len
    have hfit := ha.fit
    have hcap := ha.cap
    have hlen2 := hb.len
    refine c_loop (ι := Nat) [4, 5, 11, 12, 13, 14, 15, 16, 17, 18, 19, 20, 21, 22, 23, 24, 25, 26, 27, 28, 29, 30, 31, 32, 33, 34, 35, 36, 37, 38, 39, 40, 41] (fun i => [(5, .int .i64 (i : Int))]) (fun i w' => Ext w w' ∧ (i ≤ n ∧ ∀ j, j < i → l.getD j default = l2.getD j default)) (fun i => n - i) (0) ⟨rfl, trivial⟩ ⟨Ext.refl _, ⟨by omega, fun j hj => by omega⟩⟩ ?_
    rintro i GL0 w1 ⟨hE1, hi, hL0⟩
    have hX := hX.ext hE1
    have hWL0 := hE1
    refine c_seq ?_
    refine c_seq ?_
    refine r_plain ?_
    refine p1 (x_move (by conv => lhs; whnf)) ?_
    refine p1 (x_move (by conv => lhs; whnf)) ?_
    refine p1 (x_len_slice u30 rfl) ?_
    refine p1 (x_lss rfl rfl) ?_
    refine r_nil ?_
    refine t_n ?_
    first | refine c_dec rfl (fun hc14 => ?_) (fun hc14 => ?_) | refine c_if rfl (fun hc14 => ?_) (fun hc14 => ?_)
    · try simp only [decide_eq_true_eq, decide_eq_false_iff_not, Bool.not_eq_true, Bool.not_eq_false, Bool.not_eq_eq_eq_not, Bool.not_true, Bool.not_false, Int.not_lt, Int.not_le] at hc14
      refine c_skip ?_
      refine t_n ?_
      refine c_seq ?_
      refine c_block ?_
      refine c_seq ?_
      refine r_tail 22 mixed (by kernel_rfl) ?_
      intro w2 hE2
      have hX := hX.ext hE2
      have hWL0 := hWL0.ext hE2
      obtain ⟨q1, m1, c1, hrow1, hc0_1, hc1_1, hS1⟩ := (ha.ext hX).brAt i (by omega)
      obtain ⟨q2, m2, c2, hrow2, hc0_2, hc1_2, hS2⟩ := (hb.ext hX).brAt i (by omega)
      refine s1 (x_move (by conv => lhs; whnf)) ?_
      refine s1 (x_move (by conv => lhs; whnf)) ?_
      refine s1 (x_ixs u30 sz81 rfl rfl ((ha.ext hX).adr kBrA_pos (by omega)) (by omega) (by omega)) ?_
      refine s1 (x_fieldAddr fo81_0 sz9 rfl) ?_
      refine s1 (x_load1 un9 rfl hc0_1) ?_
      refine s1 (x_move (by conv => lhs; whnf)) ?_
      refine s1 (x_move (by conv => lhs; whnf)) ?_
      refine s1 (x_ixs u30 sz81 rfl rfl ((hb.ext hX).adr kBrA_pos (by omega)) (by omega) (by omega)) ?_
      refine s1 (x_fieldAddr fo81_0 sz9 rfl) ?_
      refine s1 (x_load1 un9 rfl hc0_2) ?_
      refine s1 (x_neq_str rfl rfl) ?_
      refine s1b (x_move (by conv => lhs; whnf)) (fun hb6_11 => ?_) (fun hb6_11 => ?_)
      · try simp only [decide_eq_true_eq, decide_eq_false_iff_not, Bool.not_eq_true, Bool.not_eq_false, Bool.not_eq_eq_eq_not, Bool.not_true, Bool.not_false, Int.not_lt, Int.not_le] at hb6_11
        have hp : decide (l = l2) = false := decide_eq_false (fun e => hb6_11 (by rw [e]))
        refine sg0 28 rfl (by first | exact .inl rfl | exact .inr rfl) ?_
        refine sg0 28 rfl (by first | exact .inl rfl | exact .inr rfl) ?_
        refine sg0 28 rfl (by first | exact .inl rfl | exact .inr rfl) ?_
        refine sg0 28 rfl (by first | exact .inl rfl | exact .inr rfl) ?_
        refine sg0 28 rfl (by first | exact .inl rfl | exact .inr rfl) ?_
        refine sg0 28 rfl (by first | exact .inl rfl | exact .inr rfl) ?_
        refine sg0 28 rfl (by first | exact .inl rfl | exact .inr rfl) ?_
        refine sg0 28 rfl (by first | exact .inl rfl | exact .inr rfl) ?_
        refine sg0 28 rfl (by first | exact .inl rfl | exact .inr rfl) ?_
        refine sg0 28 rfl (by first | exact .inl rfl | exact .inr rfl) ?_
        refine s_nil ?_
        refine g0 28 rfl (by first | exact .inl rfl | exact .inr rfl) ?_
        refine g0 28 rfl (by first | exact .inl rfl | exact .inr rfl) ?_
        refine p1 (x_pick_t rfl (by conv => lhs; whnf)) ?_
        refine r_nil ?_
        refine t_n ?_
        refine c_t rfl ?_
        have hp : decide (l = l2) = false := by first | exact hp | exact decide_eq_false (fun e => hc41 (by rw [e]))
        refine c_seq ?_
        refine r_plain ?_
        refine p1 (x_assign (by conv => lhs; whnf)) ?_
        refine r_nil ?_
        refine t_n ?_
        refine c_ret ?_
        refine b_r ?_
        refine t_r ?_
        refine t_r ?_
        refine b_r ?_
        refine t_r ?_
        refine end1 rfl (by conv => lhs; whnf) ?_
        exact ⟨by rw [hp], hX⟩
      · try simp only [decide_eq_true_eq, decide_eq_false_iff_not, Bool.not_eq_true, Bool.not_eq_false, Bool.not_eq_eq_eq_not, Bool.not_true, Bool.not_false, Int.not_lt, Int.not_le] at hb6_11
        refine sg1 28 rfl rfl (x_move (by conv => lhs; whnf)) ?_
        refine sg1 28 rfl rfl (x_move (by conv => lhs; whnf)) ?_
        refine sg1 28 rfl rfl (x_ixs u30 sz81 rfl rfl ((ha.ext hX).adr kBrA_pos (by omega)) (by omega) (by omega)) ?_
        refine sg1 28 rfl rfl (x_fieldAddr fo81_1 sz31 rfl) ?_
        refine sg1 28 rfl rfl (x_load1 un31 rfl hc1_1) ?_
        refine sg1 28 rfl rfl (x_move (by conv => lhs; whnf)) ?_
        refine sg1 28 rfl rfl (x_move (by conv => lhs; whnf)) ?_
        refine sg1 28 rfl rfl (x_ixs u30 sz81 rfl rfl ((hb.ext hX).adr kBrA_pos (by omega)) (by omega) (by omega)) ?_
        refine sg1 28 rfl rfl (x_fieldAddr fo81_1 sz31 rfl) ?_
        refine sg1 28 rfl rfl (x_load1 un31 rfl hc1_2) ?_
        refine s_nil ?_
        refine g_drop 28 rfl rfl ?_
        refine o_call Try.func36 fn36 fb36 (ref06_Same _ _ _ _ _ _ _ _ _ _ _ hS1 hS2) rfl ?_
        rintro v3 w3 ⟨rfl, hE3⟩
        have hX := hX.ext hE3
        have hWL0 := hWL0.ext hE3
        first | refine g1 28 rfl rfl (x_notd rfl) ?_ | refine g1 28 rfl rfl (x_not rfl) ?_
        refine p1 (x_pick_f rfl (by conv => lhs; whnf)) ?_
        refine r_nil ?_
        refine t_n ?_
        first | refine c_dec rfl (fun hc41 => ?_) (fun hc41 => ?_) | refine c_if rfl (fun hc41 => ?_) (fun hc41 => ?_)
        · try simp only [decide_eq_true_eq, decide_eq_false_iff_not, Bool.not_eq_true, Bool.not_eq_false, Bool.not_eq_eq_eq_not, Bool.not_true, Bool.not_false, Int.not_lt, Int.not_le] at hc41
          have hp : decide (l = l2) = false := by first | exact hp | exact decide_eq_false (fun e => hc41 (by rw [e]))
          refine c_seq ?_
          refine r_plain ?_
          refine p1 (x_assign (by conv => lhs; whnf)) ?_
          refine r_nil ?_
          refine t_n ?_
          refine c_ret ?_
          refine b_r ?_
          refine t_r ?_
          refine t_r ?_
          refine b_r ?_
          refine t_r ?_
          refine end1 rfl (by conv => lhs; whnf) ?_
          exact ⟨by rw [hp], hX⟩
        · try simp only [decide_eq_true_eq, decide_eq_false_iff_not, Bool.not_eq_true, Bool.not_eq_false, Bool.not_eq_eq_eq_not, Bool.not_true, Bool.not_false, Int.not_lt, Int.not_le] at hc41
          have h1 : l.getD i default = l2.getD i default := Prod.ext (by simpa using hb6_11) (by simpa using hc41)
          refine c_skip ?_
          refine b_n ?_
          refine t_n ?_
          refine r_plain ?_
          refine p1 (x_move (by conv => lhs; whnf)) ?_
          refine p1 (x_add rfl rfl (fits_i64 (by omega) (by omega))) ?_
          refine p1 (x_assign (by conv => lhs; whnf)) ?_
          refine r_nil ?_
          refine t_n (At.mk (i + 1) (by repeat (first | exact Agr.refl _ _ | exact Agr.hav _ _ _ | refine Agr.upd rfl ?_ | refine Agr.updL ?_ _ rfl | refine Agr.hav' rfl ?_)) ⟨rfl, trivial⟩ ?_)
          exact ⟨⟨hWL0, ⟨by omega, fun j hj => if h : j < i then hL0 j h else by rw [show j = i from by omega]; exact h1⟩⟩, by first | (dsimp only; omega) | ((show _ < _); omega)⟩
    · try simp only [decide_eq_true_eq, decide_eq_false_iff_not, Bool.not_eq_true, Bool.not_eq_false, Bool.not_eq_eq_eq_not, Bool.not_true, Bool.not_false, Int.not_lt, Int.not_le] at hc14
      have hp : decide (l = l2) = true := decide_eq_true (br_ext (by omega) (fun j hj => hL0 j (by omega)))
      refine c_exit ?_
      refine t_e ?_
      refine t_e ?_
      refine b_hit ?_
      refine t_n ?_
      refine c_seq ?_
      refine r_plain ?_
      refine p1 (x_assign (by conv => lhs; whnf)) ?_
      refine r_nil ?_
      refine t_n ?_
      refine c_ret ?_
      refine end1 rfl (by conv => lhs; whnf) ?_
      exact ⟨by rw [hp], hX⟩
end Go.Proofs.Eng
end
section
set_option linter.unusedVariables false
set_option linter.unusedSimpArgs false
namespace Go.Proofs.Eng
open Go.RowKit Go.Sort
/-! ### slices.SortFunc at branches: their cells -/
abbrev Raw := ByteArray × Option Addr × Nat × Nat
instance : Inhabited Raw := ⟨(ByteArray.empty, none, 0, 0)⟩
end Go.Proofs.Eng
end
section
set_option linter.unusedVariables false
set_option linter.unusedSimpArgs false
set_option maxRecDepth 100000
set_option maxHeartbeats 4000000
namespace Go.Proofs.Eng
open Go.RowKit
open Extern.Stop (cell)
end Go.Proofs.Eng
end
section
set_option linter.unusedVariables false
set_option linter.unusedSimpArgs false
namespace Go.Proofs.Eng
open Go.RowKit
open Extern.Stop (cell)
/-! ### own heads whose bytes turn -/
/-- A slice of hashes in a block of S, whatever its bytes. -/
structure ShB (S : Nat → Prop) (w : World) (p : Option Addr) (n : Nat) : Prop where
  fit : n ≤ 9223372036854775807
  fp : 0 < n → p = some ⟨ab p, ao p, none⟩ ∧ S (ab p) ∧ ∃ cur, Blk w (ab p) cur 35
  cells : ∀ j, j < n * 32 → ∃ b, w.cell? ⟨ab p, ao p + j, none⟩ = some (cell b)
theorem hcs_flat_get : ∀ (xs : List Hash) (j : Nat), j < xs.length * 32 → ∃ b, (xs.map hcs).flatten[j]? = some (cell b)
  | [], j, h => by simp at h
  | x :: xs, j, h => by
    rw [List.map_cons, List.flatten_cons]
    by_cases hj : j < 32
    · rw [List.getElem?_append_left (by rw [hcs_len]; exact hj)]
      exact ⟨_, hcs_get x j hj⟩
    · rw [List.getElem?_append_right (by rw [hcs_len]; omega), hcs_len]
      exact hcs_flat_get xs (j - 32) (by simp only [List.length_cons] at h; omega)
theorem ShB.ofOwn {B B0 : Nat} {w : World} {p : Option Addr} {n c : Nat} {xs : List Hash} (h : Own kHash 35 B B0 w p n c xs) : ShB (fun j => B0 ≤ j) w p n := by
  have hs := SlS.ofHash h
  refine ⟨by have := hs.cap; have := hs.fit; omega, fun hn => ?_, fun j hj => ?_⟩
  · obtain ⟨g, cur, css, rfl, h2, h3, _⟩ := h.block hn
    exact ⟨rfl, h2, cur, h3⟩
  · obtain ⟨b, hb⟩ := hcs_flat_get xs j (by rw [hs.len]; exact hj)
    exact ⟨b, hs.row.at_ j _ hb⟩
theorem ShB.keep {S : Nat → Prop} {w w' : World} {p : Option Addr} {n : Nat} (h : ShB S w p n) (hb : ∀ k, (∃ cur, Blk w k cur 35) → w'.heap[k]? = w.heap[k]?) : ShB S w' p n := by
  refine ⟨h.fit, fun hn => ?_, fun j hj => ?_⟩
  · obtain ⟨h1, h2, cur, h3⟩ := h.fp hn
    exact ⟨h1, h2, cur, (hb _ ⟨cur, h3⟩).trans h3⟩
  · have hn : 0 < n := by omega
    obtain ⟨h1, h2, cur, h3⟩ := h.fp hn
    obtain ⟨b, hc⟩ := h.cells j hj
    exact ⟨b, (World.cell?_of_block (w := w) (a := ⟨ab p, ao p + j, none⟩) (hb _ ⟨cur, h3⟩)).trans hc⟩
theorem Blk.set_cell {w w' : World} {g o : Nat} {cs : Array Value} {t : TypeId} {v : Value} (hP : Put w w' g (cs.setIfInBounds o v) t) (hB : Blk w g cs t) (k : Nat) : w'.cell? ⟨g, k, none⟩ = if o = k ∧ o < cs.size then some v else w.cell? ⟨g, k, none⟩ := by
  rw [cell_of_row w' g k _ t (0, 0) hP.blk, cell_of_row w g k cs t (0, 0) hB, Array.getElem?_setIfInBounds]
  by_cases e : o = k
  · subst e
    by_cases h : o < cs.size
    · simp [h]
    · simp [h, Array.getElem?_eq_none (by omega : cs.size ≤ o)]
  · simp [e]
theorem ShB.set {S : Nat → Prop} {w w' : World} {p : Option Addr} {n : Nat} (h : ShB S w p n) {g o : Nat} {cs : Array Value} {b : UInt8} (hB : Blk w g cs 35) (hP : Put w w' g (cs.setIfInBounds o (cell b)) 35) : ShB S w' p n := by
  refine ⟨h.fit, fun hn => ?_, fun j hj => ?_⟩
  · obtain ⟨h1, h2, cur, h3⟩ := h.fp hn
    refine ⟨h1, h2, ?_⟩
    by_cases e : ab p = g
    · rw [e]; exact ⟨_, hP.blk⟩
    · exact ⟨cur, hP.keep h3 e⟩
  · obtain ⟨b', hc⟩ := h.cells j hj
    by_cases e : ab p = g
    · rw [e] at hc ⊢
      rw [Blk.set_cell hP hB]
      split
      · exact ⟨b, rfl⟩
      · exact ⟨b', hc⟩
    · exact ⟨b', (World.cell?_of_block (w := w) (a := ⟨ab p, ao p + j, none⟩) (hP.old _ e)).trans hc⟩
theorem ShB.ofSlS {S : Nat → Prop} {w : World} {p : Option Addr} {n c : Nat} {xs : List Hash} (h : SlS hcs 35 S w p n c xs) : ShB S w p n := by
  refine ⟨by have := h.cap; have := h.fit; omega, fun hn => ?_, fun j hj => ?_⟩
  · refine ⟨h.row.ne ?_, (h.fp hn).1, (h.fp hn).2⟩
    rw [flat_len' hcs_len, h.len]; omega
  · obtain ⟨b, hb⟩ := hcs_flat_get xs j (by rw [h.len]; exact hj)
    exact ⟨b, h.row.at_ j _ hb⟩
section
variable {P : Program} {ops : Array Oper} {Q : Exit → Act → World → Prop} {rest : List Oper} {N : Nat} {f : Nat → Value} {w : World}
variable {ty0 : TypeId} {pos : String} {aft : Array Edge} {v : Value} {x y : Operand} {T : TypeId}
/-- One cell of such heads is written. -/
theorem o_storeSh {S : Nat → Prop} {p : Option Addr} {n j : Nat} {b : UInt8} (h : ShB S w p n) (hj : j < n * 32) (hx : ev N f x = .pointer (some ⟨ab p, ao p + j, none⟩)) (hy : ev N f y = .int .u8 b.toNat) (hs : (P.info? T).map (·.size) = some 1)
    (k : ∀ w' cs, Blk w (ab p) cs 35 → Put w w' (ab p) (cs.setIfInBounds (ao p + j) (cell b)) 35 → Lst P ops Q rest (fr N f) w') : Lst P ops Q (⟨none, .store T x y, ty0, pos, aft, none⟩ :: rest) (fr N f) w := by
  obtain ⟨h1, h2, cur, h3⟩ := h.fp (by omega)
  obtain ⟨b', hc⟩ := h.cells j hj
  rw [cell_of_row w (ab p) (ao p + j) cur 35 (0, 0) h3] at hc
  have hlt : ao p + j < cur.size := (Array.getElem?_eq_some_iff.1 hc).1
  exact o_store1 hx hy rfl rfl hs h3 hlt fun w' hP => k w' cur h3 hP
end
section
variable {P : Program} {ops : Array Oper} {Q : Exit → Act → World → Prop} {rest : List Oper} {N : Nat} {f : Nat → Value} {w : World}
variable {ty0 : TypeId} {pos : String} {aft : Array Edge} {v : Value} {x y : Operand} {T : TypeId} {α : Type} {d : Kind α} {e : TypeId} {B B0 : Nat} {p : Option Addr} {n c : Nat} {xs : List α}
end
/-- A call on a table, as the laws give it. -/
abbrev Act' := UInt8 × ByteArray × List Hash
instance : Inhabited Act' := ⟨(0, ByteArray.empty, [])⟩
end Go.Proofs.Eng
end
section
set_option linter.unusedVariables false
set_option linter.unusedSimpArgs false
set_option maxRecDepth 100000
set_option maxHeartbeats 4000000
namespace Go.Proofs.Eng
open Go.RowKit
open Extern.Stop (cell)
theorem fb66 : Try.f66.body.isNone = false := by kernel_rfl
theorem fb81 : Try.f81.body.isNone = false := by kernel_rfl
theorem fn66 : (Try.f66.name == "runtime.NumGoroutine") = false := by kernel_rfl
theorem fn81 : (Try.f81.name == "runtime.NumGoroutine") = false := by kernel_rfl
end Go.Proofs.Eng
end
section
set_option linter.unusedVariables false
set_option linter.unusedSimpArgs false
set_option maxRecDepth 100000
set_option maxHeartbeats 4000000
namespace Go.Proofs.Eng
open Go.RowKit
open Extern.Stop (cell)
end Go.Proofs.Eng
end
section
set_option linter.unusedVariables false
set_option linter.unusedSimpArgs false
set_option maxRecDepth 100000
set_option maxHeartbeats 4000000
namespace Go.Proofs.Eng
open Go.RowKit
open Extern.Stop (cell)
theorem fb62 : Try.f62.body.isNone = false := by kernel_rfl
theorem fn62 : (Try.f62.name == "runtime.NumGoroutine") = false := by kernel_rfl
end Go.Proofs.Eng
end
section
set_option linter.unusedVariables false
set_option linter.unusedSimpArgs false
set_option maxRecDepth 100000
set_option maxHeartbeats 4000000
namespace Go.Proofs.Eng
open Go.RowKit
open Extern.Stop (cell)
end Go.Proofs.Eng
end
section
set_option linter.unusedVariables false
set_option linter.unusedSimpArgs false
set_option maxRecDepth 100000
set_option maxHeartbeats 4000000
namespace Go.Proofs.Eng
open Go.RowKit
open Extern.Stop (cell)
end Go.Proofs.Eng
end
section
set_option linter.unusedVariables false
set_option linter.unusedSimpArgs false
namespace Go.Proofs.Eng
open Go.RowKit
/-! ### interfaces; a function of the library that has no text; a map's copy -/
section
variable {P : Program} {n : Nat} {f : Nat → Value} {w : World} {dst : Option Nat} {ty0 : TypeId} {pos : String} {aft : Array Edge} {gd : Option (Nat × Bool)} {x : Operand} {T T2 K e : TypeId} {v : Value}
end
section
variable {P : Program} {ops : Array Oper} {Q : Exit → Act → World → Prop} {rest : List Oper} {n : Nat} {f : Nat → Value} {w : World}
variable {ty : TypeId} {pos : String} {aft : Array Edge} {d : Nat}
end
/-- Lists that are tables. -/
def okL (l : List Br) : Prop := l.length ≤ 64 ∧ RiseN l ∧ ∀ x ∈ l, isName x.1 = true ∧ mayB x.2 = true
theorem br_take_succ {l : List Br} {k : Nat} (h : k < l.length) : l.take (k + 1) = l.take k ++ [l.getD k default] := by
  rw [List.take_succ_eq_append_getElem h, List.getD_eq_getElem?_getD, List.getElem?_eq_getElem h]; rfl
theorem riseN_snoc {m : List Br} {x : Br} (h : RiseN m) (hx : ∀ y ∈ m, lssB y.1 x.1 = true) : RiseN (m ++ [x]) := by
  refine List.pairwise_append.2 ⟨h, List.pairwise_singleton _ _, fun a ha b hb => ?_⟩
  simp only [List.mem_singleton] at hb
  rw [hb]; exact hx a ha
theorem riseN_next {l : List Br} {k : Nat} (h : RiseN (l.take k)) (hk : k < l.length) (hx : k = 0 ∨ lssB (l.getD (k - 1) default).1 (l.getD k default).1 = true) : RiseN (l.take (k + 1)) := by
  rw [br_take_succ hk]
  refine riseN_snoc h fun y hy => ?_
  rcases hx with h0 | hx
  · subst h0; simp at hy
  · have h1 : l.take k = l.take (k - 1) ++ [l.getD (k - 1) default] ∨ k = 0 := by
      rcases Nat.eq_zero_or_pos k with h0 | h0
      · exact .inr h0
      · left
        have := br_take_succ (l := l) (k := k - 1) (by omega)
        rw [show k - 1 + 1 = k from by omega] at this
        exact this
    rcases h1 with h1 | h1
    · rw [h1] at hy h
      have hp := List.pairwise_append.1 h
      rcases List.mem_append.1 hy with hy | hy
      · exact ls_trans (hp.2.2 y hy _ (by simp)) hx
      · simp only [List.mem_singleton] at hy; rw [hy]; exact hx
    · subst h1; simp at hy
theorem not_rise_at {l : List Br} {k : Nat} (h0 : 0 < k) (hk : k < l.length) (hx : lssB (l.getD (k - 1) default).1 (l.getD k default).1 = false) : ¬ RiseN l := fun hr => by
  have h := List.pairwise_iff_getElem.1 hr (k - 1) k (by omega) hk (by omega)
  have eg : ∀ t (ht : t < l.length), l.getD t default = l[t] := fun t ht => by rw [List.getD_eq_getElem?_getD, List.getElem?_eq_getElem ht]; rfl
  rw [eg k hk, eg (k - 1) (by omega)] at hx
  rw [h] at hx; cases hx
theorem asc_snoc {m : List Br} {x : Br} (h : RiseN (m ++ [x])) (z : ByteArray) : mset (asc m) x.1 (some x.2) z = asc (m ++ [x]) z := by
  have hp := List.pairwise_append.1 h
  unfold mset
  by_cases e : z = x.1
  · rw [if_pos e, e]
    exact (asc_of_mem h (x := x) (by simp)).symm
  · rw [if_neg e]
    unfold asc
    rw [List.find?_append]
    cases hf : m.find? (fun y => decide (y.1 = z)) with
    | some y => rfl
    | none =>
      have e' : ¬ x.1 = z := fun q => e q.symm
      simp [e']
theorem mem_getD {l : List Br} {k : Nat} (h : k < l.length) : l.getD k default ∈ l := by
  rw [List.getD_eq_getElem?_getD, List.getElem?_eq_getElem h]; exact List.getElem_mem _
theorem ok_take_succ {l : List Br} {k : Nat} (h : ∀ x ∈ l.take k, isName x.1 = true ∧ mayB x.2 = true) (hk : k < l.length) (h1 : isName (l.getD k default).1 = true) (h2 : mayB (l.getD k default).2 = true) : ∀ x ∈ l.take (k + 1), isName x.1 = true ∧ mayB x.2 = true := by
  rw [br_take_succ hk]
  intro x hx
  rcases List.mem_append.1 hx with hx | hx
  · exact h x hx
  · simp only [List.mem_singleton] at hx; rw [hx]; exact ⟨h1, h2⟩
theorem okL_of {l : List Br} {S : Nat → Prop} {B0 : Nat} {w : World} {g r : Nat} (h : Tbl S B0 w g r l) : okL l := ⟨h.few, h.rise, h.ok⟩
end Go.Proofs.Eng
end
section
set_option linter.unusedVariables false
set_option linter.unusedSimpArgs false
set_option maxRecDepth 100000
set_option maxHeartbeats 4000000
namespace Go.Proofs.Eng
open Go.RowKit
open Extern.Stop (cell)
end Go.Proofs.Eng
end
section
set_option linter.unusedVariables false
set_option linter.unusedSimpArgs false
set_option maxRecDepth 100000
set_option maxHeartbeats 4000000
namespace Go.Proofs.Eng
open Go.RowKit
open Extern.Stop (cell)
end Go.Proofs.Eng
end
section
set_option linter.unusedVariables false
set_option linter.unusedSimpArgs false
set_option maxRecDepth 100000
set_option maxHeartbeats 4000000
namespace Go.Proofs.Eng
open Go.RowKit
open Extern.Stop (cell)
end Go.Proofs.Eng
end
section
set_option linter.unusedVariables false
set_option linter.unusedSimpArgs false
set_option maxRecDepth 100000
set_option maxHeartbeats 4000000
namespace Go.Proofs.Eng
open Go.RowKit
open Extern.Stop (cell)
theorem fb67 : Try.f67.body.isNone = false := by kernel_rfl
theorem fb68 : Try.f68.body.isNone = false := by kernel_rfl
theorem fb69 : Try.f69.body.isNone = false := by kernel_rfl
theorem fn67 : (Try.f67.name == "runtime.NumGoroutine") = false := by kernel_rfl
theorem fn68 : (Try.f68.name == "runtime.NumGoroutine") = false := by kernel_rfl
theorem fn69 : (Try.f69.name == "runtime.NumGoroutine") = false := by kernel_rfl
end Go.Proofs.Eng
end
