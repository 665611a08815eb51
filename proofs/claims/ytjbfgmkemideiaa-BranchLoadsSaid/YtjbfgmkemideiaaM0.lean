import Derived.Test.YtjbfgmkemideiaaF0
import Derived.Maps.RangeRun
import Derived.WideKeyRuns
import Derived.MapKept
set_option linter.unusedVariables false
set_option linter.unusedSimpArgs false
set_option linter.unusedSectionVars false
namespace Go.Proofs.Eng
open Go.RowKit
open Go.ChangeMaps (setBlock)
open Extern.Stop (cell)

/-! ### keys -/
/-- How a map's keys are told. -/
structure KeyOk (P : Program) (K : TypeId) {κ : Type} (kk : κ → Value) : Prop where
  inj : ∀ a b, kk a = kk b → a = b
  check : ∀ (em : Bool) (w : World) (k : κ), (Instr.checkKey em 10000 K (kk k)).run P w = .ok () w
  find : ∀ (w : World) (k : κ) (es : List MapEntry) (ks : List κ), es.map (·.key) = ks.map kk →
    (k ∉ ks ∧ (Instr.findKey K (kk k) es).run P w = .ok none w) ∨ ∃ i e, es[i]? = some e ∧ ks[i]? = some k ∧ (Instr.findKey K (kk k) es).run P w = .ok (some (i, e.val)) w
  bits : ∀ k, Instr.sameBits 10000 (kk k) (kk k) = true

def kkHash (h : Hash) : Value := .agg (hv h)
def kkStr (s : ByteArray) : Value := .string s
theorem cell_inj {a b : UInt8} (h : cell a = cell b) : a = b := by
  unfold cell at h
  injection h with _ h
  exact UInt8.toNat_inj.1 (Int.ofNat.inj h)
theorem map_cell_inj : ∀ {a b : List UInt8}, a.map cell = b.map cell → a = b
  | [], [], _ => rfl
  | x :: a, y :: b, h => by
    simp only [List.map_cons, List.cons.injEq] at h
    rw [cell_inj h.1, map_cell_inj h.2]
  | [], _ :: _, h => by simp at h
  | _ :: _, [], h => by simp at h
theorem kkHash_inj (a b : Hash) (h : kkHash a = kkHash b) : a = b := by
  unfold kkHash hv hcs at h
  injection h with h
  exact Subtype.ext (map_cell_inj (by simpa using h))
theorem sameBits_cells (n : Nat) : ∀ l : List UInt8, ((l.map cell).zip (l.map cell)).all (fun (x, y) => Instr.sameBits (n + 1) x y) = true
  | [] => rfl
  | x :: l => by
    rw [List.map_cons, List.zip_cons_cons, List.all_cons, sameBits_cells n l]
    simp [cell, Instr.sameBits]
theorem run_check_bytes {P : Program} (w : World) (em : Bool) (d : Nat) (t e : TypeId) (n : Nat) (ht : P.underlying t = some (.array n e)) (he : P.underlying e = some (.int .u8)) (hsz : ∀ w, (sizeOf e).run P w = .ok 1 w) (xs : List UInt8) (hx : xs.length = n) :
    (Instr.checkKey em (d + 2) t (.agg (xs.map cell).toArray)).run P w = .ok () w := by
  rw [Instr.checkKey]
  simp only [Sem.run_bind, run_underlying ht, Result.andThen_ok, hsz, Std.Legacy.Range.forIn_eq_forIn_range', Std.Legacy.Range.size, Nat.sub_zero, Nat.add_sub_cancel, Nat.div_one]
  have hl : ∀ i ∈ List.range' 0 n 1, i < n := fun i hi => by simpa using (List.mem_range'_1.1 hi).2
  generalize List.range' 0 n 1 = l at hl ⊢
  induction l with
  | nil => simp
  | cons i l ih =>
    have hi : i < n := hl i (by simp)
    have px : (part e (xs.map cell).toArray (i * 1)).run P w = .ok (cell (xs.getD i 0)) w := by
      simp [part, isAgg, run_underlying he, List.getD, List.getElem?_eq_getElem (show i < xs.length by omega)]
    have pc : (Instr.checkKey em (d + 1) e (cell (xs.getD i 0))).run P w = .ok () w := by
      simp [Instr.checkKey, run_underlying he, cell]
    simp only [List.forIn_cons, Sem.run_bind, hsz, px, pc, Result.andThen_ok, Sem.run_pure] at ih ⊢
    exact ih fun j hj => hl j (by simp [hj])
theorem find_asking {P : Program} {κ : Type} {kk : κ → Value} {K : TypeId} (w : World) (k : κ) (heq : ∀ k', ∃ b : Bool, (Op.equal K (kk k) (kk k')).run P w = .ok b w ∧ (b = true ↔ k = k')) : ∀ (es : List MapEntry) (ks : List κ) (i : Nat), es.map (·.key) = ks.map kk →
    (k ∉ ks ∧ (Instr.findAsking K (kk k) es i).run P w = .ok none w) ∨ ∃ j e, es[j]? = some e ∧ ks[j]? = some k ∧ (Instr.findAsking K (kk k) es i).run P w = .ok (some (i + j, e.val)) w
  | [], [], i, _ => .inl ⟨by simp, rfl⟩
  | e :: es, k' :: ks, i, h => by
    simp only [List.map_cons, List.cons.injEq] at h
    obtain ⟨b, hb, hiff⟩ := heq k'
    cases b with
    | true =>
      have hk := hiff.1 rfl
      subst hk
      refine .inr ⟨0, e, rfl, rfl, ?_⟩
      rw [Instr.findAsking, h.1]
      simp only [Sem.run_bind, hb, Result.andThen_ok, if_true, Sem.run_pure]
      rfl
    | false =>
      have hne : ¬ k = k' := fun q => by have := hiff.2 q; cases this
      have hstep : (Instr.findAsking K (kk k) (e :: es) i).run P w = (Instr.findAsking K (kk k) es (i + 1)).run P w := by
        rw [Instr.findAsking, h.1]
        simp only [Sem.run_bind, hb, Result.andThen_ok, Bool.false_eq_true, if_false]
      rcases find_asking w k heq es ks (i + 1) h.2 with ⟨h1, h2⟩ | ⟨j, e', h1, h2, h3⟩
      · exact .inl ⟨by simp [hne, h1], by rw [hstep]; exact h2⟩
      · exact .inr ⟨j + 1, e', by simpa using h1, by simpa using h2, by rw [hstep, h3]; congr 3; omega⟩
  | [], _ :: _, _, h => by simp at h
  | _ :: _, [], _, h => by simp at h
theorem keyOk_hash {P : Program} {K e : TypeId} (hu : P.underlying K = some (.array 32 e)) (he : P.underlying e = some (.int .u8)) (hz : (P.info? e).map (·.size) = some 1) : KeyOk P K kkHash := by
  obtain ⟨ii, hi, hs⟩ := Option.map_eq_some_iff.1 hz
  have hsz : ∀ w, (sizeOf e).run P w = .ok 1 w := fun w => by simp [sizeOf, typeInfo, hi, hs]
  refine ⟨kkHash_inj, fun em w k => run_check_bytes w em 9998 K e 32 hu he hsz k.1 k.2, fun w k es ks h => ?_, fun k => ?_⟩
  · have hrun := run_findKey_eq (P := P) w (k := K) (by rw [hu]) (kkHash k) es
    have := find_asking (P := P) (kk := kkHash) (K := K) w k (fun k' => ⟨k.1 == k'.1, run_equalIn_bytes (P := P) w 9998 K e 32 hu he hsz k.1 k'.1 k.2 k'.2, by rw [beq_iff_eq, Subtype.ext_iff]⟩) es ks 0 h
    simp only [Nat.zero_add] at this
    rw [hrun]; exact this
  · unfold kkHash hv hcs
    rw [Instr.sameBits]
    simp [sameBits_cells]
theorem keyOk_str {P : Program} {K : TypeId} (hu : P.underlying K = some .string) : KeyOk P K kkStr := by
  refine ⟨fun a b h => by unfold kkStr at h; injection h, fun em w k => MapKept.run_checkKey (k := .string k) hu (by simp [MapKept.IsKey]) em 9999, fun w k es ks h => ?_, fun k => ?_⟩
  · have hk : MapKept.IsKey TypeDesc.string (kkStr k) := by simp [MapKept.IsKey, kkStr]
    have hes : ∀ x ∈ es, MapKept.IsKey TypeDesc.string x.key := fun x hx => by
      have : x.key ∈ es.map (·.key) := List.mem_map.2 ⟨x, hx, rfl⟩
      rw [h] at this
      obtain ⟨k', _, e⟩ := List.mem_map.1 this
      rw [← e]; simp [MapKept.IsKey, kkStr]
    rcases MapKept.findNow_spec hk es 0 hes with ⟨h1, h2⟩ | ⟨j, e, h1, h2, h3⟩
    · refine .inl ⟨fun hm => ?_, MapKept.run_findKey hu h1⟩
      have : kkStr k ∈ es.map (·.key) := by rw [h]; exact List.mem_map.2 ⟨k, hm, rfl⟩
      obtain ⟨x, hx, e⟩ := List.mem_map.1 this
      exact h2 x hx e
    · refine .inr ⟨j, e, h2, ?_, by rw [Nat.zero_add] at h1; exact MapKept.run_findKey hu h1⟩
      have : (es.map (·.key))[j]? = some e.key := by rw [List.getElem?_map, h2]; rfl
      rw [h, List.getElem?_map, h3] at this
      obtain ⟨k', hk', e'⟩ := Option.map_eq_some_iff.1 this
      have : k' = k := by unfold kkStr at e'; injection e'
      rw [hk', this]
  · unfold kkStr; simp [Instr.sameBits, MapKept.bytes_beq]

/-! ### values -/
structure VK (ν : Type) where
  E : List TypeId
  V : Nat → World → ν → Value → Prop
  keep : ∀ {B w w' x v}, Same B E w w' → V B w x v → V B w' x v
  mono : ∀ {B B' w x v}, B ≤ B' → V B w x v → V B' w x v
def VK.one {ν : Type} (d : Kind ν) : VK ν := ⟨d.E, fun B w x v => d.K B w x [v], d.keep, d.mono⟩
def VK.agg {ν : Type} (d : Kind ν) : VK ν := ⟨d.E, fun B w x v => ∃ cs, v = .agg cs ∧ d.K B w x cs.toList, fun hs ⟨cs, h1, h2⟩ => ⟨cs, h1, d.keep hs h2⟩, fun hB ⟨cs, h1, h2⟩ => ⟨cs, h1, d.mono hB h2⟩⟩
def vBool : VK Bool := ⟨[], fun _ _ x v => v = .bool x, fun _ h => h, fun _ h => h⟩

variable {κ ν : Type}
def Ents (kk : κ → Value) (d : VK ν) (B : Nat) (w : World) : List (κ × ν) → List MapEntry → Prop
  | [], [] => True
  | p :: m, e :: es => (e.key = kk p.1 ∧ d.V B w p.2 e.val) ∧ Ents kk d B w m es
  | _, _ => False
namespace Ents
variable {kk : κ → Value} {d : VK ν} {B : Nat} {w w' : World}
theorem imp {B' : Nat} (hk : ∀ x v, d.V B w x v → d.V B' w' x v) : ∀ {m : List (κ × ν)} {es : List MapEntry}, Ents kk d B w m es → Ents kk d B' w' m es
  | [], [], _ => trivial
  | _ :: _, _ :: _, h => ⟨⟨h.1.1, hk _ _ h.1.2⟩, imp hk h.2⟩
  | [], _ :: _, h => h.elim
  | _ :: _, [], h => h.elim
theorem length : ∀ {m : List (κ × ν)} {es : List MapEntry}, Ents kk d B w m es → es.length = m.length
  | [], [], _ => rfl
  | _ :: _, _ :: _, h => by simp [length h.2]
  | [], _ :: _, h => h.elim
  | _ :: _, [], h => h.elim
theorem keys : ∀ {m : List (κ × ν)} {es : List MapEntry}, Ents kk d B w m es → es.map (·.key) = (m.map (·.1)).map kk
  | [], [], _ => rfl
  | _ :: _, _ :: _, h => by simp only [List.map_cons]; rw [keys h.2, h.1.1]
  | [], _ :: _, h => h.elim
  | _ :: _, [], h => h.elim
theorem get : ∀ {m : List (κ × ν)} {es : List MapEntry} {i : Nat} {e : MapEntry}, Ents kk d B w m es → es[i]? = some e → ∃ p, m[i]? = some p ∧ e.key = kk p.1 ∧ d.V B w p.2 e.val
  | p :: _, _ :: _, 0, _, h, he => by simp only [List.getElem?_cons_zero, Option.some.injEq] at he; subst he; exact ⟨p, rfl, h.1⟩
  | _ :: _, _ :: _, i + 1, _, h, he => by simp only [List.getElem?_cons_succ] at he ⊢; exact get h.2 he
  | [], [], _, _, _, he => by simp at he
  | [], _ :: _, _, _, h, _ => h.elim
  | _ :: _, [], _, _, h, _ => h.elim
theorem push {p : κ × ν} {e : MapEntry} (h1 : e.key = kk p.1) (h2 : d.V B w p.2 e.val) : ∀ {m : List (κ × ν)} {es : List MapEntry}, Ents kk d B w m es → Ents kk d B w (m ++ [p]) (es ++ [e])
  | [], [], _ => ⟨⟨h1, h2⟩, trivial⟩
  | _ :: _, _ :: _, h => ⟨h.1, push h1 h2 h.2⟩
  | [], _ :: _, h => h.elim
  | _ :: _, [], h => h.elim
theorem modify {k : κ} {v : ν} {f : MapEntry → MapEntry} (hk : ∀ e, (f e).key = kk k) (hv : ∀ e, d.V B w v (f e).val) : ∀ {m : List (κ × ν)} {es : List MapEntry} (i : Nat), Ents kk d B w m es → Ents kk d B w (m.modify i fun _ => (k, v)) (es.modify i f)
  | [], [], i, _ => by cases i <;> simp [Ents]
  | _ :: _, e :: _, 0, h => ⟨⟨hk e, hv e⟩, h.2⟩
  | _ :: _, _ :: _, i + 1, h => ⟨h.1, modify hk hv i h.2⟩
  | [], _ :: _, _, h => h.elim
  | _ :: _, [], _, h => h.elim
theorem erase : ∀ {m : List (κ × ν)} {es : List MapEntry} (i : Nat), Ents kk d B w m es → Ents kk d B w (m.eraseIdx i) (es.eraseIdx i)
  | [], [], i, _ => trivial
  | _ :: _, e :: _, 0, h => h.2
  | _ :: _, _ :: _, i + 1, h => ⟨h.1, erase i h.2⟩
  | [], _ :: _, _, h => h.elim
  | _ :: _, [], _, h => h.elim
end Ents

/-- Block r is a map of these entries. -/
structure MapIs (kk : κ → Value) (d : VK ν) (B : Nat) (w : World) (r : Nat) (es : Array MapEntry) (clock : Nat) (m : List (κ × ν)) : Prop where
  blk : w.heap[r]? = some (.map es clock)
  ents : Ents kk d B w m es.toList
  nd : (m.map (·.1)).Nodup
  bnd : (es.toList.map (·.born)).Nodup
  bl : ∀ e ∈ es.toList, e.born < clock
theorem MapIs.lt {kk : κ → Value} {d : VK ν} {B : Nat} {w : World} {r : Nat} {es : Array MapEntry} {clock : Nat} {m : List (κ × ν)} (h : MapIs kk d B w r es clock m) : r < w.heap.size := (Array.getElem?_eq_some_iff.1 h.blk).1
theorem MapIs.ty {kk : κ → Value} {d : VK ν} {B : Nat} {w : World} {r : Nat} {es : Array MapEntry} {clock : Nat} {m : List (κ × ν)} (h : MapIs kk d B w r es clock m) : Eng.ty w r = some tMap := by unfold Eng.ty; rw [h.blk]
theorem MapIs.keep {kk : κ → Value} {d : VK ν} {B : Nat} {w w' : World} {r : Nat} {es : Array MapEntry} {clock : Nat} {m : List (κ × ν)} (h : MapIs kk d B w r es clock m) (hb : w'.heap[r]? = w.heap[r]?) (hs : Same B d.E w w') : MapIs kk d B w' r es clock m :=
  ⟨hb.trans h.blk, h.ents.imp fun _ _ => d.keep hs, h.nd, h.bnd, h.bl⟩
/-- What a list of pairs tells. -/
def Tells (m : List (κ × ν)) (μ : κ → Option ν) : Prop := ∀ k v, (k, v) ∈ m ↔ μ k = some v
theorem Tells.key {m : List (κ × ν)} {μ : κ → Option ν} (h : Tells m μ) (k : κ) : k ∈ m.map (·.1) ↔ μ k ≠ none := by
  constructor
  · intro hk
    obtain ⟨⟨k', v⟩, hp, rfl⟩ := List.mem_map.1 hk
    rw [(h k' v).1 hp]; simp
  · intro hk
    cases hv : μ k with
    | none => exact absurd hv hk
    | some v => exact List.mem_map.2 ⟨(k, v), (h k v).2 hv, rfl⟩
/-- Block r, from B0 on, is a map that tells μ. -/
structure Mp (kk : κ → Value) (d : VK ν) (B B0 : Nat) (w : World) (r : Nat) (μ : κ → Option ν) : Prop where
  low : B0 ≤ r
  ex : ∃ es clock m, MapIs kk d B w r es clock m ∧ Tells m μ
namespace Mp
variable {kk : κ → Value} {d : VK ν} {B B0 : Nat} {w w' : World} {r : Nat} {μ : κ → Option ν}
theorem keep (h : Mp kk d B B0 w r μ) (hb : r < w.heap.size → w'.heap[r]? = w.heap[r]?) (hs : Same B d.E w w') : Mp kk d B B0 w' r μ := by
  obtain ⟨es, clock, m, hm, ht⟩ := h.ex
  exact ⟨h.low, es, clock, m, hm.keep (hb hm.lt) hs, ht⟩
theorem ext (h : Mp kk d B B0 w r μ) (e : Ext w w') : Mp kk d B B0 w' r μ := h.keep (fun hl => e.old r hl) (e.same _ _)
theorem mod (h : Mp kk d B B0 w r μ) {B' : Nat} {t : TypeId} (m : Mod B' t w w') (hB : B ≤ B') (ht : t ∉ tMap :: d.E) : Mp kk d B B0 w' r μ := by
  obtain ⟨es, clock, l, hm, hT⟩ := h.ex
  refine ⟨h.low, es, clock, l, hm.keep (m.old r hm.lt (.inr ?_)) (m.same hB fun hc => ht (List.mem_cons_of_mem _ hc)), hT⟩
  rw [hm.ty]; intro e; injection e with e; exact ht (by simp [e])
/-- .. a map that lies below what turns. -/
theorem modB (h : Mp kk d B B0 w r μ) {B' : Nat} {t : TypeId} (m : Mod B' t w w') (hB : B ≤ B') (hr : r < B') (ht : t ∉ d.E) : Mp kk d B B0 w' r μ := by
  obtain ⟨es, clock, l, hm, hT⟩ := h.ex
  exact ⟨h.low, es, clock, l, hm.keep (m.old r hm.lt (.inl hr)) (m.same hB ht), hT⟩
theorem lower {B0' : Nat} (h : Mp kk d B B0 w r μ) (hB : B0' ≤ B0) : Mp kk d B B0' w r μ := ⟨Nat.le_trans hB h.low, h.ex⟩
theorem lt (h : Mp kk d B B0 w r μ) : r < w.heap.size := by
  obtain ⟨es, clock, m, hm, _⟩ := h.ex
  exact hm.lt
theorem congr {μ' : κ → Option ν} (h : Mp kk d B B0 w r μ) (e : ∀ k, μ k = μ' k) : Mp kk d B B0 w r μ' := by
  have : μ = μ' := funext e
  rw [← this]; exact h
end Mp
theorem mod_setBlock {w w1 : World} {r B : Nat} {o o' : Obj} {t : TypeId} (hw : w1 = w ∨ w1 = w.drew) (hb : w.heap[r]? = some o) (h1 : ty w r = some t) (h2 : ∀ x : World, x.heap[r]? = some o' → ty x r = some t) (hB : B ≤ r) : Mod B t w (setBlock w1 r o') := by
  have hlt : r < w.heap.size := (Array.getElem?_eq_some_iff.1 hb).1
  have hheap : w1.heap = w.heap := by rcases hw with rfl | rfl <;> rfl
  have hne : ∀ k, k ≠ r → (setBlock w1 r o').heap[k]? = w.heap[k]? := fun k hk => by
    show (w1.heap.setIfInBounds r o')[k]? = _
    rw [hheap, Array.getElem?_setIfInBounds_ne (fun e => hk e.symm)]
  have hself : (setBlock w1 r o').heap[r]? = some o' := by
    show (w1.heap.setIfInBounds r o')[r]? = _
    rw [hheap]; simp [hlt]
  refine ⟨?_, fun k hk ho => hne k fun e => ?_, fun k hk => ?_, ?_, ?_, ?_, ?_⟩
  · show w.heap.size ≤ (w1.heap.setIfInBounds r o').size
    rw [hheap]; simp
  · subst e
    rcases ho with ho | ho
    · omega
    · exact ho h1
  · by_cases e : k = r
    · subst e; rw [h2 _ hself, h1]
    · exact ty_of_heap (hne k e)
  · rcases hw with rfl | rfl
    · exact Nat.le_refl _
    · exact Nat.le_succ _
  all_goals (rcases hw with rfl | rfl <;> rfl)

/-! ### the operations -/
section
variable [DecidableEq κ] {P : Program} {ops : Array Oper} {Q : Exit → Act → World → Prop} {rest : List Oper} {n : Nat} {f : Nat → Value} {w : World}
variable {ty0 : TypeId} {pos : String} {aft : Array Edge} {dst : Nat} {v u : Value} {x y z : Operand} {T K e : TypeId} {dst' : Option Nat} {gd : Option (Nat × Bool)}
variable {kk : κ → Value} {d : VK ν} {B B0 : Nat} {r : Nat} {μ : κ → Option ν}

theorem ext_allocObj (w : World) (o : Obj) : Ext w (w.alloc o) := Ext.alloc w o
theorem mp_made (kk : κ → Value) (d : VK ν) (B B0 : Nat) (w : World) (hB : B0 ≤ w.heap.size) : Mp kk d B B0 (w.alloc (.map #[] 0)) w.heap.size (fun _ => none) :=
  ⟨hB, #[], 0, [], ⟨heap_alloc_new w _, trivial, List.nodup_nil, List.nodup_nil, by simp⟩, by intro k v; simp⟩
/-- 'map[K]V{}'; 'make(map[K]V)'. -/
theorem o_makeMap0 (k : ∀ w' g, Ext w w' → (∀ (kk : κ → Value) (d : VK ν) (B B0 : Nat), B0 ≤ w.heap.size → Mp kk d B B0 w' g (fun _ => none)) → Lst P ops Q rest (fr n (upd f dst (.map (some g)))) w') :
    Lst P ops Q (⟨some dst, .makeMap T none, ty0, pos, aft, none⟩ :: rest) (fr n f) w :=
  l1 (w' := w.alloc (.map #[] 0)) (v := .map (some w.heap.size)) rfl (k _ _ (Ext.alloc _ _) fun kk d B B0 hB => mp_made kk d B B0 w hB)
/-- 'make(map[K]V, n)'. -/
theorem o_makeMap {ki : IntKind} {a : Int} (hT : P.underlying T = some (.map K e)) (hx : ev n f x = .int ki a) (k : ∀ w' g, Ext w w' → (∀ (kk : κ → Value) (d : VK ν) (B B0 : Nat), B0 ≤ w.heap.size → Mp kk d B B0 w' g (fun _ => none)) → Lst P ops Q rest (fr n (upd f dst (.map (some g)))) w') :
    Lst P ops Q (⟨some dst, .makeMap T (some x), ty0, pos, aft, none⟩ :: rest) (fr n f) w := by
  refine l1 (w' := w.alloc (.map #[] 0)) (v := .map (some w.heap.size)) ?_ (k _ _ (Ext.alloc _ _) fun kk d B B0 hB => mp_made kk d B B0 w hB)
  simp only [execOp, Option.map, hx]
  simp [Instr.makeMap, run_underlying hT, asInt, asIntOf, Sem.run_bind]
/-- 'm[k]', of a map of truths. -/
theorem x_lookup_bool {kk : κ → Value} {μ : κ → Option Bool} {a : κ} (hT : P.underlying T = some (.map K e)) (hz : (P.info? e).map (·.zero) = some (some (.bool false))) (hK : KeyOk P K kk) (hx : ev n f x = .map (some r)) (hy : ev n f y = kk a) (hM : Mp kk vBool B B0 w r μ) :
    Ex P w n f ⟨dst', .lookup T x y false, ty0, pos, aft, gd⟩ (.bool ((μ a).getD false)) := by
  obtain ⟨es, clock, m, hm, ht⟩ := hM.ex
  obtain ⟨ii, hi, hs⟩ := Option.map_eq_some_iff.1 hz
  have hzv : (zeroValue e).run P w = .ok (.bool false) w := by simp [zeroValue, typeInfo, hi, hs]
  unfold Ex execOp
  simp only [hx, hy]
  rcases hK.find w a es.toList _ hm.ents.keys with ⟨h1, h2⟩ | ⟨i, e', h1, h2, h3⟩
  · have : μ a = none := by
      cases hμ : μ a with
      | none => rfl
      | some b => exact absurd ((ht.key a).2 (by rw [hμ]; simp)) h1
    rw [this]
    simp [Instr.lookup, run_underlying hT, MapKept.run_getObj_map hm.blk, hK.check, h2, hzv, Sem.run_bind]
  · obtain ⟨p, hp, hk, hv⟩ := hm.ents.get h1
    have hpa : p.1 = a := by
      rw [List.getElem?_map, hp] at h2
      simpa using h2
    have hμ : μ a = some p.2 := by
      rw [← hpa]; exact (ht _ _).1 (List.mem_of_getElem? hp)
    have hv' : e'.val = .bool p.2 := hv
    rw [hμ, ← show e'.val = .bool ((some p.2).getD false) from hv']
    simp [Instr.lookup, run_underlying hT, MapKept.run_getObj_map hm.blk, hK.check, h3, Sem.run_bind]
/-- 'v, ok := m[k]' -/
theorem look (hT : P.underlying T = some (.map K e)) {zv : Value} (hz : (P.info? e).map (·.zero) = some (some zv)) (hK : KeyOk P K kk) (hM : Mp kk d B B0 w r μ) (a : κ) :
    ∃ v, (match μ a with | some b => d.V B w b v | none => v = zv) ∧ ∀ {n : Nat} {f : Nat → Value} {x y : Operand} {ty0 : TypeId} {pos : String} {aft : Array Edge} {dst' : Option Nat} {gd : Option (Nat × Bool)}, ev n f x = .map (some r) → ev n f y = kk a →
      Ex P w n f ⟨dst', .lookup T x y false, ty0, pos, aft, gd⟩ v ∧ Ex P w n f ⟨dst', .lookup T x y true, ty0, pos, aft, gd⟩ (.tuple #[v, .bool (decide (μ a ≠ none))]) := by
  obtain ⟨es, clock, m, hm, ht⟩ := hM.ex
  obtain ⟨ii, hi, hs⟩ := Option.map_eq_some_iff.1 hz
  have hzv : (zeroValue e).run P w = .ok zv w := by simp [zeroValue, typeInfo, hi, hs]
  rcases hK.find w a es.toList _ hm.ents.keys with ⟨h1, h2⟩ | ⟨i, e', h1, h2, h3⟩
  · have hμ : μ a = none := by
      cases hμ : μ a with
      | none => rfl
      | some b => exact absurd ((ht.key a).2 (by rw [hμ]; simp)) h1
    refine ⟨zv, by rw [hμ], fun hx hy => ?_⟩
    unfold Ex execOp
    simp only [hx, hy]
    constructor <;> simp [Instr.lookup, run_underlying hT, MapKept.run_getObj_map hm.blk, hK.check, h2, hzv, Sem.run_bind, hμ]
  · obtain ⟨p, hp, hk, hv⟩ := hm.ents.get h1
    have hpa : p.1 = a := by
      rw [List.getElem?_map, hp] at h2
      simpa using h2
    have hμ : μ a = some p.2 := by
      rw [← hpa]; exact (ht _ _).1 (List.mem_of_getElem? hp)
    refine ⟨e'.val, by rw [hμ]; exact hv, fun hx hy => ?_⟩
    unfold Ex execOp
    simp only [hx, hy]
    constructor <;> simp [Instr.lookup, run_underlying hT, MapKept.run_getObj_map hm.blk, hK.check, h3, Sem.run_bind, hμ]
/-- A map that is told anew at one key. -/
def mset (μ : κ → Option ν) (k : κ) (v : Option ν) : κ → Option ν := fun k' => if k' = k then v else μ k'
theorem nodup_get {α : Type} {l : List α} (hn : l.Nodup) {i j : Nat} {x : α} (hi : l[i]? = some x) (hj : l[j]? = some x) : i = j := by
  obtain ⟨a1, b1⟩ := List.getElem?_eq_some_iff.1 hi
  obtain ⟨a2, b2⟩ := List.getElem?_eq_some_iff.1 hj
  have hp := List.pairwise_iff_getElem.1 hn
  rcases Nat.lt_trichotomy i j with h | h | h
  · exact absurd (b1.trans b2.symm) (hp i j a1 a2 h)
  · exact h
  · exact absurd (b2.trans b1.symm) (hp j i a2 a1 h)
theorem nodup_idx {l : List (κ × ν)} (hn : (l.map (·.1)).Nodup) {i j : Nat} {p q : κ × ν} (hi : l[i]? = some p) (hj : l[j]? = some q) (h : p.1 = q.1) : i = j := by
  have h1 : (l.map (·.1))[i]? = some p.1 := by rw [List.getElem?_map, hi]; rfl
  have h2 : (l.map (·.1))[j]? = some p.1 := by rw [List.getElem?_map, hj, h]; rfl
  exact nodup_get hn h1 h2
theorem run_update {a : κ} {b : ν} {v : Value} (hT : P.underlying T = some (.map K e)) (hK : KeyOk P K kk) (hM : Mp kk d B B0 w r μ) (hv : d.V B w b v) (hBB : B ≤ B0) (hE : tMap ∉ d.E) :
    ∃ w', (Instr.mapUpdate T (.map (some r)) (kk a) v).run P w = .ok () w' ∧ Mp kk d B B0 w' r (mset μ a (some b)) ∧ Mod B0 tMap w w' := by
  obtain ⟨es, clock, m, hm, ht⟩ := hM.ex
  have hmod : ∀ es' clock', Mod B0 tMap w (setBlock w r (.map es' clock')) := fun es' clock' => mod_setBlock (.inl rfl) hm.blk hm.ty (fun x hx => by unfold Eng.ty; rw [hx]) hM.low
  have hself : ∀ o, (setBlock w r o).heap[r]? = some o := fun o => by show (w.heap.setIfInBounds r o)[r]? = _; simp [hm.lt]
  rcases hK.find w a es.toList _ hm.ents.keys with ⟨h1, h2⟩ | ⟨i, e', h1, h2, h3⟩
  · refine ⟨setBlock w r (.map (es.push { key := kk a, val := v, born := clock }) (clock + 1)), ?_, ⟨hM.low, _, _, m ++ [(a, b)], ⟨hself _, ?_, ?_, ?_, ?_⟩, ?_⟩, hmod _ _⟩
    · simp [Instr.mapUpdate, run_underlying hT, MapKept.run_getObj_map hm.blk, hK.check, h2, Sem.run_bind, MapKept.run_setObj_map _ hm.blk, setBlock]
    · rw [Array.toList_push]
      exact Ents.push (kk := kk) (p := (a, b)) (e := { key := kk a, val := v, born := clock }) rfl (d.keep ((hmod _ _).same hBB hE) hv) (hm.ents.imp fun _ _ => d.keep ((hmod _ _).same hBB hE))
    · rw [List.map_append]
      exact List.nodup_append.2 ⟨hm.nd, by simp, by simp only [List.map_cons, List.map_nil, List.mem_singleton]; rintro x hx y rfl rfl; exact h1 hx⟩
    · rw [Array.toList_push, List.map_append]
      refine List.nodup_append.2 ⟨hm.bnd, by simp, ?_⟩
      simp only [List.map_cons, List.map_nil, List.mem_singleton]
      rintro x hx y rfl rfl
      obtain ⟨e0, he0, e1⟩ := List.mem_map.1 hx
      have := hm.bl e0 he0
      omega
    · intro e0 he0
      rw [Array.toList_push, List.mem_append] at he0
      rcases he0 with he0 | he0
      · have := hm.bl e0 he0; omega
      · simp only [List.mem_singleton] at he0; subst he0; exact Nat.lt_succ_self _
    · intro k' v'
      unfold mset
      by_cases hk : k' = a
      · subst hk
        rw [if_pos rfl, List.mem_append]
        constructor
        · rintro (hc | hc)
          · exact absurd (List.mem_map.2 ⟨_, hc, rfl⟩) h1
          · simp at hc; rw [hc]
        · intro hc; injection hc with hc; subst hc; simp
      · rw [if_neg hk, List.mem_append, ← ht k' v']
        simp [hk]
  · obtain ⟨p, hp, hk, hvv⟩ := hm.ents.get h1
    have hpa : p.1 = a := by
      rw [List.getElem?_map, hp] at h2
      simpa using h2
    have h1' : es[i]? = some e' := by rw [← Array.getElem?_toList]; exact h1
    have hold : (((es[i]?).map (·.key)).getD (kk a)) = kk a := by rw [h1']; show e'.key = _; rw [hk, hpa]
    refine ⟨setBlock w r (.map (es.modify i fun e => { e with key := kk a, val := v }) clock), ?_, ⟨hM.low, _, _, m.modify i fun _ => (a, b), ⟨hself _, ?_, ?_, ?_, ?_⟩, ?_⟩, hmod _ _⟩
    · simp [Instr.mapUpdate, run_underlying hT, MapKept.run_getObj_map hm.blk, hK.check, h3, Sem.run_bind, hold, Instr.keyThatStays, hK.bits, MapKept.run_setObj_map _ hm.blk, setBlock]
    · rw [Array.toList_modify]
      exact Ents.modify (kk := kk) (k := a) (v := b) (f := fun e => { e with key := kk a, val := v }) (fun _ => rfl) (fun _ => d.keep ((hmod _ _).same hBB hE) hv) i (hm.ents.imp fun _ _ => d.keep ((hmod _ _).same hBB hE))
    · have : (m.modify i fun _ => (a, b)).map (·.1) = m.map (·.1) := by
        apply List.ext_getElem?
        intro j
        rw [List.getElem?_map, List.getElem?_modify, List.getElem?_map]
        by_cases hij : i = j
        · subst hij; rw [hp]; simp [hpa]
        · simp [hij]
      rw [this]; exact hm.nd
    · have : (es.modify i fun e => { e with key := kk a, val := v }).toList.map (·.born) = es.toList.map (·.born) := by
        rw [Array.toList_modify]
        apply List.ext_getElem?
        intro j
        rw [List.getElem?_map, List.getElem?_modify, List.getElem?_map]
        by_cases hij : i = j
        · subst hij; rw [h1]; simp
        · simp [hij]
      rw [this]; exact hm.bnd
    · intro e0 he0
      rw [Array.toList_modify] at he0
      obtain ⟨j, hj⟩ := List.mem_iff_getElem?.1 he0
      rw [List.getElem?_modify] at hj
      obtain ⟨e1, he1, e2⟩ := Option.map_eq_some_iff.1 hj
      have hb := hm.bl e1 (List.mem_of_getElem? he1)
      rw [← e2]
      split <;> exact hb
    · intro k' v'
      unfold mset
      rw [List.mem_iff_getElem?]
      simp only [List.getElem?_modify]
      by_cases hk' : k' = a
      · subst hk'
        rw [if_pos rfl]
        constructor
        · rintro ⟨j, hj⟩
          by_cases hij : i = j
          · subst hij
            rw [hp] at hj; simp at hj; rw [hj]
          · simp only [hij, if_false, Option.map_eq_map, Option.map_id'] at hj
            exact absurd (nodup_idx hm.nd hp (by simpa using hj) (by rw [hpa])) hij
        · intro hc; injection hc with hc; subst hc
          exact ⟨i, by rw [hp]; simp⟩
      · rw [if_neg hk', ← ht k' v', List.mem_iff_getElem?]
        constructor
        · rintro ⟨j, hj⟩
          by_cases hij : i = j
          · subst hij
            rw [hp] at hj; simp at hj; exact absurd hj.1.symm hk'
          · exact ⟨j, by simpa [hij] using hj⟩
        · rintro ⟨j, hj⟩
          have hij : ¬ i = j := fun q => by subst q; rw [hp] at hj; injection hj with hj; rw [hj] at hpa; exact hk' hpa
          exact ⟨j, by simpa [hij] using hj⟩
theorem o_update {a : κ} {b : ν} (hT : P.underlying T = some (.map K e)) (hK : KeyOk P K kk) (hx : ev n f x = .map (some r)) (hy : ev n f y = kk a) (hz : ev n f z = v) (hM : Mp kk d B B0 w r μ) (hv : d.V B w b v) (hBB : B ≤ B0) (hE : tMap ∉ d.E)
    (k : ∀ w', Mp kk d B B0 w' r (mset μ a (some b)) → Mod B0 tMap w w' → Lst P ops Q rest (fr n f) w') : Lst P ops Q (⟨none, .mapUpdate T x y z, ty0, pos, aft, none⟩ :: rest) (fr n f) w := by
  obtain ⟨w', hr, h1, h2⟩ := run_update (a := a) hT hK hM hv hBB hE
  refine l0 (w' := w') ?_ (k w' h1 h2)
  simp only [execOp, hx, hy, hz, Sem.run_bind, hr, Result.andThen_ok]
  rfl
/-- 'delete(m, k)' -/
theorem o_delete {a : κ} {tk : TypeId} (hT : P.underlying T = some (.map K e)) (hK : KeyOk P K kk) (hx : ev n f x = .map (some r)) (hy : ev n f y = kk a) (hM : Mp kk d B B0 w r μ) (hBB : B ≤ B0) (hE : tMap ∉ d.E)
    (k : ∀ w', Mp kk d B B0 w' r (mset μ a none) → Mod B0 tMap w w' → Lst P ops Q rest (fr n f) w') : Lst P ops Q (⟨none, .call ⟨.builtin .delete, #[x, y], #[T, tk]⟩, ty0, pos, aft, none⟩ :: rest) (fr n f) w := by
  obtain ⟨es, clock, m, hm, ht⟩ := hM.ex
  have hmod : ∀ es' clock', Mod B0 tMap w (setBlock w r (.map es' clock')) := fun es' clock' => mod_setBlock (.inl rfl) hm.blk hm.ty (fun x hx => by unfold Eng.ty; rw [hx]) hM.low
  have hself : ∀ o, (setBlock w r o).heap[r]? = some o := fun o => by show (w.heap.setIfInBounds r o)[r]? = _; simp [hm.lt]
  rcases hK.find w a es.toList _ hm.ents.keys with ⟨h1, h2⟩ | ⟨i, e', h1, h2, h3⟩
  · have hμ : μ a = none := by
      cases hμ : μ a with
      | none => rfl
      | some b => exact absurd ((ht.key a).2 (by rw [hμ]; simp)) h1
    refine l1n (w' := setBlock w r (.map es clock)) (v := .tuple #[]) ?_ (k _ ⟨hM.low, es, clock, m, ⟨hself _, hm.ents.imp fun _ _ => d.keep ((hmod _ _).same hBB hE), hm.nd, hm.bnd, hm.bl⟩, fun k' v' => ?_⟩ (hmod _ _))
    · simp only [execOp, resolve, invoke, builtin, Sem.run_bind, Sem.run_pure, Result.andThen_ok, List.map_toArray, List.map_cons, List.map_nil, hx, hy]
      simp [Builtin.delete_, run_underlying hT, MapKept.run_getObj_map hm.blk, hK.check, h2, Sem.run_bind, MapKept.run_setObj_map _ hm.blk, setBlock]
    · unfold mset
      by_cases hk : k' = a
      · subst hk; rw [if_pos rfl, ht, hμ]
      · rw [if_neg hk, ht]
  · obtain ⟨p, hp, hk, hvv⟩ := hm.ents.get h1
    have hpa : p.1 = a := by
      rw [List.getElem?_map, hp] at h2
      simpa using h2
    have hil : i < es.toList.length := (List.getElem?_eq_some_iff.1 h1).1
    have her : (es.eraseIdxIfInBounds i).toList = es.toList.eraseIdx i := by
      unfold Array.eraseIdxIfInBounds
      rw [dif_pos (by simpa using hil)]
      exact Array.toList_eraseIdx
    have hsub : (es.toList.eraseIdx i).Sublist es.toList := List.eraseIdx_sublist _ _
    refine l1n (w' := setBlock w r (.map (es.eraseIdxIfInBounds i) clock)) (v := .tuple #[]) ?_ (k _ ⟨hM.low, _, clock, m.eraseIdx i, ⟨hself _, ?_, ?_, ?_, ?_⟩, fun k' v' => ?_⟩ (hmod _ _))
    · simp only [execOp, resolve, invoke, builtin, Sem.run_bind, Sem.run_pure, Result.andThen_ok, List.map_toArray, List.map_cons, List.map_nil, hx, hy]
      simp [Builtin.delete_, run_underlying hT, MapKept.run_getObj_map hm.blk, hK.check, h3, Sem.run_bind, MapKept.run_setObj_map _ hm.blk, setBlock]
    · rw [her]; exact (hm.ents.imp fun _ _ => d.keep ((hmod _ _).same hBB hE)).erase i
    · exact ((List.eraseIdx_sublist m i).map _).nodup hm.nd
    · rw [her]; exact (hsub.map _).nodup hm.bnd
    · intro e0 he0; rw [her] at he0; exact hm.bl e0 (hsub.subset he0)
    · unfold mset
      rw [List.mem_eraseIdx_iff_getElem?]
      by_cases hk' : k' = a
      · subst hk'
        rw [if_pos rfl]
        constructor
        · rintro ⟨j, hne, hj⟩
          exact absurd (nodup_idx hm.nd hj hp (by rw [hpa])) hne
        · intro hc; cases hc
      · rw [if_neg hk', ← ht k' v', List.mem_iff_getElem?]
        constructor
        · rintro ⟨j, _, hj⟩; exact ⟨j, hj⟩
        · rintro ⟨j, hj⟩
          exact ⟨j, fun q => by subst q; rw [hp] at hj; injection hj with hj; rw [hj] at hpa; exact hk' hpa, hj⟩
/-- 'len(m)' -/
theorem Mp.count (hM : Mp kk d B B0 w r μ) : ∃ ks : List κ, ks.Nodup ∧ (∀ k, k ∈ ks ↔ μ k ≠ none) ∧ ∀ {P : Program} {T K e : TypeId} {n : Nat} {f : Nat → Value} {x : Operand} {ty0 : TypeId} {pos : String} {aft : Array Edge} {dst' : Option Nat} {gd : Option (Nat × Bool)},
    P.underlying T = some (.map K e) → ev n f x = .map (some r) → Ex P w n f ⟨dst', .call ⟨.builtin .len, #[x], #[T]⟩, ty0, pos, aft, gd⟩ (.int .i64 (ks.length : Int)) := by
  obtain ⟨es, clock, m, hm, ht⟩ := hM.ex
  refine ⟨m.map (·.1), hm.nd, ht.key, fun hT hx => ?_⟩
  have hl : (m.map (·.1)).length = es.size := by rw [List.length_map, ← hm.ents.length, Array.length_toList]
  rw [hl]
  unfold Ex execOp
  simp [resolve, invoke, builtin, hx, Builtin.len_, run_underlying hT, MapKept.run_getObj_map hm.blk, Sem.run_bind, goInt]

/-! ### the range over a map -/
/-- Block it is an iterator over the map r, whose keys vs have come. -/
structure Rg (kk : κ → Value) (d : VK ν) (B B0 : Nat) (w : World) (r it : Nat) (μ : κ → Option ν) (vs : List κ) : Prop where
  low : B0 ≤ it
  nd : vs.Nodup
  sub : ∀ k ∈ vs, μ k ≠ none
  ex : ∃ es clock m since seen c0, MapIs kk d B w r es clock m ∧ Tells m μ ∧ w.heap[it]? = some (.mapIter (some r) since seen c0) ∧ (∀ e ∈ es.toList, e.born < since) ∧ since ≤ c0 ∧ since ≤ clock ∧
    (∀ (i : Nat) (e : MapEntry) (p : κ × ν), es.toList[i]? = some e → m[i]? = some p → (e.born ∈ seen ↔ p.1 ∈ vs)) ∧
    (∀ a, vs.getLast? = some a → c0 = clock ∧ ∃ (i : Nat) (e : MapEntry) (b : ν) (seen' : Array Nat), es.toList[i]? = some e ∧ m[i]? = some (a, b) ∧ seen = Array.push seen' e.born)
namespace Rg
variable {vs : List κ} {it : Nat} {w' : World}
theorem keep (h : Rg kk d B B0 w r it μ vs) (hb : r < w.heap.size → w'.heap[r]? = w.heap[r]?) (hi : it < w.heap.size → w'.heap[it]? = w.heap[it]?) (hs : Same B d.E w w') : Rg kk d B B0 w' r it μ vs := by
  obtain ⟨es, clock, m, since, seen, c0, hm, ht, h1, h2⟩ := h.ex
  exact ⟨h.low, h.nd, h.sub, es, clock, m, since, seen, c0, hm.keep (hb hm.lt) hs, ht, (hi (Array.getElem?_eq_some_iff.1 h1).1).trans h1, h2⟩
theorem ext (h : Rg kk d B B0 w r it μ vs) (e : Ext w w') : Rg kk d B B0 w' r it μ vs := h.keep (fun hl => e.old r hl) (fun hl => e.old it hl) (e.same _ _)
theorem mod (h : Rg kk d B B0 w r it μ vs) {B' : Nat} {t : TypeId} (m : Mod B' t w w') (hB : B ≤ B') (ht : t ∉ tMap :: tIter :: d.E) : Rg kk d B B0 w' r it μ vs := by
  obtain ⟨es, clock, l, since, seen, c0, hm, hT, h1, h2⟩ := h.ex
  have hi : ty w it = some tIter := by unfold Eng.ty; rw [h1]
  refine h.keep (fun hl => m.old r hl (.inr ?_)) (fun hl => m.old it hl (.inr ?_)) (m.same hB fun hc => ht (by simp [hc]))
  · rw [hm.ty]; intro e; injection e with e; exact ht (by simp [e])
  · rw [hi]; intro e; injection e with e; exact ht (by simp [e])
theorem mp (h : Rg kk d B B0 w r it μ vs) (B1 : Nat) (hr : B1 ≤ r) : Mp kk d B B1 w r μ := by
  obtain ⟨es, clock, m, since, seen, c0, hm, ht, _⟩ := h.ex
  exact ⟨hr, es, clock, m, hm, ht⟩
end Rg
/-- 'range m' -/
theorem o_range (hT : P.underlying T = some (.map K e)) (hx : ev n f x = .map (some r)) (hM : Mp kk d B B0 w r μ)
    (k : ∀ w' it, Ext w w' → it = w.heap.size → (∀ B1, B1 ≤ w.heap.size → Rg kk d B B1 w' r it μ []) → Lst P ops Q rest (fr n (upd f dst (.pointer (some ⟨it, 0, none⟩)))) w') :
    Lst P ops Q (⟨some dst, .range T x, ty0, pos, aft, none⟩ :: rest) (fr n f) w := by
  obtain ⟨es, clock, m, hm, ht⟩ := hM.ex
  have hx' := Ext.alloc w (.mapIter (some r) clock #[] clock)
  refine l1 (w' := w.alloc (.mapIter (some r) clock #[] clock)) (v := .pointer (some ⟨w.heap.size, 0, none⟩)) ?_ (k _ _ hx' rfl fun B1 hB => ⟨hB, List.nodup_nil, by simp, es, clock, m, clock, #[], clock, hm.keep (hx'.old r hm.lt) (hx'.same _ _), ht, heap_alloc_new w _, hm.bl, Nat.le_refl _, Nat.le_refl _, by simp, by simp⟩)
  simp only [execOp, hx, Sem.run_bind, run_range_map (P := P) w T K e r es clock hT hm.blk, Result.andThen_ok]
  rfl
/-- One step, and its answer: nothing is left; or a key that has not come, and what the map tells of it. -/
theorem o_next {it : Nat} {vs : List κ} (hx : ev n f x = .pointer (some ⟨it, 0, none⟩)) (hR : Rg kk d B B0 w r it μ vs) (hBB : B ≤ B0) (hE : tIter ∉ d.E)
    (kf : (∀ a, μ a ≠ none → a ∈ vs) → Lst P ops Q rest (fr n (upd f dst (.tuple #[.bool false]))) w)
    (kt : ∀ w' a b v, a ∉ vs → μ a = some b → Rg kk d B B0 w' r it μ (vs ++ [a]) → Mod B0 tIter w w' → Lst P ops Q rest (fr n (upd f dst (.tuple #[.bool true, kk a, v]))) w') :
    Lst P ops Q (⟨some dst, .next x false, ty0, pos, aft, none⟩ :: rest) (fr n f) w := by
  obtain ⟨es, clock, m, since, seen, c0, hm, ht, hi, hold, hsc, hsc', hseen, _⟩ := hR.ex
  have hti : ty w it = some tIter := by unfold Eng.ty; rw [hi]
  rcases run_next_at (P := P) w ty0 it r since c0 seen es clock hi hm.blk hold hsc with ⟨h0, hr⟩ | ⟨e', he', w1, hw1, hr⟩
  · refine l1 (w' := w) (v := .tuple #[.bool false]) ?_ (kf fun a ha => ?_)
    · simp only [execOp, hx, Sem.run_bind, hr, Result.andThen_ok]; rfl
    · obtain ⟨i, hi'⟩ := List.mem_iff_getElem?.1 ((ht.key a).2 ha)
      rw [List.getElem?_map] at hi'
      obtain ⟨p, hp, hpa⟩ := Option.map_eq_some_iff.1 hi'
      have hlt : i < es.toList.length := by rw [hm.ents.length]; exact (List.getElem?_eq_some_iff.1 hp).1
      have hei : es.toList[i]? = some es.toList[i] := List.getElem?_eq_getElem hlt
      rw [← hpa, ← hseen i _ p hei hp]
      have hL : leftOf es seen = #[] := Array.eq_empty_of_size_eq_zero h0
      unfold leftOf at hL
      rw [Array.filter_eq_empty_iff] at hL
      have := hL es.toList[i] (by rw [← Array.mem_toList_iff]; exact List.getElem_mem _)
      simpa using this
  · have hmem : e' ∈ es.toList ∧ ¬ e'.born ∈ seen := by
      unfold leftOf at he'
      simp at he'
      exact ⟨by simpa using he'.1, he'.2⟩
    obtain ⟨i, hei⟩ := List.mem_iff_getElem?.1 hmem.1
    obtain ⟨p, hp, hkey, hval⟩ := hm.ents.get hei
    have hnv : p.1 ∉ vs := fun hc => hmem.2 ((hseen i e' p hei hp).2 hc)
    have hμ : μ p.1 = some p.2 := (ht _ _).1 (List.mem_of_getElem? hp)
    have hmod : Mod B0 tIter w (setBlock w1 it (.mapIter (some r) since (seen.push e'.born) clock)) := mod_setBlock hw1 hi hti (fun x hx => by unfold Eng.ty; rw [hx]) hR.low
    have hne : r ≠ it := fun q => by subst q; have := hm.blk.symm.trans hi; simp at this
    have hheap : w1.heap = w.heap := by rcases hw1 with rfl | rfl <;> rfl
    have hblk' : (setBlock w1 it (.mapIter (some r) since (seen.push e'.born) clock)).heap[r]? = w.heap[r]? := by
      show (w1.heap.setIfInBounds it _)[r]? = _
      rw [hheap, Array.getElem?_setIfInBounds_ne (fun q => hne q.symm)]
    have hit' : (setBlock w1 it (.mapIter (some r) since (seen.push e'.born) clock)).heap[it]? = some (.mapIter (some r) since (seen.push e'.born) clock) := by
      show (w1.heap.setIfInBounds it _)[it]? = _
      rw [hheap]
      simp [(Array.getElem?_eq_some_iff.1 hi).1]
    have hs := hmod.same (B' := B) (E := d.E) hBB hE
    have hm' := hm.keep hblk' hs
    refine l1 (w' := setBlock w1 it (.mapIter (some r) since (seen.push e'.born) clock)) (v := .tuple #[.bool true, kk p.1, e'.val]) ?_
      (kt _ p.1 p.2 e'.val hnv hμ ⟨hR.low, ?_, ?_, es, clock, m, since, seen.push e'.born, clock, hm', ht, hit', hold, hsc', hsc', ?_, ?_⟩ hmod)
    · rw [← hkey]
      simp only [execOp, hx, Sem.run_bind, hr, Result.andThen_ok]; rfl
    · exact List.nodup_append.2 ⟨hR.nd, by simp, by simp only [List.mem_singleton]; rintro a ha b rfl rfl; exact hnv ha⟩
    · intro a ha
      rcases List.mem_append.1 ha with ha | ha
      · exact hR.sub a ha
      · simp only [List.mem_singleton] at ha; subst ha; rw [hμ]; simp
    · intro j e2 p2 hj1 hj2
      rw [Array.mem_push, hseen j e2 p2 hj1 hj2, List.mem_append, List.mem_singleton]
      refine or_congr Iff.rfl ⟨fun q => ?_, fun q => ?_⟩
      · have h3 : (es.toList.map (·.born))[j]? = some e'.born := by rw [List.getElem?_map, hj1]; simp [q]
        have h4 : (es.toList.map (·.born))[i]? = some e'.born := by rw [List.getElem?_map, hei]; rfl
        have : j = i := nodup_get hm.bnd h3 h4
        subst this
        rw [hp] at hj2; injection hj2 with hj2; rw [hj2]
      · have : j = i := nodup_idx hm.nd hj2 hp q
        subst this
        rw [hei] at hj1; injection hj1 with hj1; rw [hj1]
    · intro a ha
      rw [List.getLast?_append] at ha
      simp at ha
      subst ha
      exact ⟨rfl, i, e', p.2, seen, hei, hp, rfl⟩
/-- What has come last. -/
theorem Rg.entry {it : Nat} {us : List κ} {a : κ} (hR : Rg kk d B B0 w r it μ (us ++ [a])) : ∃ b v, μ a = some b ∧ d.V B w b v ∧ ∀ {P : Program} {n : Nat} {f : Nat → Value} {x : Operand} {ty0 : TypeId} {pos : String} {aft : Array Edge} {dst' : Option Nat} {gd : Option (Nat × Bool)},
    ev n f x = .pointer (some ⟨it, 0, none⟩) → Ex P w n f ⟨dst', .entry x, ty0, pos, aft, gd⟩ (.tuple #[kk a, v]) := by
  obtain ⟨es, clock, m, since, seen, c0, hm, ht, hi, hold, hsc, hsc', hseen, hlast⟩ := hR.ex
  obtain ⟨rfl, i, e', b, seen', hei, hp, rfl⟩ := hlast a (by simp)
  obtain ⟨p, hp', hkey, hval⟩ := hm.ents.get hei
  rw [hp] at hp'; injection hp' with hp'; subst hp'
  refine ⟨b, e'.val, (ht _ _).1 (List.mem_of_getElem? hp), hval, @fun P n f x ty0 pos aft dst' gd hx => ?_⟩
  have := run_entry_at (P := P) w it r since seen' es c0 e' hi hm.blk (List.mem_of_getElem? hei) hm.bnd
  unfold Ex execOp
  simp only [hx, Sem.run_bind, this, Result.andThen_ok, hkey]
  rfl
end
end Go.Proofs.Eng
