import Derived.Test.YtjbfgmkemideiaaF3
import Derived.Laws.Externs
set_option linter.unusedVariables false
set_option linter.unusedSimpArgs false
namespace Go.Proofs.Eng
open Go.RowKit
/-! ### interfaces; a function of the library that has no text; a map's copy -/
section
variable {P : Program} {n : Nat} {f : Nat → Value} {w : World} {dst : Option Nat} {ty0 : TypeId} {pos : String} {aft : Array Edge} {gd : Option (Nat × Bool)} {x : Operand} {T T2 K e : TypeId} {v : Value}
theorem x_iface {d : TypeDesc} (hT : P.underlying T = some d) (hd : (match d with | .interface _ => true | _ => false) = false) (hx : ev n f x = v) : Ex P w n f ⟨dst, .makeInterface T x, ty0, pos, aft, gd⟩ (.iface T v) := by
  subst hx
  unfold Ex execOp
  cases d <;> first | (simp at hd; done) | simp [Instr.makeInterface, run_underlying hT, Sem.run_bind]
theorem x_assert_map (hT : P.underlying T = some (.map K e)) (hx : ev n f x = .iface T v) : Ex P w n f ⟨dst, .typeAssert x T2 T false, ty0, pos, aft, gd⟩ v := by
  unfold Ex execOp
  simp [hx, Instr.typeAssert, run_underlying hT, Sem.run_bind]
end
section
variable {P : Program} {ops : Array Oper} {Q : Exit → Act → World → Prop} {rest : List Oper} {n : Nat} {f : Nat → Value} {w : World}
variable {ty : TypeId} {pos : String} {aft : Array Edge} {d : Nat}
theorem o_extern {g : FuncId} {oas : List Operand} {ats : Array TypeId} {fn : Func} {vs : List Value} {v : Value} {w' : World} {E : Array Value → Sem Value} (hf : P.funcs[g]? = some fn) (hn : (fn.name == "runtime.NumGoroutine") = false) (hb : fn.body.isNone = true) (h1 : Extern.findNext fn = none) (h2 : Extern.find fn = some E)
    (ha : evL n f oas = vs) (hr : (E vs.toArray).run P w = .ok v w') (k : Lst P ops Q rest (fr n (upd f d v)) w') :
    Lst P ops Q (⟨some d, .call ⟨.value (.func g), oas.toArray, ats⟩, ty, pos, aft, none⟩ :: rest) (fr n f) w := by
  refine l1 (w' := w') (v := v) ?_ k
  have ha' : oas.toArray.map (ev n f) = vs.toArray := by rw [List.map_toArray, evL_map, ha]
  have hc := run_callFunc_extern hf hn hb h1 h2 vs.toArray w
  simp only [execOp, resolve, ha', ev, Deferred.ofValue, invoke, Sem.run_bind, Sem.run_pure, Result.andThen_ok]
  simp [hc, hr]
end
theorem run_clone {P : Program} {w : World} {r : Nat} {es : Array MapEntry} {clock : Nat} (t : TypeId) (hb : w.heap[r]? = some (.map es clock)) :
    (Extern.MapsClone.clone #[.iface t (.map (some r))]).run P w = .ok (.iface t (.map (some w.heap.size))) (w.alloc (.map es clock)) := by
  have e : Extern.MapsClone.clone #[.iface t (.map (some r))] = (getObj r >>= fun o => match o with
      | .map entries clock => (newObj (.map entries clock) >>= fun n => pure (.iface t (.map (some n))))
      | _ => stuck "maps.clone: a map expected") := rfl
  rw [e]
  simp [MapKept.run_getObj_map hb, Sem.run_bind]
theorem Mp.clone {κ ν : Type} {kk : κ → Value} {d : VK ν} {B B0 r : Nat} {w : World} {μ : κ → Option ν} (h : Mp kk d B B0 w r μ) : ∃ es clock, w.heap[r]? = some (.map es clock) ∧ ∀ B1, B1 ≤ w.heap.size → Mp kk d B B1 (w.alloc (.map es clock)) w.heap.size μ := by
  obtain ⟨es, clock, m, hm, ht⟩ := h.ex
  exact ⟨es, clock, hm.blk, fun B1 hB => ⟨hB, es, clock, m, ⟨heap_alloc_new w _, hm.ents.imp fun _ _ => d.keep ((Ext.alloc w _).same _ _), hm.nd, hm.bnd, hm.bl⟩, ht⟩⟩
theorem Tbl.modLow {S : Nat → Prop} {B0 : Nat} {w w' : World} {g r : Nat} {l : List Br} (h : Tbl S B0 w g r l) {B' : Nat} (m : Mod B' tMap w w') (hr : r < B') : Tbl S B0 w' g r l :=
  ⟨h.blk.mod m (by decide), h.map.modB m (Nat.zero_le _) hr (by simp [vHs, tMap]), h.rise, h.few, h.ok⟩
theorem Tbl.lt {S : Nat → Prop} {B0 : Nat} {w : World} {g r : Nat} {l : List Br} (h : Tbl S B0 w g r l) : r < w.heap.size := h.map.lt
/-! ### calls that go well, or do not -/
theorem brCreate_err {l : List Br} {k : ByteArray} {hs : List Hash} (h : (brCreate l k hs).2 ≠ 0) : (brCreate l k hs).1 = l := by
  unfold brCreate at h ⊢
  repeat' split
  all_goals first | rfl | (exfalso; simp_all; done)
theorem asc_ins_self {l : List Br} (hr : RiseN l) (k : ByteArray) (o : Option (List Hash)) : asc (ins l k o) k = o := by
  rw [← asc_ins hr k o k]; unfold mset; rw [if_pos rfl]
theorem brCreate_ok {l : List Br} (hr : RiseN l) {k : ByteArray} {hs : List Hash} (h : (brCreate l k hs).2 = 0) : asc (brCreate l k hs).1 k = some hs := by
  unfold brCreate at h ⊢
  by_cases h1 : isName k = false
  · rw [if_pos h1] at h; simp at h
  · rw [if_neg h1] at h ⊢
    by_cases h2 : mayB hs = false
    · rw [if_pos h2] at h; simp at h
    · rw [if_neg h2] at h ⊢
      by_cases h3 : asc l k ≠ none
      · rw [if_pos h3] at h; simp at h
      · rw [if_neg h3] at h ⊢
        by_cases h4 : 64 ≤ l.length
        · rw [if_pos h4] at h; simp at h
        · rw [if_neg h4]; exact asc_ins_self hr k _
theorem brHeads_of {l : List Br} {k : ByteArray} {hs : List Hash} (h : asc l k = some hs) : brHeads l k = (hs, 0) := by unfold brHeads; rw [h]
/-- Lists that are tables. -/
def okL (l : List Br) : Prop := l.length ≤ 64 ∧ RiseN l ∧ ∀ x ∈ l, isName x.1 = true ∧ mayB x.2 = true
theorem riseN_take {l : List Br} (h : RiseN l) (k : Nat) : RiseN (l.take k) := List.Pairwise.sublist (List.take_sublist k l) h
theorem br_take_succ {l : List Br} {k : Nat} (h : k < l.length) : l.take (k + 1) = l.take k ++ [l.getD k default] := by
  rw [List.take_succ_eq_append_getElem h, List.getD_eq_getElem?_getD, List.getElem?_eq_getElem h]; rfl
theorem riseN_snoc {m : List Br} {x : Br} (h : RiseN m) (hx : ∀ y ∈ m, lssB y.1 x.1 = true) : RiseN (m ++ [x]) := by
  refine List.pairwise_append.2 ⟨h, List.pairwise_singleton _ _, fun a ha b hb => ?_⟩
  simp only [List.mem_singleton] at hb
  rw [hb]; exact hx a ha
theorem riseN_next {l : List Br} {k : Nat} (h : RiseN (l.take k)) (hk : k < l.length) (hx : k = 0 ∨ lssB (l.getD (k - 1) default).1 (l.getD k default).1 = true) : RiseN (l.take (k + 1)) := by
  rw [br_take_succ hk]
  refine riseN_snoc h fun y hy => ?_
  rcases hx with h0 | hx
  · subst h0; simp at hy
  · have h1 : l.take k = l.take (k - 1) ++ [l.getD (k - 1) default] ∨ k = 0 := by
      rcases Nat.eq_zero_or_pos k with h0 | h0
      · exact .inr h0
      · left
        have := br_take_succ (l := l) (k := k - 1) (by omega)
        rw [show k - 1 + 1 = k from by omega] at this
        exact this
    rcases h1 with h1 | h1
    · rw [h1] at hy h
      have hp := List.pairwise_append.1 h
      rcases List.mem_append.1 hy with hy | hy
      · exact ls_trans (hp.2.2 y hy _ (by simp)) hx
      · simp only [List.mem_singleton] at hy; rw [hy]; exact hx
    · subst h1; simp at hy
theorem not_rise_at {l : List Br} {k : Nat} (h0 : 0 < k) (hk : k < l.length) (hx : lssB (l.getD (k - 1) default).1 (l.getD k default).1 = false) : ¬ RiseN l := fun hr => by
  have h := List.pairwise_iff_getElem.1 hr (k - 1) k (by omega) hk (by omega)
  have eg : ∀ t (ht : t < l.length), l.getD t default = l[t] := fun t ht => by rw [List.getD_eq_getElem?_getD, List.getElem?_eq_getElem ht]; rfl
  rw [eg k hk, eg (k - 1) (by omega)] at hx
  rw [h] at hx; cases hx
theorem asc_snoc {m : List Br} {x : Br} (h : RiseN (m ++ [x])) (z : ByteArray) : mset (asc m) x.1 (some x.2) z = asc (m ++ [x]) z := by
  have hp := List.pairwise_append.1 h
  unfold mset
  by_cases e : z = x.1
  · rw [if_pos e, e]
    exact (asc_of_mem h (x := x) (by simp)).symm
  · rw [if_neg e]
    unfold asc
    rw [List.find?_append]
    cases hf : m.find? (fun y => decide (y.1 = z)) with
    | some y => rfl
    | none =>
      have e' : ¬ x.1 = z := fun q => e q.symm
      simp [e']
theorem mem_getD {l : List Br} {k : Nat} (h : k < l.length) : l.getD k default ∈ l := by
  rw [List.getD_eq_getElem?_getD, List.getElem?_eq_getElem h]; exact List.getElem_mem _
theorem ok_take_succ {l : List Br} {k : Nat} (h : ∀ x ∈ l.take k, isName x.1 = true ∧ mayB x.2 = true) (hk : k < l.length) (h1 : isName (l.getD k default).1 = true) (h2 : mayB (l.getD k default).2 = true) : ∀ x ∈ l.take (k + 1), isName x.1 = true ∧ mayB x.2 = true := by
  rw [br_take_succ hk]
  intro x hx
  rcases List.mem_append.1 hx with hx | hx
  · exact h x hx
  · simp only [List.mem_singleton] at hx; rw [hx]; exact ⟨h1, h2⟩
theorem okL_of {l : List Br} {S : Nat → Prop} {B0 : Nat} {w : World} {g r : Nat} (h : Tbl S B0 w g r l) : okL l := ⟨h.few, h.rise, h.ok⟩
end Go.Proofs.Eng
