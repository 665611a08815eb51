import Derived.Test.YtjbfgmkemideiaaF0
import Derived.Lib.AppendZerosOnto
set_option linter.unusedVariables false
set_option linter.unusedSimpArgs false
namespace Go.Proofs.Eng
open Go.RowKit
open Extern.Stop (cell)

/-! ### slices of slices -/
section
variable {α : Type}
/-- A slice, as one thing. -/
def kSl (d : Kind α) (e : TypeId) : Kind (List α) where
  sz := 1
  E := e :: d.E
  K := fun B w xs cs => ∃ p n c, cs = [.slice p n c] ∧ Sl d e B w p n c xs
  len := by rintro _ _ _ _ ⟨p, n, c, rfl, _⟩; rfl
  one := by
    rintro _ _ _ _ ⟨p, n, c, rfl, _⟩ v hv
    simp only [List.mem_singleton] at hv
    subst hv; rfl
  keep := fun hs ⟨p, n, c, h1, h2⟩ => ⟨p, n, c, h1, h2.keep hs⟩
  mono := fun hB ⟨p, n, c, h1, h2⟩ => ⟨p, n, c, h1, h2.mono hB⟩
theorem kSl_pos {d : Kind α} {e : TypeId} : 0 < (kSl d e).sz := Nat.one_pos
theorem Sl.slAt {d : Kind α} {e e2 : TypeId} {B : Nat} {w : World} {p : Option Addr} {n c : Nat} {xss : List (List α)} (h : Sl (kSl d e) e2 B w p n c xss) (i : Nat) (hi : i < n) :
    ∃ q m c1, w.cell? ⟨ab p, ao p + i, none⟩ = some (.slice q m c1) ∧ Sl d e B w q m c1 (xss.getD i []) := by
  obtain ⟨cs, ⟨q, m, c1, rfl, hs⟩, hr⟩ := h.get [] i hi
  have := hr 0 _ rfl
  have e1 : (kSl d e).sz = 1 := rfl
  rw [e1] at this
  exact ⟨q, m, c1, by simpa using this, hs⟩
theorem Own.takeN {d : Kind α} {e : TypeId} {B B0 : Nat} {w : World} {p : Option Addr} {n c : Nat} {xs : List α} (h : Own d e B B0 w p n c xs) (m : Nat) (hm : m ≤ n) : Own d e B B0 w p m c (xs.take m) := by
  obtain ⟨css, ha, ho⟩ := h.row
  have hl := h.len
  rcases ho.2 with ⟨h1, h2⟩ | ⟨g, cap, cur, h1, h2, h3, h4, h5, h6, h7⟩
  · injection h1 with e1 e2 e3
    have : m = 0 := by omega
    subst this e1 e3
    rw [List.take_zero]
    exact Own.nil _ _ _ _ _
  · injection h1 with e1 e2 e3
    subst e1 e3
    refine Own.remade h2 h3 (by omega) h5 h6 (by simp; omega) (ha.take m) ?_
    rw [ha.flat_take, ← h7, List.take_take, Nat.min_eq_left (Nat.mul_le_mul_right _ hm)]
end
section
variable {P : Program} {ops : Array Oper} {Q : Exit → Act → World → Prop} {rest : List Oper} {n : Nat} {f : Nat → Value} {w : World}
variable {ty0 : TypeId} {pos : String} {aft : Array Edge} {dst : Nat} {x y : Operand} {T Ti e : TypeId} {α : Type}
/-- 'append([]E(nil), make([]E, m)...)', of which nothing is kept. -/
theorem o_growNil (d : Kind α) {z : Value} {bytes m : Nat} {ki kq : IntKind} (hT : P.underlying T = some (.slice e)) (hTi : P.underlying Ti = some (.int ki)) (hi : (P.info? e).map (fun i => (i.zero, i.size, i.bytes)) = some (some z, d.sz, bytes)) (hz : z.cells.size = d.sz) (hsz : 0 < d.sz)
    (hx : ev n f x = .slice none 0 0) (hy : ev n f y = .int kq (m : Int)) (h0 : 0 < m) (hb : (m + m / 4 + 192) * bytes ≤ 281474976710656) (h62 : m ≤ 4611686018427387904)
    (k : ∀ p c' w', (∀ B B0, B0 ≤ w.heap.size → Own d e B B0 w' p 0 c' []) → m ≤ c' → Ext w w' → Lst P ops Q rest (fr n (upd f dst (.slice p m c'))) w') :
    Lst P ops Q (⟨some dst, .call ⟨.builtin .append, #[x, y], #[T, Ti]⟩, ty0, pos, aft, none⟩ :: rest) (fr n f) w := by
  obtain ⟨i, hi0, hiz, his, hib⟩ := info_parts' hi
  subst hib
  have hbm : m * i.bytes ≤ 281474976710656 := Nat.le_trans (Nat.mul_le_mul_right _ (by omega)) hb
  have hr := Lib.run_append_grow_zeros (P := P) w T Ti ty0 e i z kq ki hT hTi hi0 hiz none 0 0 [] (run_firstCells_none w.drew i.size 0 0 0) m h0 (by omega) (by omega) (by omega) hbm (growslice_fits_wide (by omega) (by rw [Nat.zero_add]; exact hb))
  rw [Nat.zero_add] at hr
  have hge := grownCap_ge w m 0 e
  have hcm : grownCap w m 0 e ≤ maxLen := grownCap_le_maxLen w m 0 e (by unfold maxLen; omega)
  have hN : New w.drew _ w.drew.heap.size _ e := New.alloc w.drew (([] : List Value).toArray ++ Builtin.zeroCells z.cells m ++ Builtin.zeroCells z.cells (grownCap w m 0 e - m)) e
  refine l1 (v := .slice (some ⟨w.heap.size, 0, none⟩) m (grownCap w m 0 e)) ?_ (k _ _ _ (fun B B0 hB => ?_) hge ((Ext.drew w).trans hN.ext))
  · simp only [execOp, resolve, invoke, builtin, Sem.run_bind, Sem.run_pure, Result.andThen_ok, List.map_toArray, List.map_cons, List.map_nil, hx, hy, hr]
  · refine Own.made d e B B0 hN [] [] 0 _ rfl trivial hB (Nat.zero_le _) (by unfold maxLen at hcm; omega) ?_ (by simp)
    simp only [Array.size_append, List.size_toArray, List.length_nil, size_zeroCells, hz, Nat.zero_add, ← Nat.add_mul]
    congr 1; omega
theorem x_cap_slice {dst' : Option Nat} {gd : Option (Nat × Bool)} {p : Option Addr} {l c : Nat} (hT : P.underlying T = some (.slice e)) (hx : ev n f x = .slice p l c) : Ex P w n f ⟨dst', .call ⟨.builtin .cap, #[x], #[T]⟩, ty0, pos, aft, gd⟩ (.int .i64 (c : Int)) := by
  unfold Ex execOp; simp [resolve, invoke, builtin, hx, Builtin.cap_, run_underlying hT, Sem.run_bind, goInt]
end
/-! ### lists one behind the other -/
theorem flat_take_succ {α : Type} {xss : List (List α)} {k : Nat} (h : k < xss.length) : (xss.take (k + 1)).flatten = (xss.take k).flatten ++ xss.getD k [] := by
  have e : xss.getD k [] = xss[k] := by rw [List.getD_eq_getElem?_getD, List.getElem?_eq_getElem h]; rfl
  rw [e, List.take_succ_eq_append_getElem h, List.flatten_append]; simp
theorem flat_take_le {α : Type} (xss : List (List α)) (k : Nat) : (xss.take k).flatten.length ≤ xss.flatten.length := by
  conv => rhs; rw [← List.take_append_drop k xss]
  rw [List.flatten_append, List.length_append]; omega
theorem flat_take_add {α : Type} {xss : List (List α)} {k : Nat} (h : k < xss.length) : (xss.take k).flatten.length + (xss.getD k []).length ≤ xss.flatten.length := by
  have h1 := flat_take_le xss (k + 1)
  rw [flat_take_succ h, List.length_append] at h1
  exact h1
end Go.Proofs.Eng
