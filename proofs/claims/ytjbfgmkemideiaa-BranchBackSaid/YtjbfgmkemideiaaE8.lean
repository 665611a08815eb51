import Derived.Test.YtjbfgmkemideiaaE7
import Derived.Lib.SliceRun
set_option linter.unusedVariables false
set_option linter.unusedSimpArgs false
namespace Go.Proofs.Eng
open Go.RowKit

/-! ### a slice of the call's own is written -/
section
variable {α : Type} {d : Kind α} {e : TypeId} {B B0 : Nat} {w w' : World} {p : Option Addr} {n c : Nat} {xs : List α}
theorem Own.block (h : Own d e B B0 w p n c xs) (hn : 0 < n) : ∃ g cur css, p = some ⟨g, 0, none⟩ ∧ B0 ≤ g ∧ Blk w g cur e ∧ n ≤ c ∧ c ≤ 9223372036854775807 ∧ cur.size = c * d.sz ∧ d.All B w xs css ∧ css.flatten.length = n * d.sz ∧ cur.toList.take (n * d.sz) = css.flatten := by
  obtain ⟨css, ha, ho⟩ := h.row
  rcases ho.2 with ⟨_, h2⟩ | ⟨g, cap, cur, h1, h2, h3, h4, h5, h6, h7⟩
  · omega
  · injection h1 with e1 e2 e3
    subst e1 e3
    exact ⟨g, cur, css, rfl, h2, h3, h4, h5, h6, ha, ho.1, h7⟩
theorem Own.remade {g m : Nat} {cur : Array Value} {ys : List α} {css : List (List Value)} (hg : B0 ≤ g) (hB : Blk w' g cur e) (hm : m ≤ c) (hc : c ≤ 9223372036854775807) (hs : cur.size = c * d.sz) (hl : ys.length = m) (ha : d.All B w' ys css) (ht : cur.toList.take (m * d.sz) = css.flatten) :
    Own d e B B0 w' (some ⟨g, 0, none⟩) m c ys := ⟨hl, css, ha, by rw [ha.flat, hl], .inr ⟨g, c, cur, rfl, hg, hB, hm, hc, hs, ht⟩⟩
theorem All.set {B : Nat} {w : World} {y : α} {cy : List Value} (hy : d.K B w y cy) : ∀ {xs : List α} {css : List (List Value)} (i : Nat), d.All B w xs css → d.All B w (xs.set i y) (css.set i cy)
  | [], [], _, _ => trivial
  | _ :: _, _ :: _, 0, h => ⟨hy, h.2⟩
  | _ :: _, _ :: _, i + 1, h => ⟨h.1, All.set hy i h.2⟩
  | [], _ :: _, _, h => h.elim
  | _ :: _, [], _, h => h.elim
theorem flat_set {B : Nat} {w : World} {xs : List α} {css : List (List Value)} (ha : d.All B w xs css) {i : Nat} (hi : i < css.length) (cy : List Value) : (css.set i cy).flatten = css.flatten.take (i * d.sz) ++ cy ++ css.flatten.drop (i * d.sz + d.sz) := by
  rw [List.set_eq_take_append_cons_drop, if_pos hi, List.flatten_append, List.flatten_cons, ha.flat_take, ha.flat_drop, Nat.add_mul, Nat.one_mul]
  simp
theorem Own.put {i : Nat} {y : α} {cy : List Value} (h : Own d e B B0 w p n c xs) (hi : i < n) (hy : d.K B w y cy) (hBB : B ≤ B0) (hE : e ∉ d.E) {g : Nat} {cur : Array Value} (hB : Blk w g cur e) (hp : ab p = g)
    (hP : Put w w' g (cur.toList.take (i * d.sz) ++ cy ++ cur.toList.drop (i * d.sz + d.sz)).toArray e) : Own d e B B0 w' p n c (xs.set i y) ∧ Mod B0 e w w' := by
  obtain ⟨g', cur', css, rfl, h2, h3, h4, h5, h6, ha, hl, ht⟩ := h.block (by omega)
  have e1 : g' = g := hp
  subst e1
  have e2 : cur' = cur := by have e4 := h3.symm.trans hB; injection e4 with e4; injection e4
  subst e2
  have hm := hP.mod B0 h2
  have hcy := d.len hy
  have hxs := h.len
  have hle : i * d.sz + d.sz ≤ n * d.sz := by rw [← Nat.succ_mul]; exact Nat.mul_le_mul_right _ hi
  have hcs : n * d.sz ≤ c * d.sz := Nat.mul_le_mul_right _ h4
  refine ⟨Own.remade h2 hP.blk h4 h5 ?_ (by simpa using h.len) (All.set (d.keep (hm.same hBB hE) hy) i (ha.keep (hm.same hBB hE))) ?_, hm⟩
  · simp only [List.size_toArray, List.length_append, List.length_take, List.length_drop, Array.length_toList]; omega
  · have hcl : css.length = n := by rw [ha.length, hxs]
    rw [flat_set ha (by omega), ← ht]
    simp only [List.take_take, List.drop_take]
    have ea : (cur'.toList.take (i * d.sz) ++ cy).length = i * d.sz + d.sz := by simp; omega
    rw [show n * d.sz = (cur'.toList.take (i * d.sz) ++ cy).length + (n * d.sz - (i * d.sz + d.sz)) from by omega, List.take_length_add_append]
    rw [show min (i * d.sz) ((cur'.toList.take (i * d.sz) ++ cy).length + (n * d.sz - (i * d.sz + d.sz))) = i * d.sz from by omega, ea]
    rw [show i * d.sz + d.sz + (n * d.sz - (i * d.sz + d.sz)) - (i * d.sz + d.sz) = n * d.sz - (i * d.sz + d.sz) from by omega]
section
variable {P : Program} {ops : Array Oper} {Q : Exit → Act → World → Prop} {rest : List Oper} {N : Nat} {f : Nat → Value}
variable {ty0 : TypeId} {pos : String} {aft : Array Edge} {v : Value} {x y : Operand} {T : TypeId}
/-- 's[i] = y', an aggregate. -/
theorem o_storeSl {i : Nat} (y0 : α) {vs : Array Value} (hx : ev N f x = .pointer (some ⟨ab p, ao p + i * d.sz, none⟩)) (hy : ev N f y = .agg vs) (hO : Own d e B B0 w p n c xs) (hi : i < n) (ha : d.K B w y0 vs.toList) (hs : (P.info? T).map (·.size) = some d.sz) (hBB : B ≤ B0) (hE : e ∉ d.E)
    (k : ∀ w', Own d e B B0 w' p n c (xs.set i y0) → Mod B0 e w w' → Lst P ops Q rest (fr N f) w') : Lst P ops Q (⟨none, .store T x y, ty0, pos, aft, none⟩ :: rest) (fr N f) w := by
  obtain ⟨g, cur, css, e1, h2, h3, h4, h5, h6, _⟩ := hO.block (by omega)
  have hab : ab p = g := by rw [e1]; rfl
  have hao : ao p = 0 := by rw [e1]; rfl
  have hcy := d.len ha
  have hvs : vs.size = d.sz := by simpa using hcy
  have hle : i * d.sz + d.sz ≤ c * d.sz := by rw [← Nat.succ_mul]; exact Nat.mul_le_mul_right _ (by omega)
  rw [hab, hao, Nat.zero_add] at hx
  refine o_storeN hx hy (d.one ha) (by rw [hs, hvs]) h3 (by omega) fun w' hP => ?_
  rw [hvs] at hP
  have := hO.put hi ha hBB hE h3 hab hP
  exact k w' this.1 this.2
/-- .. a thing of one cell. -/
theorem o_storeSl1 {i : Nat} (y0 : α) (hx : ev N f x = .pointer (some ⟨ab p, ao p + i, none⟩)) (hy : ev N f y = v) (h1 : v.cells = #[v]) (hd : d.sz = 1) (hO : Own d e B B0 w p n c xs) (hi : i < n) (ha : d.K B w y0 [v]) (hs : (P.info? T).map (·.size) = some 1) (hBB : B ≤ B0) (hE : e ∉ d.E)
    (k : ∀ w', Own d e B B0 w' p n c (xs.set i y0) → Mod B0 e w w' → Lst P ops Q rest (fr N f) w') : Lst P ops Q (⟨none, .store T x y, ty0, pos, aft, none⟩ :: rest) (fr N f) w := by
  obtain ⟨g, cur, css, e1, h2, h3, h4, h5, h6, _⟩ := hO.block (by omega)
  have hab : ab p = g := by rw [e1]; rfl
  have hao : ao p = 0 := by rw [e1]; rfl
  have hlt : i < cur.size := by rw [h6, hd]; omega
  rw [hab, hao, Nat.zero_add] at hx
  refine o_store1 hx hy h1 (d.one ha v (by simp)) hs h3 hlt fun w' hP => ?_
  have e2 : cur.setIfInBounds i v = (cur.toList.take (i * d.sz) ++ [v] ++ cur.toList.drop (i * d.sz + d.sz)).toArray := by
    rw [hd, Nat.mul_one]
    apply Array.toList_inj.1
    rw [Array.toList_setIfInBounds, List.set_eq_take_append_cons_drop, if_pos (by simpa using hlt)]
    simp
  rw [e2] at hP
  have := hO.put hi ha hBB hE h3 hab hP
  exact k w' this.1 this.2
theorem l1n {op : Op} {w' : World} (h : (execOp (ev N f) ⟨none, op, ty0, pos, aft, none⟩).run P w = .ok (.value v) w') (k : Lst P ops Q rest (fr N f) w') : Lst P ops Q (⟨none, op, ty0, pos, aft, none⟩ :: rest) (fr N f) w :=
  ⟨wpList_plain rfl fun K hK => by
    unfold Oper.wp
    rw [eval_fr, h, Oper.upon_value]
    exact hK _ _ k.out⟩
/-- 'clear(s[m:])' -/
theorem o_clear {m c2 bytes : Nat} {z : Value} (hT : P.underlying T = some (.slice e)) (hi : (P.info? e).map (fun i => (i.zero, i.size, i.bytes)) = some (some z, d.sz, bytes)) (hz : z.cells.size = d.sz) (h1 : ∀ u ∈ z.cells.toList, u.oneCell' = true) (hsz : 0 < d.sz)
    (hx : ev N f x = .slice (adw p c m d.sz) (n - m) c2) (hO : Own d e B B0 w p n c xs) (hm : m ≤ n) (hBB : B ≤ B0) (hE : e ∉ d.E)
    (k : ∀ w', Own d e B B0 w' p m c (xs.take m) → Mod B0 e w w' → Lst P ops Q rest (fr N f) w') : Lst P ops Q (⟨none, .call ⟨.builtin .clear, #[x], #[T]⟩, ty0, pos, aft, none⟩ :: rest) (fr N f) w := by
  obtain ⟨ii, hi0, hi1⟩ := Option.map_eq_some_iff.1 hi
  simp only [Prod.mk.injEq] at hi1
  obtain ⟨hiz, his, hib⟩ := hi1
  have hzv : (zeroValue e).run P w = .ok z w := by simp [zeroValue, typeInfo, hi0, hiz]
  by_cases h0 : n - m = 0
  · have hmn : m = n := by omega
    subst hmn
    refine l1n (w' := w) (v := .tuple #[]) ?_ (k w (by rw [List.take_of_length_le (by rw [hO.len]; exact Nat.le_refl _)]; exact hO) (.refl _ _ _))
    have hr : (Builtin.clear_ #[T] ty0 #[.slice (adw p c m d.sz) (m - m) c2]).run P w = .ok (.tuple #[]) w := by
      rw [h0]
      cases adw p c m d.sz <;> simp [Builtin.clear_, run_underlying hT]
    simp only [execOp, resolve, invoke, builtin, Sem.run_bind, Sem.run_pure, Result.andThen_ok, List.map_toArray, List.map_cons, List.map_nil, hx, hr]
  · obtain ⟨g, cur, css, e1, h2, h3, h4, h5, h6, ha, hl, ht⟩ := hO.block (by omega)
    subst e1
    have hcm : c ≠ m := by omega
    have hadw : adw (some ⟨g, 0, none⟩) c m d.sz = some ⟨g, m * d.sz, none⟩ := by
      unfold adw; rw [if_neg hcm]
      show some (Addr.add ⟨g, 0, none⟩ (m * d.sz)) = _
      rw [Addr.add_mid, Nat.zero_add]
    rw [hadw] at hx
    let vs := (Builtin.zeroCells z.cells (n - m)).toList
    have hvl : vs.length = (n - m) * d.sz := by show (Builtin.zeroCells z.cells (n - m)).toList.length = _; rw [Array.length_toList, size_zeroCells, hz]
    have hnm : m * d.sz + (n - m) * d.sz = n * d.sz := by rw [← Nat.add_mul]; congr 1; omega
    have hnc : n * d.sz ≤ c * d.sz := Nat.mul_le_mul_right _ h4
    have hst := run_storeCells_cells (P := P) g (m * d.sz) vs 0 w
      (fun j hj => by rw [Nat.add_zero, h3.cell (v := cur[m * d.sz + j]'(by omega)) (Array.getElem?_eq_getElem (by omega))]; rfl)
      (fun j hj => frozen_of_row w g _ cur e h3)
      (fun u hu => by
        have hu' : u ∈ Builtin.zeroCells z.cells (n - m) := by simpa [vs] using hu
        simp only [Builtin.zeroCells, Array.mem_map] at hu'
        obtain ⟨q, _, rfl⟩ := hu'
        have : 0 < z.cells.size := by omega
        rw [getElem!_pos z.cells _ (Nat.mod_lt _ this)]
        exact h1 _ (by simp))
    rw [Nat.add_zero] at hst
    have hP := put_setCells vs h3 (o := m * d.sz) (by omega)
    have hm' := hP.mod B0 h2
    refine l1n (w' := w.setCells g (m * d.sz) vs) (v := .tuple #[]) ?_ (k _ (Own.remade h2 hP.blk (by omega) h5 ?_ (by rw [List.length_take, hO.len]; omega) ((ha.keep (hm'.same hBB hE)).take m) ?_) hm')
    · have hr : (Builtin.clear_ #[T] ty0 #[.slice (some ⟨g, m * d.sz, none⟩) (n - m) c2]).run P w = .ok (.tuple #[]) (w.setCells g (m * d.sz) vs) := by
        obtain ⟨q, hq⟩ : ∃ q, n - m = q + 1 := ⟨n - m - 1, by omega⟩
        have hst' := hst
        simp only [vs] at hst' ⊢
        rw [hq] at hst' ⊢
        simp [Builtin.clear_, run_underlying hT, hzv, hst']
      simp only [execOp, resolve, invoke, builtin, Sem.run_bind, Sem.run_pure, Result.andThen_ok, List.map_toArray, List.map_cons, List.map_nil, hx, hr]
    · simp only [List.size_toArray, List.length_append, List.length_take, List.length_drop, Array.length_toList]; omega
    · rw [ha.flat_take, ← ht]
      simp only [List.take_take]
      rw [List.append_assoc, List.take_append_of_le_length (by simp; omega), List.take_take]
      congr 1; omega
end
end
end Go.Proofs.Eng
