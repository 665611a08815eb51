import Derived.Test.YtjbfgmkemideiaaE6
set_option linter.unusedVariables false
set_option linter.unusedSimpArgs false
namespace Go.Proofs.Eng
open Go.RowKit

/-! ### a region whose order is drawn and that holds calls: what is quiet is taken first -/
/-- What may be behind the region, and nothing else: it ends as code does. -/
def Only (Q : Exit → Act → World → Prop) : Exit → Act → World → Prop
  | .normal, a, w => Q .normal a w
  | _, _, _ => False
structure Hl (P : Program) (ops : Array Oper) (Q : Exit → Act → World → Prop) (S : World → Prop) (fuel : Nat) (listed : Array Bool) (a : Act) (w : World) : Prop where
  mk :: (out : wpAnyH P .any ops (Only Q) S fuel listed a w)
/-- One operation of it that is carried out. -/
structure Hop (P : Program) (ops : Array Oper) (Q : Exit → Act → World → Prop) (o : Oper) (K : Act → World → Prop) (a : Act) (w : World) : Prop where
  mk :: (out : (if Region.wanted o (yielded ops a.tmps) then o.wp P a w K (Only Q) ∨ (o.asks P a w ∧ LetsOut (Only Q)) else K (a.put o.dst undef) w))
section
variable {P : Program} {ops : Array Oper} {Q : Exit → Act → World → Prop} {S : World → Prop} {n : Nat} {f : Nat → Value} {w : World} {fuel : Nat} {listed : Array Bool} {id : Nat} {l : List Oper} {K : Act → World → Prop}
variable {op : Op} {ty : TypeId} {pos : String} {aft : Array Edge} {d : Nat} {v : Value}
theorem r_held (S : World → World → Prop) (hm : P.follows .mixedOrders = true) (h : ∀ w', Ext w w' → Hl P l.toArray Q (S w') l.toArray.size (Array.replicate l.toArray.size false) (fr n f) w') : Wp P (Code.region id l.toArray true) Q (fr n f) w :=
  ⟨wp_mono (wp_region_held (S := S w.drew) hm (h w.drew (Ext.drew w)).out) fun e a w hq => by cases e <;> first | exact hq | exact hq.elim⟩
/-- Number i is quiet: it is taken now. -/
theorem h_take (i : Nat) (hi : ops[i]? = some ⟨some d, op, ty, pos, aft, none⟩) (hs : Region.noSelect ops = true) (hf : Region.free .any ops listed i = true) (hr : (Region.ready .any ops listed).contains i = true) (hS : S w)
    (h : ∀ w, S w → Ex P w n f ⟨some d, op, ty, pos, aft, none⟩ v) (k : Hl P ops Q S fuel (listed.setIfInBounds i true) (fr n (upd f d v)) w) : Hl P ops Q S (fuel + 1) listed (fr n f) w := by
  refine ⟨wpAnyH_take hi hs hf hr (fun c a w q => q.elim) (v := v) (.inl ⟨rfl, fun w hw => ?_⟩) hS ?_⟩
  · rw [eval_fr]; exact h w hw
  · rw [put_fr]; exact k.out
/-- Number i alone may come up. -/
theorem h_one (i : Nat) (o : Oper) (hi : ops[i]? = some o) (hr : Region.ready .any ops listed = [i]) (h : Hop P ops Q o (fun a' w' => S w' ∧ Hl P ops Q S fuel (listed.setIfInBounds i true) a' w') (fr n f) w) : Hl P ops Q S (fuel + 1) listed (fr n f) w := by
  refine ⟨wpAnyH_all hr (by simp) (fun j hj => ?_)⟩
  have : j = i := by simpa using hj
  subst this
  refine wpOp_mono (K := fun a' w' => S w' ∧ Hl P ops Q S fuel (listed.setIfInBounds j true) a' w') (fun a w hk => ⟨hk.1, hk.2.out⟩) ?_
  unfold wpOp
  simp only [hi]
  exact h.out
theorem h_two (i j : Nat) (o o2 : Oper) (hi : ops[i]? = some o) (hj : ops[j]? = some o2) (hr : Region.ready .any ops listed = [i, j]) (h : Hop P ops Q o (fun a' w' => S w' ∧ Hl P ops Q S fuel (listed.setIfInBounds i true) a' w') (fr n f) w)
    (h2 : Hop P ops Q o2 (fun a' w' => S w' ∧ Hl P ops Q S fuel (listed.setIfInBounds j true) a' w') (fr n f) w) : Hl P ops Q S (fuel + 1) listed (fr n f) w := by
  refine ⟨wpAnyH_all hr (by simp) (fun m hm => ?_)⟩
  have : m = i ∨ m = j := by simpa using hm
  rcases this with rfl | rfl
  · refine wpOp_mono (K := fun a' w' => S w' ∧ Hl P ops Q S fuel (listed.setIfInBounds m true) a' w') (fun a w hk => ⟨hk.1, hk.2.out⟩) ?_
    unfold wpOp
    simp only [hi]
    exact h.out
  · refine wpOp_mono (K := fun a' w' => S w' ∧ Hl P ops Q S fuel (listed.setIfInBounds m true) a' w') (fun a w hk => ⟨hk.1, hk.2.out⟩) ?_
    unfold wpOp
    simp only [hj]
    exact h2.out
theorem h_done (hr : Region.ready .any ops listed = []) (h : Q .normal (fr n f) w) : Hl P ops Q S fuel listed (fr n f) w := ⟨wpAnyH_done (Q := Only Q) hr h fuel⟩
/-- A plain list of one operation, as an operation of such a region. -/
theorem hop_of_list {o : Oper} (h : ∀ Q' : Exit → Act → World → Prop, (∀ a w, K a w → Q' .normal a w) → Lst P ops Q' [o] (fr n f) w) : Hop P ops Q o K (fr n f) w := by
  have h1 := (h (Exit.then K (Only Q)) (fun a w hk => hk)).out
  refine ⟨?_⟩
  unfold wpList at h1
  split
  · rename_i hw
    rw [if_pos hw] at h1
    refine h1.imp (fun h1 => ?_) (fun h1 => ⟨h1.1, by obtain ⟨_, a, w, q⟩ := h1; exact ⟨a, w, q⟩⟩)
    unfold Oper.wp at h1 ⊢
    generalize (execOp (fr n f).eval o).run P w = r at *
    cases r with
    | ok n w' =>
      cases n <;> simp only [Oper.upon] at h1 ⊢ <;>
        first
          | exact h1
          | exact Calls.mono h1 (fun e w'' he => by cases e <;> first | exact he | (obtain ⟨a, w, q⟩ := he; exact ⟨a, w, q⟩))
    | halt x w' => cases x <;> simp only [Oper.upon] at h1 ⊢ <;> exact h1
  · rename_i hw
    rw [if_neg hw] at h1
    exact h1
theorem hop_end {Q' : Exit → Act → World → Prop} {a : Act} (hQ : ∀ a w, K a w → Q' .normal a w) (h : K a w) : Lst P ops Q' [] a w := ⟨hQ _ _ h⟩
end
end Go.Proofs.Eng
