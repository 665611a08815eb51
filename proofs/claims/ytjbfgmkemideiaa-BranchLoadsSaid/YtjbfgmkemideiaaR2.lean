import Derived.Test.YtjbfgmkemideiaaR1
import Derived.Test.YtjbfgmkemideiaaF3
set_option linter.unusedVariables false
set_option linter.unusedSimpArgs false
namespace Go.Proofs.Eng
open Go.ChangeShapes Go.WideShapes Go.ChangeAt Go.RowKit
section
variable {H : Type} {enc : TypeId × Value → H} {P : Program} {W : World} {α : Type}
/-- .. and what its weights say of it. -/
def OpensW (enc : TypeId × Value → H) (P : Program) (W : World) (d : Kind α) (e : TypeId) (φ : α → Prop) : Prop :=
  ∀ fuel cs x, DataW.trod enc P W 0 (fun _ => true) true fuel e cs = some x → ∃ y, d.K W.heap.size W y cs ∧ ((x.1.weights P e).all (· ≤ reachBytes) = true → φ y)
theorem weightsAll_mem {e : TypeId} {p : Nat → Bool} : ∀ {ds : List (DataW H)}, (DataW.weightsAll P e ds).all p = true → ∀ d ∈ ds, (d.weights P e).all p = true
  | [], _, _, h => by simp at h
  | d :: ds, hp, x, hx => by
    unfold DataW.weightsAll at hp
    rw [List.all_append, Bool.and_eq_true] at hp
    rcases List.mem_cons.1 hx with rfl | hx
    · exact hp.1
    · exact weightsAll_mem hp.2 x hx
theorem weight_head {t : TypeId} {ts : List TypeId} {ds : List (DataW H)} {d : DataW H} (h : (DataW.weightsEach P (t :: ts) (d :: ds)).all (· ≤ reachBytes) = true) : (d.weights P t).all (· ≤ reachBytes) = true := by
  unfold DataW.weightsEach at h
  rw [List.all_append, Bool.and_eq_true] at h
  exact h.1
theorem open_slW [Inhabited α] {d : Kind α} {t e : TypeId} {φ : α → Prop} (ht : P.underlying t = some (.slice e)) (hc : P.cellsOf e = d.sz) (hO : OpensW enc P W d e φ) {fuel : Nat} {cs : List Value} {x : DataW H × List MemPlace}
    (h : DataW.trod enc P W 0 (fun _ => true) true fuel t cs = some x) : ∃ p n c xs, cs = [.slice p n c] ∧ Sl d e W.heap.size W p n c xs ∧ c ≤ maxLen ∧ (x.1 = .nil ∧ n = 0 ∨ ∃ es rs, x.1 = .slice es rs ∧ es.length = n) ∧ ((x.1.weights P t).all (· ≤ reachBytes) = true → ∀ y ∈ xs, φ y) := by
  rcases Deep.open_slice ht h with ⟨h0, h1⟩ | ⟨a, len, cap, m, n, D, Pl, rfl, hb, hl, hm, hmm, rfl, hx⟩
  · exact ⟨none, 0, 0, [], h0, Sl.nil _ _ _ _ _ _ (by omega), by unfold maxLen; omega, .inl ⟨by rw [h1], rfl⟩, fun _ y hy => by simp at hy⟩
  · have hmm : m = cap := by simpa using hmm
    subst hmm
    rw [hc] at hx
    obtain ⟨C, hC⟩ := Deep.choose_lt (α := List Value) (n := len) (p := fun i cs' => W.cells? 0 (a.add (i * d.sz)) d.sz = some cs' ∧ DataW.trod enc P W 0 (fun _ => true) true n e cs' = some (D i, Pl i)) (fun i hi => hx i (by omega))
    obtain ⟨Y, hY⟩ := Deep.choose_lt (α := α) (n := len) (p := fun i y => d.K W.heap.size W y (C i) ∧ (((D i).weights P e).all (· ≤ reachBytes) = true → φ y)) (fun i hi => hO _ _ _ (hC i hi).2)
    have hfit : m ≤ 9223372036854775807 := by unfold maxLen at hm; omega
    have cell : ∀ j v, (((List.range len).map C).flatten)[j]? = some v → W.cell? (a.add j) = some v := by
      intro j v hv
      obtain ⟨hs, hi, hr⟩ := flat_inv len j v (fun i hi => d.len (hY i hi).1) hv
      obtain ⟨_, hlen, hcell⟩ := World.cells?_some (hC _ hi).1
      have := hcell (j % d.sz) (Nat.mod_lt _ hs)
      rw [hr] at this
      have e1 : j / d.sz * d.sz + j % d.sz = j := by have := Nat.div_add_mod j d.sz; rw [Nat.mul_comm] at this; omega
      rw [Addr.add_add, e1] at this
      exact this
    have plain : ((List.range len).map C).flatten ≠ [] → a = ⟨a.block, a.off, none⟩ := by
      intro hne
      cases hfl : ((List.range len).map C).flatten with
      | nil => exact absurd hfl hne
      | cons v r =>
        have := cell 0 v (by rw [hfl]; rfl)
        rw [add_nought] at this; exact cell_plain this
    refine ⟨some a, len, m, (List.range len).map Y, rfl, ⟨by simp, hl, hfit, (List.range len).map C, all_map _ (fun i hi => (hY i (by simpa using hi)).1), ?_⟩, hm, .inr ⟨_, _, rfl, by simp⟩, ?_⟩
    · refine ⟨⟨fun hne => congrArg some (plain hne), fun j v hv => ?_⟩, fun hne => ?_⟩
      · have hp := plain (by intro e; rw [e] at hv; simp at hv)
        have := cell j v hv
        show W.cell? ⟨a.block, a.off + j, none⟩ = some v
        rw [hp, Addr.add_mid] at this
        exact this
      · left
        cases hfl : ((List.range len).map C).flatten with
        | nil => exact absurd hfl hne
        | cons v r =>
          have := World.block_lt_of_cell? W _ (cell 0 v (by rw [hfl]; rfl))
          show a.block < W.heap.size
          have e2 : (a.add 0).block = a.block := by unfold Addr.add; split <;> rfl
          rw [e2] at this; exact this
    · intro hw y hy
      obtain ⟨i, hi, rfl⟩ := List.mem_map.1 hy
      have hi' : i < len := by simpa using hi
      refine (hY i hi').2 ?_
      unfold DataW.weights at hw
      rw [ht] at hw
      simp only [List.all_cons, List.all_append, Bool.and_eq_true] at hw
      exact weightsAll_mem hw.2.1 (D i) (List.mem_map.2 ⟨i, hi, rfl⟩)
theorem arg_slW [Inhabited α] {k : Kind α} {t e : TypeId} {r : Reach} {b0 : Nat} {v : Value} {d : DataW H} {ps : List MemPlace} {φ : α → Prop} (ht : P.underlying t = some (.slice e)) (hc : P.cellsOf e = k.sz) (hO : OpensW enc P W k e φ) (hval : Value.okWide P W r b0 t v)
    (h : DataW.Trod enc P W 0 (fun _ => true) true t v d ps) : ∃ p n c xs, v = .slice p n c ∧ Sl k e W.heap.size W p n c xs ∧ c ≤ maxLen ∧ (d = .nil ∧ n = 0 ∨ ∃ es rs, d = .slice es rs ∧ es.length = n) ∧ ((d.weights P t).all (· ≤ reachBytes) = true → ∀ y ∈ xs, φ y) := by
  obtain ⟨p, n, c, rfl⟩ := okWide_slice ht hval
  obtain ⟨fuel, hf⟩ := h
  obtain ⟨p', n', c', xs, h1, h2, h3, h4, h5⟩ := open_slW ht hc hO hf
  have h1 : [Value.slice p n c] = [.slice p' n' c'] := h1
  injection h1 with h1
  injection h1 with e1 e2 e3
  subst e1 e2 e3
  exact ⟨p, n, c, xs, rfl, h2, h3, h4, h5⟩
theorem len_of_weights {t e : TypeId} {d : DataW H} {n : Nat} (ht : P.underlying t = some (.slice e)) (hb : P.bytesOf e = 32) (h : (d.weights P t).all (· ≤ reachBytes) = true) (hd : d = .nil ∧ n = 0 ∨ ∃ es rs, d = .slice es rs ∧ es.length = n) : n * 32 ≤ 140737488351232 := by
  rcases hd with ⟨_, rfl⟩ | ⟨es, rs, rfl, rfl⟩
  · omega
  · unfold DataW.weights at h
    rw [ht] at h
    simp only [List.all_cons, Bool.and_eq_true, decide_eq_true_eq, hb] at h
    have h2 : (es.length + rs.length) * 32 ≤ 140737488351232 := h.1
    omega
/-- A branch among the arguments. -/
theorem opens_brA {t : TypeId} {f0 f1 : Field} (ht : P.underlying t = some (.struct #[f0, f1])) (hs : P.underlying f0.type = some .string) (hl : P.underlying f1.type = some (.slice 35)) (o0 : f0.offset = 0) (o1 : f1.offset = 1) (c0 : P.cellsOf f0.type = 1) (c1 : P.cellsOf f1.type = 1) (ct : P.cellsOf t = 2)
    (ce : P.cellsOf 35 = kHash.sz) (hb : P.bytesOf 35 = 32) (hO : Opens enc P W kHash 35) : OpensW enc P W kBrA t (fun y => y.1.size ≤ maxLen ∧ y.2.length * 32 ≤ 140737488351232) := by
  intro fuel cs x h
  obtain ⟨xs, n, rfl, rfl, hlen, hxl, hx⟩ := DataW.trod_struct ht h
  rw [ct] at hlen
  match cs, hlen with
  | [a, b], _ =>
    have hx0 := hx 0 f0 rfl
    have hx1 := hx 1 f1 rfl
    rw [o0, c0] at hx0
    rw [o1, c1] at hx1
    have hxl : xs.length = 2 := hxl
    match xs, hxl with
    | [y0, y1], _ =>
      obtain ⟨s, e0, _, hw⟩ := DataW.trod_string hs hx0
      have q0 : a = .string s := by simpa using e0
      obtain ⟨p, m, c, hsl, e1, h2, _, h4⟩ := open_sl hl ce hO hx1
      have q1 : b = .slice p m c := by simpa using e1
      clear e0 e1
      subst q0 q1
      refine ⟨(s, hsl), ⟨p, m, c, rfl, h2⟩, fun hwt => ⟨hw, ?_⟩⟩
      unfold DataW.weights at hwt
      rw [ht] at hwt
      have hwt' : (DataW.weightsEach P [f0.type, f1.type] [y0.1, y1.1]).all (· ≤ reachBytes) = true := hwt
      have := len_of_weights hl hb (weight_head (weight_tail hwt')) h4
      show hsl.length * 32 ≤ _
      rw [h2.len]; exact this
/-- A call among the arguments. -/
theorem opens_act {t : TypeId} {f0 f1 f2 : Field} (ht : P.underlying t = some (.struct #[f0, f1, f2])) (hk : P.underlying f0.type = some (.int .u8)) (hs : P.underlying f1.type = some .string) (hl : P.underlying f2.type = some (.slice 35)) (o0 : f0.offset = 0) (o1 : f1.offset = 1) (o2 : f2.offset = 2) (c0 : P.cellsOf f0.type = 1) (c1 : P.cellsOf f1.type = 1) (c2 : P.cellsOf f2.type = 1) (ct : P.cellsOf t = 3)
    (ce : P.cellsOf 35 = kHash.sz) (hb : P.bytesOf 35 = 32) (hO : Opens enc P W kHash 35) : OpensW enc P W kAct t (fun y => y.2.1.size ≤ maxLen ∧ y.2.2.length * 32 ≤ 140737488351232) := by
  intro fuel cs x h
  obtain ⟨xs, n, rfl, rfl, hlen, hxl, hx⟩ := DataW.trod_struct ht h
  rw [ct] at hlen
  match cs, hlen with
  | [a, b, b2], _ =>
    have hx0 := hx 0 f0 rfl
    have hx1 := hx 1 f1 rfl
    have hx2 := hx 2 f2 rfl
    rw [o0, c0] at hx0
    rw [o1, c1] at hx1
    rw [o2, c2] at hx2
    have hxl : xs.length = 3 := hxl
    match xs, hxl with
    | [y0, y1, y2], _ =>
      obtain ⟨k, e0, _, hkw⟩ := DataW.trod_int hk hx0
      have q0 : a = .int .u8 k := by simpa using e0
      have hb8 : 0 ≤ k ∧ k ≤ 255 := by simpa [Lit.wf, IntKind.min, IntKind.max, IntKind.signed, IntKind.bits] using hkw
      obtain ⟨s, e1, _, hw⟩ := DataW.trod_string hs hx1
      have q1 : b = .string s := by simpa using e1
      obtain ⟨p, m, c, hsl, e2, h2, _, h4⟩ := open_sl hl ce hO hx2
      have q2 : b2 = .slice p m c := by simpa using e2
      clear e0 e1 e2
      subst q0 q1 q2
      refine ⟨(UInt8.ofNat k.toNat, s, hsl), ⟨p, m, c, ?_, h2⟩, fun hwt => ⟨hw, ?_⟩⟩
      · have : ((UInt8.ofNat k.toNat).toNat : Int) = k := by simp; omega
        rw [this]
      · unfold DataW.weights at hwt
        rw [ht] at hwt
        have hwt' : (DataW.weightsEach P [f0.type, f1.type, f2.type] [y0.1, y1.1, y2.1]).all (· ≤ reachBytes) = true := hwt
        have := len_of_weights hl hb (weight_head (weight_tail (weight_tail hwt'))) h4
        show hsl.length * 32 ≤ _
        rw [h2.len]; exact this
end
end Go.Proofs.Eng
