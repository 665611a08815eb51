import Derived.Test.YtjbfgmkemideiaaR0
import Derived.Test.YtjbfgmkemideiaaE5
import Derived.Deep.Slices
set_option linter.unusedVariables false
set_option linter.unusedSimpArgs false
namespace Go.Proofs.Eng
open Go.ChangeShapes Go.WideShapes Go.ChangeAt Go.RowKit
section
variable {H : Type} {enc : TypeId × Value → H} {P : Program} {W : World} {α : Type}
theorem cell_plain {w : World} {a : Addr} {v : Value} (h : w.cell? a = some v) : a = ⟨a.block, a.off, none⟩ := by
  obtain ⟨b, o, s⟩ := a
  cases s with
  | none => rfl
  | some s =>
    unfold World.cell? at h
    simp only [Option.isSome_some, if_true] at h
    split at h <;> cases h
theorem add_nought (a : Addr) : a.add 0 = a := rfl
/-- What a cell run's reading tells. -/
def Opens (enc : TypeId × Value → H) (P : Program) (W : World) (d : Kind α) (e : TypeId) : Prop :=
  ∀ fuel cs x, DataW.trod enc P W 0 (fun _ => true) true fuel e cs = some x → ∃ y, d.K W.heap.size W y cs
theorem all_map {d : Kind α} {B : Nat} {Y : Nat → α} {C : Nat → List Value} : ∀ (l : List Nat), (∀ i ∈ l, d.K B W (Y i) (C i)) → d.All B W (l.map Y) (l.map C)
  | [], _ => trivial
  | i :: l, h => ⟨h i (by simp), all_map l (fun j hj => h j (by simp [hj]))⟩
theorem flat_inv {C : Nat → List Value} {sz : Nat} : ∀ (len : Nat) (j : Nat) (v : Value), (∀ i, i < len → (C i).length = sz) → (((List.range len).map C).flatten)[j]? = some v → 0 < sz ∧ j / sz < len ∧ (C (j / sz))[j % sz]? = some v := by
  intro len j v hl hv
  have hf : (((List.range len).map C).flatten).length = len * sz := by
    have : ∀ l : List Nat, (∀ i ∈ l, (C i).length = sz) → ((l.map C).flatten).length = l.length * sz := by
      intro l
      induction l with
      | nil => intro _; simp
      | cons i l ih => intro h; rw [List.map_cons, List.flatten_cons, List.length_append, h i (by simp), ih (fun k hk => h k (by simp [hk])), List.length_cons, Nat.add_mul]; omega
    rw [this _ (fun i hi => hl i (by simpa using hi))]; simp
  have hj : j < len * sz := by
    rcases Nat.lt_or_ge j (len * sz) with h | h
    · exact h
    · rw [List.getElem?_eq_none (by omega)] at hv; cases hv
  have hs : 0 < sz := by rcases Nat.eq_zero_or_pos sz with h | h; (· subst h; simp at hj); (· exact h)
  have hi : j / sz < len := Nat.div_lt_of_lt_mul (by rw [Nat.mul_comm]; exact hj)
  refine ⟨hs, hi, ?_⟩
  have hlen := hl _ hi
  have hr : j % sz < sz := Nat.mod_lt _ hs
  have hg : ((((List.range len).map C)).getD (j / sz) [])[j % sz]? = some ((C (j / sz))[j % sz]'(by omega)) := by
    rw [List.getD_eq_getElem?_getD, List.getElem?_map, List.getElem?_range hi]
    simp [hlen, hr]
  have := Kind.flat_get (s := sz) (css := (List.range len).map C) (fun c hc => by
    obtain ⟨i, hi, rfl⟩ := List.mem_map.1 hc
    exact hl i (by simpa using hi)) hg
  have e1 : j / sz * sz + j % sz = j := by have := Nat.div_add_mod j sz; rw [Nat.mul_comm] at this; omega
  rw [e1, hv] at this
  rw [this]; exact List.getElem?_eq_getElem (by omega)
theorem open_sl [Inhabited α] {d : Kind α} {t e : TypeId} (ht : P.underlying t = some (.slice e)) (hc : P.cellsOf e = d.sz) (hO : Opens enc P W d e) {fuel : Nat} {cs : List Value} {x : DataW H × List MemPlace}
    (h : DataW.trod enc P W 0 (fun _ => true) true fuel t cs = some x) : ∃ p n c xs, cs = [.slice p n c] ∧ Sl d e W.heap.size W p n c xs ∧ c ≤ maxLen ∧ (x.1 = .nil ∧ n = 0 ∨ ∃ es rs, x.1 = .slice es rs ∧ es.length = n) := by
  rcases Deep.open_slice ht h with ⟨h0, h1⟩ | ⟨a, len, cap, m, n, D, Pl, rfl, hb, hl, hm, hmm, rfl, hx⟩
  · exact ⟨none, 0, 0, [], h0, Sl.nil _ _ _ _ _ _ (by omega), by unfold maxLen; omega, .inl ⟨by rw [h1], rfl⟩⟩
  · have hmm : m = cap := by simpa using hmm
    subst hmm
    rw [hc] at hx
    obtain ⟨C, hC⟩ := Deep.choose_lt (α := List Value) (n := len) (p := fun i cs' => W.cells? 0 (a.add (i * d.sz)) d.sz = some cs' ∧ DataW.trod enc P W 0 (fun _ => true) true n e cs' = some (D i, Pl i)) (fun i hi => hx i (by omega))
    obtain ⟨Y, hY⟩ := Deep.choose_lt (α := α) (n := len) (p := fun i y => d.K W.heap.size W y (C i)) (fun i hi => hO _ _ _ (hC i hi).2)
    have hfit : m ≤ 9223372036854775807 := by unfold maxLen at hm; omega
    refine ⟨some a, len, m, (List.range len).map Y, rfl, ⟨by simp, hl, hfit, (List.range len).map C, all_map _ (fun i hi => hY i (by simpa using hi)), ?_⟩, hm, .inr ⟨_, _, rfl, by simp⟩⟩
    have cell : ∀ j v, (((List.range len).map C).flatten)[j]? = some v → W.cell? (a.add j) = some v := by
      intro j v hv
      obtain ⟨hs, hi, hr⟩ := flat_inv len j v (fun i hi => d.len (hY i hi)) hv
      obtain ⟨_, hlen, hcell⟩ := World.cells?_some (hC _ hi).1
      have := hcell (j % d.sz) (Nat.mod_lt _ hs)
      rw [hr] at this
      have e1 : j / d.sz * d.sz + j % d.sz = j := by have := Nat.div_add_mod j d.sz; rw [Nat.mul_comm] at this; omega
      rw [Addr.add_add, e1] at this
      exact this
    have plain : ((List.range len).map C).flatten ≠ [] → a = ⟨a.block, a.off, none⟩ := by
      intro hne
      cases hfl : ((List.range len).map C).flatten with
      | nil => exact absurd hfl hne
      | cons v r =>
        have := cell 0 v (by rw [hfl]; rfl)
        rw [add_nought] at this; exact cell_plain this
    refine ⟨⟨fun hne => congrArg some (plain hne), fun j v hv => ?_⟩, fun hne => ?_⟩
    · have hp := plain (by intro e; rw [e] at hv; simp at hv)
      have := cell j v hv
      show W.cell? ⟨a.block, a.off + j, none⟩ = some v
      rw [hp, Addr.add_mid] at this
      exact this
    · left
      cases hfl : ((List.range len).map C).flatten with
      | nil => exact absurd hfl hne
      | cons v r =>
        have := World.block_lt_of_cell? W _ (cell 0 v (by rw [hfl]; rfl))
        show a.block < W.heap.size
        have e2 : (a.add 0).block = a.block := by unfold Addr.add; split <;> rfl
        rw [e2] at this; exact this
theorem arg_sl [Inhabited α] {k : Kind α} {t e : TypeId} {r : Reach} {b0 : Nat} {v : Value} {d : DataW H} {ps : List MemPlace} (ht : P.underlying t = some (.slice e)) (hc : P.cellsOf e = k.sz) (hO : Opens enc P W k e) (hval : Value.okWide P W r b0 t v)
    (h : DataW.Trod enc P W 0 (fun _ => true) true t v d ps) : ∃ p n c xs, v = .slice p n c ∧ Sl k e W.heap.size W p n c xs ∧ c ≤ maxLen ∧ (d = .nil ∧ n = 0 ∨ ∃ es rs, d = .slice es rs ∧ es.length = n) := by
  obtain ⟨p, n, c, rfl⟩ := okWide_slice ht hval
  obtain ⟨fuel, hf⟩ := h
  obtain ⟨p', n', c', xs, h1, h2, h3, h4⟩ := open_sl ht hc hO hf
  have h1 : [Value.slice p n c] = [.slice p' n' c'] := h1
  injection h1 with h1
  injection h1 with e1 e2 e3
  subst e1 e2 e3
  exact ⟨p, n, c, xs, rfl, h2, h3, h4⟩
theorem opens_byte {e : TypeId} (he : P.underlying e = some (.int .u8)) : Opens enc P W kByte e := by
  intro fuel cs x h
  obtain ⟨n, rfl, _, hw⟩ := DataW.trod_int he h
  have hb : 0 ≤ n ∧ n ≤ 255 := by simpa [Lit.wf, IntKind.min, IntKind.max, IntKind.signed, IntKind.bits] using hw
  refine ⟨UInt8.ofNat n.toNat, ?_⟩
  show [Value.int .u8 n] = [Extern.Stop.cell (UInt8.ofNat n.toNat)]
  unfold Extern.Stop.cell
  congr 2
  simp
  omega
theorem hash_of_cells {e t : TypeId} (ht : P.underlying t = some (.array 32 e)) (he : P.underlying e = some (.int .u8)) (hce : P.cellsOf e = 1) (hct : P.cellsOf t = 32) {fuel : Nat} {cs : List Value} {x : DataW H × List MemPlace}
    (h : DataW.trod enc P W 0 (fun _ => true) true fuel t cs = some x) : ∃ y : Hash, cs = hcs y := by
  obtain ⟨xs, m, rfl, _, hl, hxl, hx⟩ := DataW.trod_array ht h
  rw [hct] at hl
  have key : ∀ i, i < 32 → ∃ b : UInt8, cs[i]? = some (Extern.Stop.cell b) := by
    intro i hi
    have h1 := hx i hi
    rw [hce, Nat.mul_one, List.getElem?_eq_getElem (by omega)] at h1
    obtain ⟨n, h2, _, hw⟩ := DataW.trod_int he h1
    have hb : 0 ≤ n ∧ n ≤ 255 := by simpa [Lit.wf, IntKind.min, IntKind.max, IntKind.signed, IntKind.bits] using hw
    refine ⟨UInt8.ofNat n.toNat, ?_⟩
    have h3 : (cs.drop i)[0]? = some (.int .u8 n) := by
      have := congrArg (fun l => l[0]?) h2
      simpa [List.getElem?_take] using this
    rw [List.getElem?_drop, Nat.add_zero] at h3
    rw [h3]
    unfold Extern.Stop.cell
    congr 2
    simp
    omega
  obtain ⟨f, hf⟩ := Deep.choose_lt (α := UInt8) key
  refine ⟨⟨(List.range 32).map f, by simp⟩, ?_⟩
  apply List.ext_getElem?
  intro i
  by_cases hi : i < 32
  · rw [hf i hi]; simp [hcs, hi]
  · rw [List.getElem?_eq_none (by omega), List.getElem?_eq_none (by simp [hcs]; omega)]
theorem opens_hash {e t : TypeId} (ht : P.underlying t = some (.array 32 e)) (he : P.underlying e = some (.int .u8)) (hce : P.cellsOf e = 1) (hct : P.cellsOf t = 32) : Opens enc P W kHash t :=
  fun fuel cs x h => hash_of_cells ht he hce hct h
theorem arg_hash {e t : TypeId} {r : Reach} {b0 : Nat} {v : Value} {d : DataW H} {ps : List MemPlace} (ht : P.underlying t = some (.array 32 e)) (he : P.underlying e = some (.int .u8)) (hce : P.cellsOf e = 1) (hct : P.cellsOf t = 32)
    (hval : Value.okWide P W r b0 t v) (h : DataW.Trod enc P W 0 (fun _ => true) true t v d ps) : ∃ y : Hash, v = .agg (hv y) := by
  have hv' : ∃ cs, v = .agg cs := by
    unfold Value.okWide at hval
    rw [ht] at hval
    obtain ⟨cs, rfl, _⟩ := hval
    exact ⟨cs, rfl⟩
  obtain ⟨cs, rfl⟩ := hv'
  obtain ⟨fuel, hf⟩ := h
  obtain ⟨y, hy⟩ := hash_of_cells ht he hce hct hf
  have hy : cs.toList = hcs y := hy
  exact ⟨y, by unfold hv; rw [← hy]⟩
/-- What the reading's weight says of a slice's length. -/
theorem weight_sl {t e : TypeId} {ts : List TypeId} {ds : List (DataW H)} {d : DataW H} {n bs : Nat} (ht : P.underlying t = some (.slice e)) (hb : P.bytesOf e = bs) (h : (DataW.weightsEach P (t :: ts) (d :: ds)).all (· ≤ reachBytes) = true)
    (hd : d = .nil ∧ n = 0 ∨ ∃ es rs, d = .slice es rs ∧ es.length = n) : n * bs ≤ 140737488351232 := by
  rcases hd with ⟨_, rfl⟩ | ⟨es, rs, rfl, rfl⟩
  · omega
  · unfold DataW.weightsEach at h
    rw [List.all_append, Bool.and_eq_true] at h
    have h1 := h.1
    unfold DataW.weights at h1
    rw [ht] at h1
    simp only [List.all_cons, Bool.and_eq_true, decide_eq_true_eq, hb] at h1
    have h2 : (es.length + rs.length) * bs ≤ 140737488351232 := h1.1
    have : es.length * bs ≤ (es.length + rs.length) * bs := Nat.mul_le_mul_right _ (by omega)
    omega
theorem weight_tail {t : TypeId} {ts : List TypeId} {ds : List (DataW H)} {d : DataW H} (h : (DataW.weightsEach P (t :: ts) (d :: ds)).all (· ≤ reachBytes) = true) : (DataW.weightsEach P ts ds).all (· ≤ reachBytes) = true := by
  unfold DataW.weightsEach at h
  rw [List.all_append, Bool.and_eq_true] at h
  exact h.2
end
end Go.Proofs.Eng
