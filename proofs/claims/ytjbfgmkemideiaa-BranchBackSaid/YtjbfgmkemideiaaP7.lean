import Derived.Test.YtjbfgmkemideiaaM1
import Derived.Test.YtjbfgmkemideiaaP1
set_option linter.unusedVariables false
set_option linter.unusedSimpArgs false
namespace Go.Proofs.Eng
open Go.RowKit
/-! ### names in their order; branches by their names -/
theorem bl_asymm : ∀ {a b : List UInt8}, Op.bytesLess a b = true → Op.bytesLess b a = false
  | _, [], h => by simp [Op.bytesLess] at h
  | [], _ :: _, _ => by simp [Op.bytesLess]
  | a :: x, b :: y, h => by
    simp only [Op.bytesLess, Bool.or_eq_true, decide_eq_true_eq, Bool.and_eq_true, beq_iff_eq, Bool.or_eq_false_iff, decide_eq_false_iff_not, Bool.and_eq_false_imp] at h ⊢
    rcases h with h | ⟨rfl, h⟩
    · exact ⟨UInt8.not_lt.2 (UInt8.le_of_lt h), fun e => by subst e; exact absurd h (UInt8.lt_irrefl _)⟩
    · exact ⟨UInt8.lt_irrefl _, fun _ => bl_asymm h⟩
theorem bl_irrefl (a : List UInt8) : Op.bytesLess a a = false := by
  cases h : Op.bytesLess a a
  · rfl
  · have := bl_asymm h; rw [h] at this; exact this
theorem bl_trans : ∀ {a b c : List UInt8}, Op.bytesLess a b = true → Op.bytesLess b c = true → Op.bytesLess a c = true
  | _, [], _, h, _ => by simp [Op.bytesLess] at h
  | _, _ :: _, [], _, h => by simp [Op.bytesLess] at h
  | [], _ :: _, _ :: _, _, _ => by simp [Op.bytesLess]
  | a :: x, b :: y, c :: z, h, k => by
    simp only [Op.bytesLess, Bool.or_eq_true, decide_eq_true_eq, Bool.and_eq_true, beq_iff_eq] at h k ⊢
    rcases h with h | ⟨rfl, h⟩ <;> rcases k with k | ⟨rfl, k⟩
    · exact .inl (UInt8.lt_trans h k)
    · exact .inl h
    · exact .inl k
    · exact .inr ⟨rfl, bl_trans h k⟩
theorem bl_total : ∀ (a b : List UInt8), a = b ∨ Op.bytesLess a b = true ∨ Op.bytesLess b a = true
  | [], [] => .inl rfl
  | [], _ :: _ => .inr (.inl (by simp [Op.bytesLess]))
  | _ :: _, [] => .inr (.inr (by simp [Op.bytesLess]))
  | a :: x, b :: y => by
    rcases Nat.lt_trichotomy a.toNat b.toNat with h | h | h
    · exact .inr (.inl (by simp [Op.bytesLess, UInt8.lt_iff_toNat_lt, h]))
    rotate_left
    · exact .inr (.inr (by simp [Op.bytesLess, UInt8.lt_iff_toNat_lt, h]))
    · have h := UInt8.toNat_inj.1 h
      subst h
      rcases bl_total x y with e | e | e
      · exact .inl (by rw [e])
      · exact .inr (.inl (by simp [Op.bytesLess, e]))
      · exact .inr (.inr (by simp [Op.bytesLess, e]))
theorem ba_toList_inj {a b : ByteArray} (h : a.toList = b.toList) : a = b := by
  have e := beq_toListBytes a b
  rw [h, beq_self_eq_true] at e
  exact (MapKept.bytes_beq a b).1 e
theorem ls_asymm {a b : ByteArray} (h : lssB a b = true) : lssB b a = false := bl_asymm h
theorem ls_irrefl (a : ByteArray) : lssB a a = false := bl_irrefl _
theorem ls_trans {a b c : ByteArray} (h : lssB a b = true) (k : lssB b c = true) : lssB a c = true := bl_trans h k
theorem ls_total (a b : ByteArray) : a = b ∨ lssB a b = true ∨ lssB b a = true := (bl_total a.toList b.toList).imp ba_toList_inj id
theorem ls_ne {a b : ByteArray} (h : lssB a b = true) : a ≠ b := by intro e; subst e; rw [ls_irrefl] at h; cases h

theorem nodup_leN {α : Type} [DecidableEq α] : ∀ {xs ks : List α}, xs.Nodup → (∀ z ∈ xs, z ∈ ks) → xs.length ≤ ks.length
  | [], _, _, _ => by simp
  | x :: xs, ks, hn, hs => by
    have hn' := List.nodup_cons.1 hn
    have hx : x ∈ ks := hs x (by simp)
    have h1 := nodup_leN (ks := ks.erase x) hn'.2 (fun z hz => (List.mem_erase_of_ne (fun e => hn'.1 (by rw [← e]; exact hz))).2 (hs z (by simp [hz])))
    rw [List.length_erase_of_mem hx] at h1
    have := List.length_pos_of_mem hx
    simp only [List.length_cons]
    omega
abbrev Br := ByteArray × List Hash
instance : Inhabited Br := ⟨(ByteArray.empty, [])⟩
theorem br_ext {l m : List Br} (hl : l.length = m.length) (h : ∀ i, i < l.length → l.getD i default = m.getD i default) : l = m := by
  apply List.ext_getElem hl
  intro i h1 h2
  have := h i h1
  rw [List.getD_eq_getElem?_getD, List.getD_eq_getElem?_getD, List.getElem?_eq_getElem h1, List.getElem?_eq_getElem h2] at this
  exact this
def RiseN (l : List Br) : Prop := l.Pairwise fun a b => lssB a.1 b.1 = true
/-- What the branches tell of a name. -/
def asc (l : List Br) (k : ByteArray) : Option (List Hash) := (l.find? fun x => decide (x.1 = k)).map (·.2)
theorem asc_nil (k : ByteArray) : asc [] k = none := rfl
theorem asc_cons (x : Br) (l : List Br) (k : ByteArray) : asc (x :: l) k = if x.1 = k then some x.2 else asc l k := by
  unfold asc
  by_cases h : x.1 = k <;> simp [List.find?_cons, h]
theorem asc_lt {l : List Br} {k : ByteArray} (h : ∀ x ∈ l, lssB k x.1 = true) : asc l k = none := by
  induction l with
  | nil => rfl
  | cons x l ih =>
    rw [asc_cons, if_neg (fun e => ls_ne (h x (by simp)) e.symm)]
    exact ih fun y hy => h y (by simp [hy])
theorem asc_mem {l : List Br} {k : ByteArray} {hs : List Hash} (h : asc l k = some hs) : (k, hs) ∈ l := by
  unfold asc at h
  obtain ⟨x, hx, e⟩ := Option.map_eq_some_iff.1 h
  have h1 := List.find?_some hx
  have h2 := List.mem_of_find?_eq_some hx
  simp at h1
  obtain ⟨a, b⟩ := x
  simp only at h1 e
  subst h1 e
  exact h2
theorem asc_some {l : List Br} {k : ByteArray} : asc l k ≠ none ↔ k ∈ l.map (·.1) := by
  induction l with
  | nil => simp [asc_nil]
  | cons x l ih =>
    rw [asc_cons, List.map_cons, List.mem_cons]
    by_cases h : x.1 = k
    · rw [if_pos h]; simp [h]
    · rw [if_neg h, ih]; simp [Ne.symm h]
theorem RiseN.nodup {l : List Br} (h : RiseN l) : (l.map (·.1)).Nodup := by
  unfold List.Nodup
  rw [List.pairwise_map]
  exact List.Pairwise.imp (fun h => ls_ne h) h
theorem asc_of_mem {l : List Br} (hr : RiseN l) {x : Br} (h : x ∈ l) : asc l x.1 = some x.2 := by
  induction l with
  | nil => simp at h
  | cons y l ih =>
    have hr' := List.pairwise_cons.1 hr
    rw [asc_cons]
    rcases List.mem_cons.1 h with e | e
    · rw [e, if_pos rfl]
    · rw [if_neg (fun q => ls_ne (hr'.1 x e) q)]; exact ih hr'.2 e
/-- The branches with one told anew. -/
def put1 (k : ByteArray) (o : Option (List Hash)) : List Br := match o with | some h => [(k, h)] | none => []
def ins : List Br → ByteArray → Option (List Hash) → List Br
  | [], k, o => put1 k o
  | x :: l, k, o => if lssB x.1 k = true then x :: ins l k o else if x.1 = k then put1 k o ++ l else put1 k o ++ x :: l
theorem put1_mem {k : ByteArray} {o : Option (List Hash)} {x : Br} (h : x ∈ put1 k o) : x.1 = k := by
  cases o with
  | none => simp [put1] at h
  | some hs => simp [put1] at h; rw [h]
theorem ins_mem {l : List Br} {k : ByteArray} {o : Option (List Hash)} {x : Br} (h : x ∈ ins l k o) : x.1 = k ∨ x ∈ l := by
  induction l with
  | nil => exact .inl (put1_mem h)
  | cons y l ih =>
    unfold ins at h
    split at h
    · rcases List.mem_cons.1 h with e | e
      · right; rw [e]; simp
      · rcases ih e with e | e
        · exact .inl e
        · right; simp [e]
    · split at h
      · rcases List.mem_append.1 h with e | e
        · exact .inl (put1_mem e)
        · right; simp [e]
      · rcases List.mem_append.1 h with e | e
        · exact .inl (put1_mem e)
        · exact .inr e
theorem rise_put1 {k : ByteArray} {o : Option (List Hash)} {l : List Br} (hr : RiseN l) (h : ∀ x ∈ l, lssB k x.1 = true) : RiseN (put1 k o ++ l) := by
  cases o with
  | none => exact hr
  | some hs => exact List.pairwise_cons.2 ⟨h, hr⟩
theorem rise_ins {l : List Br} (hr : RiseN l) (k : ByteArray) (o : Option (List Hash)) : RiseN (ins l k o) := by
  induction l with
  | nil => have := rise_put1 (k := k) (o := o) (l := []) .nil (by simp); rw [List.append_nil] at this; exact this
  | cons x l ih =>
    have hr' := List.pairwise_cons.1 hr
    unfold ins
    split
    · rename_i hx
      refine List.pairwise_cons.2 ⟨fun y hy => ?_, ih hr'.2⟩
      rcases ins_mem hy with e | e
      · rw [e]; exact hx
      · exact hr'.1 y e
    · rename_i hx
      split
      · rename_i e
        exact rise_put1 hr'.2 fun y hy => by rw [← e]; exact hr'.1 y hy
      · rename_i e
        have hk : lssB k x.1 = true := by
          rcases ls_total x.1 k with h | h | h
          · exact absurd h e
          · exact absurd h hx
          · exact h
        refine rise_put1 hr fun y hy => ?_
        rcases List.mem_cons.1 hy with q | q
        · rw [q]; exact hk
        · exact ls_trans hk (hr'.1 y q)
theorem asc_put1 (k z : ByteArray) (o : Option (List Hash)) (l : List Br) : asc (put1 k o ++ l) z = if z = k then (o.orElse fun _ => asc l z) else asc l z := by
  cases o with
  | none => simp [put1]
  | some h =>
    show asc ((k, h) :: l) z = _
    rw [asc_cons]
    by_cases e : z = k
    · rw [if_pos e.symm, if_pos e]; rfl
    · rw [if_neg (fun q => e q.symm), if_neg e]
theorem asc_ins {l : List Br} (hr : RiseN l) (k : ByteArray) (o : Option (List Hash)) (z : ByteArray) : mset (asc l) k o z = asc (ins l k o) z := by
  unfold mset
  induction l with
  | nil =>
    have := asc_put1 k z o []
    rw [List.append_nil] at this
    show _ = asc (put1 k o) z
    rw [this]
    by_cases e : z = k
    · rw [if_pos e, if_pos e]; cases o <;> rfl
    · rw [if_neg e, if_neg e]
  | cons x l ih =>
    have hr' := List.pairwise_cons.1 hr
    have ih := ih hr'.2
    unfold ins
    by_cases hx : lssB x.1 k = true
    · rw [if_pos hx, asc_cons, asc_cons, ← ih]
      by_cases e : z = k
      · rw [if_pos e, if_pos e, if_neg (fun q => ls_ne hx (q.trans e))]
      · rw [if_neg e, if_neg e]
    · rw [if_neg hx]
      by_cases e : x.1 = k
      · rw [if_pos e, asc_put1, asc_cons]
        have hn : asc l k = none := asc_lt fun y hy => by rw [← e]; exact hr'.1 y hy
        by_cases q : z = k
        · rw [if_pos q, if_pos q, q, hn]; cases o <;> rfl
        · rw [if_neg q, if_neg q, if_neg (fun h => q (h.symm.trans e))]
      · have hk : lssB k x.1 = true := by
          rcases ls_total x.1 k with h | h | h
          · exact absurd h e
          · exact absurd h hx
          · exact h
        rw [if_neg e, asc_put1]
        by_cases q : z = k
        · rw [if_pos q, if_pos q]
          have hn : asc (x :: l) z = none := asc_lt fun y hy => by
            rw [q]
            rcases List.mem_cons.1 hy with h | h
            · rw [h]; exact hk
            · exact ls_trans hk (hr'.1 y h)
          rw [hn]; cases o <;> rfl
        · rw [if_neg q, if_neg q]
/-- Rising branches are told by what they tell. -/
theorem riseN_ext : ∀ {l m : List Br}, RiseN l → RiseN m → (∀ x, x ∈ l ↔ x ∈ m) → l = m
  | [], [], _, _, _ => rfl
  | [], y :: _, _, _, h => by have := (h y).2 (by simp); simp at this
  | x :: _, [], _, _, h => by have := (h x).1 (by simp); simp at this
  | x :: l, y :: m, hl, hm, h => by
    have hl' := List.pairwise_cons.1 hl
    have hm' := List.pairwise_cons.1 hm
    have e : x = y := by
      rcases List.mem_cons.1 ((h x).1 (by simp)) with e | e
      · exact e
      · rcases List.mem_cons.1 ((h y).2 (by simp)) with q | q
        · exact q.symm
        · have h1 := hm'.1 x e
          have h2 := hl'.1 y q
          rw [ls_asymm h1] at h2; cases h2
    subst e
    congr 1
    refine riseN_ext hl'.2 hm'.2 fun z => ⟨fun hz => ?_, fun hz => ?_⟩
    · rcases List.mem_cons.1 ((h z).1 (by simp [hz])) with q | q
      · have h1 := hl'.1 z hz
        rw [q, ls_irrefl] at h1; cases h1
      · exact q
    · rcases List.mem_cons.1 ((h z).2 (by simp [hz])) with q | q
      · have h1 := hm'.1 z hz
        rw [q, ls_irrefl] at h1; cases h1
      · exact q
theorem count_len {l : List Br} (hr : RiseN l) {ks : List ByteArray} (hn : ks.Nodup) (hk : ∀ k, k ∈ ks ↔ asc l k ≠ none) : ks.length = l.length := by
  have h1 : ks.Perm (l.map (·.1)) := (List.perm_ext_iff_of_nodup hn hr.nodup).2 fun k => (hk k).trans asc_some
  have := h1.length_eq
  rwa [List.length_map] at this
/-- Where a name stands, or would. -/
def plc (l : List Br) (k : ByteArray) : Nat := (l.takeWhile fun x => lssB x.1 k).length
def isAt (l : List Br) (i : Nat) (k : ByteArray) : Prop := i < l.length ∧ (l.getD i default).1 = k
theorem plc_spec : ∀ (l : List Br) (k : ByteArray) (i : Nat), i ≤ l.length → (∀ j, j < i → lssB (l.getD j default).1 k = true) → (i < l.length → lssB (l.getD i default).1 k = false) → plc l k = i
  | [], k, i, hi, _, _ => by have : i = 0 := by simpa using hi
                             subst this; rfl
  | x :: l, k, 0, _, _, h2 => by
    have h2 := h2 (by simp)
    simp only [List.getD_cons_zero] at h2
    unfold plc
    rw [List.takeWhile_cons, h2]; rfl
  | x :: l, k, i + 1, hi, h1, h2 => by
    have h0 := h1 0 (by omega)
    simp only [List.getD_cons_zero] at h0
    have ih := plc_spec l k i (by simpa using hi) (fun j hj => by have := h1 (j + 1) (by omega); simpa using this) (fun hi => by have := h2 (by simpa using hi); simpa using this)
    unfold plc at ih ⊢
    rw [List.takeWhile_cons, h0]
    simp [ih]
theorem plc_le (l : List Br) (k : ByteArray) : plc l k ≤ l.length := (List.takeWhile_sublist _).length_le
theorem plc_cons (x : Br) (l : List Br) (k : ByteArray) : plc (x :: l) k = if lssB x.1 k = true then plc l k + 1 else 0 := by
  unfold plc
  rw [List.takeWhile_cons]
  by_cases h : lssB x.1 k = true
  · rw [if_pos h, if_pos h]; rfl
  · rw [if_neg h, if_neg h]; rfl
theorem isAt_iff {l : List Br} (hr : RiseN l) (k : ByteArray) : isAt l (plc l k) k ↔ asc l k ≠ none := by
  induction l with
  | nil => simp [isAt, asc_nil]
  | cons x l ih =>
    have hr' := List.pairwise_cons.1 hr
    have ih := ih hr'.2
    rw [plc_cons, asc_cons]
    by_cases hx : lssB x.1 k = true
    · rw [if_pos hx, if_neg (ls_ne hx), ← ih]
      unfold isAt
      simp
    · rw [if_neg hx]
      unfold isAt
      by_cases e : x.1 = k
      · rw [if_pos e]; simp [e]
      · rw [if_neg e]
        have hk : lssB k x.1 = true := by
          rcases ls_total x.1 k with h | h | h
          · exact absurd h e
          · exact absurd h hx
          · exact h
        have hn : asc l k = none := asc_lt fun y hy => ls_trans hk (hr'.1 y hy)
        rw [hn]; simp [e]
theorem asc_at {l : List Br} (hr : RiseN l) {k : ByteArray} (h : isAt l (plc l k) k) : asc l k = some (l.getD (plc l k) default).2 := by
  have hm : l.getD (plc l k) default ∈ l := by rw [List.getD_eq_getElem?_getD, List.getElem?_eq_getElem h.1]; exact List.getElem_mem _
  have := asc_of_mem hr hm
  rw [h.2] at this
  exact this
theorem ins_put {l : List Br} (k : ByteArray) (o : Option (List Hash)) (m : Nat) (hm : (isAt l (plc l k) k ∧ m = 1) ∨ (¬ isAt l (plc l k) k ∧ m = 0)) : l.take (plc l k) ++ put1 k o ++ l.drop (plc l k + m) = ins l k o := by
  induction l with
  | nil => simp [plc, ins]
  | cons x l ih =>
    rw [plc_cons] at hm ⊢
    unfold ins
    by_cases hx : lssB x.1 k = true
    · rw [if_pos hx] at hm ⊢
      rw [if_pos hx]
      have ih := ih (by
        unfold isAt at hm ⊢
        simpa using hm)
      rw [List.take_succ_cons, List.cons_append, List.cons_append, show plc l k + 1 + m = (plc l k + m) + 1 from by omega, List.drop_succ_cons, ih]
    · rw [if_neg hx] at hm ⊢
      rw [if_neg hx]
      unfold isAt at hm
      simp only [List.getD_cons_zero, List.length_cons] at hm
      by_cases e : x.1 = k
      · rw [if_pos e]
        have : m = 1 := by rcases hm with h | h; (· exact h.2); (· exact absurd ⟨Nat.succ_pos _, e⟩ h.1)
        subst this
        simp
      · rw [if_neg e]
        have : m = 0 := by rcases hm with h | h; (· exact absurd h.1.2 e); (· exact h.2)
        subst this
        simp
/-- Heads that may be. -/
def mayB (hs : List Hash) : Bool := decide (hs.length ≤ 16) && rising hs
/-- Calls, with their answers. -/
def brCreate (l : List Br) (k : ByteArray) (hs : List Hash) : List Br × Int :=
  if isName k = false then (l, 30) else if mayB hs = false then (l, 41) else if asc l k ≠ none then (l, 23) else if 64 ≤ l.length then (l, 21) else (ins l k (some hs), 0)
def brMove (l : List Br) (k : ByteArray) (hs : List Hash) : List Br × Int :=
  if asc l k = none then (l, 45) else if mayB hs = false then (l, 41) else (ins l k (some hs), 0)
def brDelete (l : List Br) (k : ByteArray) : List Br × Int := if asc l k = none then (l, 45) else (ins l k none, 0)
def brDo (l : List Br) (kind : Nat) (k : ByteArray) (hs : List Hash) : List Br × Int :=
  if kind % 4 ≤ 1 then brCreate l k hs else if kind % 4 = 2 then brMove l k hs else brDelete l k
def brHeads (l : List Br) (k : ByteArray) : List Hash × Int := match asc l k with | none => ([], 45) | some h => (h, 0)
theorem rise_create {l : List Br} (hr : RiseN l) (k : ByteArray) (hs : List Hash) : RiseN (brCreate l k hs).1 := by
  unfold brCreate
  repeat (split; (· exact hr))
  exact rise_ins hr _ _
theorem rise_move {l : List Br} (hr : RiseN l) (k : ByteArray) (hs : List Hash) : RiseN (brMove l k hs).1 := by
  unfold brMove
  repeat (split; (· exact hr))
  exact rise_ins hr _ _
theorem rise_delete {l : List Br} (hr : RiseN l) (k : ByteArray) : RiseN (brDelete l k).1 := by
  unfold brDelete
  split
  · exact hr
  · exact rise_ins hr _ _
theorem rise_do {l : List Br} (hr : RiseN l) (kind : Nat) (k : ByteArray) (hs : List Hash) : RiseN (brDo l kind k hs).1 := by
  unfold brDo
  split
  · exact rise_create hr _ _
  · split
    · exact rise_move hr _ _
    · exact rise_delete hr _
theorem ins_len_le (l : List Br) (k : ByteArray) (o : Option (List Hash)) : (ins l k o).length ≤ l.length + 1 := by
  induction l with
  | nil => cases o <;> simp [ins, put1]
  | cons x l ih =>
    unfold ins
    split
    · simp; omega
    · split <;> (cases o <;> simp [put1] <;> omega)
theorem ins_len_is {l : List Br} (hr : RiseN l) {k : ByteArray} (h : asc l k ≠ none) (o : Option (List Hash)) : (ins l k o).length ≤ l.length := by
  induction l with
  | nil => exact absurd rfl h
  | cons x l ih =>
    have hr' := List.pairwise_cons.1 hr
    unfold ins
    rw [asc_cons] at h
    split
    · rename_i hx
      rw [if_neg (ls_ne hx)] at h
      simp only [List.length_cons]
      have := ih hr'.2 h
      omega
    · split
      · cases o <;> simp [put1]
      · rename_i hx e
        rw [if_neg e] at h
        have hk : lssB k x.1 = true := by
          rcases ls_total x.1 k with h | h | h
          · exact absurd h e
          · exact absurd h hx
          · exact h
        exact absurd (asc_lt fun y hy => ls_trans hk (hr'.1 y hy)) h
theorem brDo_len {l : List Br} (hr : RiseN l) (hl : l.length ≤ 64) (kind : Nat) (k : ByteArray) (hs : List Hash) : (brDo l kind k hs).1.length ≤ 64 := by
  unfold brDo brCreate brMove brDelete
  repeat' split
  all_goals first
    | exact hl
    | (have := ins_len_le l k (some hs); simp only; omega)
    | (have := ins_len_is hr (k := k) (by assumption) (some hs); simp only; omega)
    | (have := ins_len_is hr (k := k) (by assumption) none; simp only; omega)
theorem ok_ins {l : List Br} (ho : ∀ x ∈ l, isName x.1 = true ∧ mayB x.2 = true) {k : ByteArray} {hs : List Hash} (hk : isName k = true) (hh : mayB hs = true) : ∀ x ∈ ins l k (some hs), isName x.1 = true ∧ mayB x.2 = true := by
  induction l with
  | nil => intro x hx; simp [ins, put1] at hx; rw [hx]; exact ⟨hk, hh⟩
  | cons y l ih =>
    have ih := ih fun x hx => ho x (by simp [hx])
    have hy := ho y (by simp)
    intro x hx
    unfold ins at hx
    split at hx
    · rcases List.mem_cons.1 hx with e | e
      · rw [e]; exact hy
      · exact ih x e
    · split at hx
      · rcases List.mem_append.1 hx with e | e
        · simp [put1] at e; rw [e]; exact ⟨hk, hh⟩
        · exact ho x (by simp [e])
      · rcases List.mem_append.1 hx with e | e
        · simp [put1] at e; rw [e]; exact ⟨hk, hh⟩
        · exact ho x e
theorem ok_del {l : List Br} (ho : ∀ x ∈ l, isName x.1 = true ∧ mayB x.2 = true) (k : ByteArray) : ∀ x ∈ ins l k none, isName x.1 = true ∧ mayB x.2 = true := by
  intro x hx
  have : ∀ {l : List Br}, x ∈ ins l k none → x ∈ l := by
    intro l
    induction l with
    | nil => intro h; simp [ins, put1] at h
    | cons y l ih =>
      intro h
      unfold ins at h
      split at h
      · rcases List.mem_cons.1 h with e | e
        · rw [e]; simp
        · simp [ih e]
      · split at h
        · simp [put1] at h; simp [h]
        · simpa [put1] using h
  exact ho x (this hx)
theorem isName_asc {l : List Br} (ho : ∀ x ∈ l, isName x.1 = true ∧ mayB x.2 = true) {k : ByteArray} {hs : List Hash} (h : asc l k = some hs) : isName k = true ∧ mayB hs = true := ho _ (asc_mem h)
theorem mayB_len {hs : List Hash} (h : mayB hs = true) : hs.length ≤ 16 := by unfold mayB at h; simp at h; exact h.1
end Go.Proofs.Eng
