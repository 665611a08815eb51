import Derived.Test.YtjbfgmkemideiaaS1
set_option linter.unusedVariables false
set_option linter.unusedSimpArgs false
namespace Go.Proofs.Eng
open Go.RowKit
/-! ### a rising list with one more; sorted lists -/
def wth : List Hash → Hash → List Hash
  | [], h => [h]
  | x :: l, h => if hlt x h = true then x :: wth l h else if x = h then x :: l else h :: x :: l
theorem mem_wth : ∀ (l : List Hash) (h z : Hash), z ∈ wth l h ↔ z ∈ l ∨ z = h
  | [], h, z => by simp [wth]
  | x :: l, h, z => by
    unfold wth
    split
    · rw [List.mem_cons, mem_wth l h z, List.mem_cons]
      constructor
      · rintro (h | h | h) <;> simp [h]
      · rintro ((h | h) | h) <;> simp [h]
    · split
      · rename_i e
        constructor
        · intro h; exact .inl h
        · rintro (h | h)
          · exact h
          · rw [h, ← e]; simp
      · simp only [List.mem_cons]
        constructor
        · rintro (h | h) <;> simp [h]
        · rintro (h | h) <;> simp [h]
theorem rise_wth : ∀ (l : List Hash) (h : Hash), Rise l → Rise (wth l h)
  | [], h, _ => by simp [wth]
  | x :: l, h, hr => by
    have hr' := List.pairwise_cons.1 hr
    unfold wth
    split
    · rename_i hx
      refine List.pairwise_cons.2 ⟨fun z hz => ?_, rise_wth l h hr'.2⟩
      rcases (mem_wth l h z).1 hz with e | e
      · exact hr'.1 z e
      · rw [e]; exact hx
    · split
      · exact hr
      · rename_i h1 h2
        have h3 : hlt h x = true := by
          rcases hlt_total x h with e | e | e
          · exact absurd e h2
          · exact absurd e h1
          · exact e
        refine List.pairwise_cons.2 ⟨fun z hz => ?_, hr⟩
        rcases List.mem_cons.1 hz with e | e
        · rw [e]; exact h3
        · exact hlt_trans h3 (hr'.1 z e)
theorem wth_len : ∀ (l : List Hash) (h : Hash), (wth l h).length ≤ l.length + 1
  | [], h => by simp [wth]
  | x :: l, h => by
    unfold wth
    split
    · have := wth_len l h; simp; omega
    · split <;> simp
def srtTo (acc : List Hash) (xs : List Hash) : List Hash := xs.foldl wth acc
def srt (xs : List Hash) : List Hash := xs.foldl wth []
theorem foldl_wth : ∀ (xs acc : List Hash), Rise acc → Rise (xs.foldl wth acc) ∧ (∀ z, z ∈ xs.foldl wth acc ↔ z ∈ acc ∨ z ∈ xs) ∧ (xs.foldl wth acc).length ≤ acc.length + xs.length
  | [], acc, h => ⟨h, fun z => by simp, by simp⟩
  | x :: xs, acc, h => by
    obtain ⟨h1, h2, h3⟩ := foldl_wth xs (wth acc x) (rise_wth acc x h)
    refine ⟨h1, fun z => ?_, ?_⟩
    · rw [List.foldl_cons, h2 z, mem_wth, List.mem_cons, or_assoc]
    · have := wth_len acc x; rw [List.foldl_cons, List.length_cons]; omega
theorem rise_srt (xs : List Hash) : Rise (srt xs) := (foldl_wth xs [] .nil).1
theorem mem_srt {xs : List Hash} {z : Hash} : z ∈ srt xs ↔ z ∈ xs := by unfold srt; have := (foldl_wth xs [] .nil).2.1 z; simpa using this
theorem srt_len (xs : List Hash) : (srt xs).length ≤ xs.length := by unfold srt; have := (foldl_wth xs [] .nil).2.2; simpa using this
theorem srt_eq {xs ys : List Hash} (h : Rise ys) (hm : ∀ z, z ∈ ys ↔ z ∈ xs) : ys = srt xs := rise_ext h (rise_srt xs) fun z => (hm z).trans mem_srt.symm
theorem mem_iff_getD {xs : List Hash} {z : Hash} : z ∈ xs ↔ ∃ i, i < xs.length ∧ xs.getD i default = z := by
  constructor
  · intro h
    obtain ⟨i, hi, e⟩ := List.mem_iff_getElem.1 h
    exact ⟨i, hi, by rw [List.getD_eq_getElem?_getD, List.getElem?_eq_getElem hi]; exact e⟩
  · rintro ⟨i, hi, e⟩; exact mem_of_getD hi e
theorem srt_cpt {xs ys : List Hash} {n : Nat} (hp : ys.Perm xs) (hs : Sorted ys) (hn : ys.length = n) : cpt ys n = srt xs := by
  subst hn
  obtain ⟨h1, h2⟩ := cpt_sorted hs ys.length (Nat.le_refl _)
  exact srt_eq h1 fun z => (h2 z).trans (mem_iff_getD.symm.trans hp.mem_iff)
theorem getD_take_succ {xs : List Hash} {k : Nat} (h : k < xs.length) : xs.take (k + 1) = xs.take k ++ [xs.getD k default] := by
  rw [List.take_succ_eq_append_getElem h, List.getD_eq_getElem?_getD, List.getElem?_eq_getElem h]; rfl
theorem srtTo_take {acc xs : List Hash} {k : Nat} (h : k < xs.length) : srtTo acc (xs.take (k + 1)) = wth (srtTo acc (xs.take k)) (xs.getD k default) := by
  unfold srtTo; rw [getD_take_succ h, List.foldl_append]; rfl
/-- With, as it is told by its place. -/
theorem wth_at : ∀ (l : List Hash) (h : Hash) (i : Nat), i ≤ l.length → (∀ j, j < i → hlt (l.getD j default) h = true) → (i < l.length → hlt (l.getD i default) h = false) →
    wth l h = if i < l.length ∧ l.getD i default = h then l else l.take i ++ h :: l.drop i
  | [], h, i, hi, _, _ => by
    have : i = 0 := by simpa using hi
    subst this
    simp [wth]
  | x :: l, h, 0, _, _, h2 => by
    have h2 := h2 (by simp)
    simp only [List.getD_cons_zero] at h2
    unfold wth
    rw [if_neg (by rw [h2]; simp)]
    simp
  | x :: l, h, i + 1, hi, h1, h2 => by
    have h0 := h1 0 (by omega)
    simp only [List.getD_cons_zero] at h0
    unfold wth
    rw [if_pos h0, wth_at l h i (by simpa using hi) (fun j hj => by have := h1 (j + 1) (by omega); simpa using this) (fun hi => by have := h2 (by simpa using hi); simpa using this)]
    simp only [List.length_cons, List.getD_cons_succ, Nat.add_lt_add_iff_right, List.take_succ_cons, List.drop_succ_cons]
    split <;> simp
/-! ### the hashes of the closed case -/
def hOne : Hash := ⟨1 :: List.replicate 31 0, by simp⟩
def hTwo : Hash := ⟨2 :: List.replicate 31 0, by simp⟩
theorem bdOne : Try.prog.built 35 [(0, .int .u8 1)] = some (hv hOne) := by kernel_rfl
theorem bdTwo : Try.prog.built 35 [(0, .int .u8 2)] = some (hv hTwo) := by kernel_rfl
theorem srt_awake : srt [hTwo, hOne, hTwo] = [hOne, hTwo] := by decide +kernel
end Go.Proofs.Eng
