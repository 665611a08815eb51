import Derived.Test.YtjbfgmkemideiaaM0
import Derived.Test.YtjbfgmkemideiaaF1
import Derived.Test.YtjbfgmkemideiaaS2
set_option linter.unusedVariables false
set_option linter.unusedSimpArgs false
namespace Go.Proofs.Eng
open Go.RowKit
/-! ### lists as sets -/
/-- The map that has the hashes of a list. -/
def inS (xs : List Hash) : Hash → Option Bool := fun h => if h ∈ xs then some true else none
theorem inS_get (xs : List Hash) (h : Hash) : (inS xs h).getD false = decide (h ∈ xs) := by
  unfold inS; by_cases e : h ∈ xs <;> simp [e]
theorem inS_some {xs : List Hash} {h : Hash} : inS xs h ≠ none ↔ h ∈ xs := by
  unfold inS; by_cases e : h ∈ xs <;> simp [e]
theorem inS_step {xs : List Hash} {k : Nat} (h : k < xs.length) (z : Hash) : mset (inS (xs.take k)) (xs.getD k default) (some true) z = inS (xs.take (k + 1)) z := by
  unfold mset inS
  rw [getD_take_succ h]
  by_cases e : z = xs.getD k default
  · rw [if_pos e, if_pos (by simp [e])]
  · rw [if_neg e]
    by_cases e2 : z ∈ xs.take k
    · rw [if_pos e2, if_pos (by simp [e2])]
    · rw [if_neg e2, if_neg (by simp only [List.mem_append, List.mem_singleton, not_or]; exact ⟨e2, e⟩)]
/-- The hashes of xs that are, or are not, in ys. -/
def sel (ys : List Hash) (inn : Bool) (xs : List Hash) : List Hash := xs.filter fun z => decide (decide (z ∈ ys) = inn)
theorem mem_sel {ys xs : List Hash} {inn : Bool} {z : Hash} : z ∈ sel ys inn xs ↔ z ∈ xs ∧ (z ∈ ys ↔ inn = true) := by
  unfold sel
  rw [List.mem_filter]
  cases inn <;> simp
theorem sel_snoc (ys : List Hash) (inn : Bool) (xs : List Hash) (a : Hash) : sel ys inn (xs ++ [a]) = if decide (a ∈ ys) = inn then sel ys inn xs ++ [a] else sel ys inn xs := by
  unfold sel
  rw [List.filter_append]
  by_cases e : decide (a ∈ ys) = inn
  · rw [if_pos e]; simp [e]
  · rw [if_neg e]; simp [e]
theorem sel_take {ys : List Hash} {inn : Bool} {xs : List Hash} {k : Nat} (h : k < xs.length) : sel ys inn (xs.take (k + 1)) = if decide (xs.getD k default ∈ ys) = inn then sel ys inn (xs.take k) ++ [xs.getD k default] else sel ys inn (xs.take k) := by
  rw [getD_take_succ h, sel_snoc]
theorem sel_len (ys : List Hash) (inn : Bool) (xs : List Hash) : (sel ys inn xs).length ≤ xs.length := List.length_filter_le _ _
theorem nodup_le : ∀ {xs ks : List Hash}, xs.Nodup → (∀ z ∈ xs, z ∈ ks) → xs.length ≤ ks.length
  | [], _, _, _ => by simp
  | x :: xs, ks, hn, hs => by
    have hn' := List.nodup_cons.1 hn
    have hx : x ∈ ks := hs x (by simp)
    have h1 := nodup_le (ks := ks.erase x) hn'.2 (fun z hz => (List.mem_erase_of_ne (fun e => hn'.1 (by rw [← e]; exact hz))).2 (hs z (by simp [hz])))
    rw [List.length_erase_of_mem hx] at h1
    have := List.length_pos_of_mem hx
    simp only [List.length_cons]
    omega
theorem srt_congr {xs ys : List Hash} (h : ∀ z, z ∈ xs ↔ z ∈ ys) : srt xs = srt ys := srt_eq (rise_srt xs) fun z => mem_srt.trans (h z)
theorem srtTo_srt (xs ys : List Hash) : srtTo (srt xs) ys = srt (xs ++ ys) := by unfold srtTo srt; rw [List.foldl_append]
theorem srt_snoc (xs : List Hash) (a : Hash) : wth (srt xs) a = srt (xs ++ [a]) := by unfold srt; rw [List.foldl_append]; rfl
theorem srt_self {xs : List Hash} (h : Rise xs) : srt xs = xs := (srt_eq h fun _ => Iff.rfl).symm
theorem srt_sel_all {ys xs vs : List Hash} {inn : Bool} (h1 : ∀ z ∈ vs, z ∈ xs) (h2 : ∀ z ∈ xs, z ∈ vs) : srt (sel ys inn vs) = srt (sel ys inn xs) :=
  srt_congr fun z => by rw [mem_sel, mem_sel]; exact ⟨fun h => ⟨h1 z h.1, h.2⟩, fun h => ⟨h2 z h.1, h.2⟩⟩
theorem Rise.nodup {xs : List Hash} (h : Rise xs) : xs.Nodup := List.Pairwise.imp (fun h e => hlt_ne h e) h
/-! ### the laws of sets -/
section
variable (a b c : List Hash)
theorem alg_u : srt (a ++ b) = srt (b ++ a) := srt_congr fun z => by simp only [List.mem_append]; exact Or.comm
theorem alg_m : srt (sel b true a) = srt (sel a true b) := srt_congr fun z => by simp only [mem_sel, iff_true]; exact And.comm
theorem alg_parts : srt (a ++ b) = srt (srt (srt (sel b false a) ++ srt (sel a false b)) ++ srt (sel b true a)) := srt_congr fun z => by
  simp only [List.mem_append, mem_srt, mem_sel]
  by_cases h1 : z ∈ a <;> by_cases h2 : z ∈ b <;> simp [h1, h2]
theorem alg_len : (srt (a ++ b)).length = (srt (sel b false a)).length + (srt (sel a false b)).length + (srt (sel b true a)).length := by
  have hd : ∀ {l m : List Hash}, l.Nodup → m.Nodup → (∀ z, z ∈ l → z ∈ m → False) → (l ++ m).Nodup := fun h1 h2 h => List.nodup_append.2 ⟨h1, h2, fun x hx y hy e => h x hx (by rw [e]; exact hy)⟩
  have h1 : (srt (sel b false a) ++ srt (sel a false b) ++ srt (sel b true a)).Nodup := by
    refine hd (hd (rise_srt _).nodup (rise_srt _).nodup ?_) (rise_srt _).nodup ?_
    · intro z; simp only [mem_srt, mem_sel]; intro h1 h2; exact absurd (h1.2.1 h2.1) (by simp)
    · intro z; simp only [List.mem_append, mem_srt, mem_sel]; rintro (h1 | h1) h2
      · exact absurd (h1.2.1 (h2.2.2 trivial)) (by simp)
      · exact absurd (h1.2.1 h2.1) (by simp)
  have hm : ∀ z, z ∈ srt (a ++ b) ↔ z ∈ srt (sel b false a) ++ srt (sel a false b) ++ srt (sel b true a) := fun z => by
    simp only [List.mem_append, mem_srt, mem_sel]
    by_cases h1 : z ∈ a <;> by_cases h2 : z ∈ b <;> simp [h1, h2]
  have l1 := nodup_le (rise_srt (a ++ b)).nodup (fun z hz => (hm z).1 hz)
  have l2 := nodup_le h1 (fun z hz => (hm z).2 hz)
  simp only [List.length_append] at l1 l2
  omega
theorem alg_minus : srt (sel (srt (a ++ b)) false c) = srt (sel b false (srt (sel a false c))) := srt_congr fun z => by
  simp only [mem_srt, mem_sel, List.mem_append]
  by_cases h1 : z ∈ a <;> by_cases h2 : z ∈ b <;> simp [h1, h2]
theorem alg_meet : srt (sel (srt (a ++ b)) true c) = srt (srt (sel a true c) ++ srt (sel b true c)) := srt_congr fun z => by
  simp only [mem_srt, mem_sel, List.mem_append]
  by_cases h1 : z ∈ a <;> by_cases h2 : z ∈ b <;> by_cases h3 : z ∈ c <;> simp [h1, h2, h3]
theorem srt_none {xs : List Hash} (h : ∀ z, z ∉ xs) : srt xs = [] := by
  have : xs = [] := List.eq_nil_iff_forall_not_mem.2 h
  rw [this]; rfl
theorem alg_x : (srt (sel b true (srt (sel b false a)))).length = 0 := by
  rw [srt_none fun z => ?_]; (· rfl)
  simp only [mem_srt, mem_sel]
  rintro ⟨⟨_, h1⟩, h2⟩
  exact absurd (h1.1 (h2.2 trivial)) (by simp)
theorem alg_y : (srt (sel a false (srt (sel b false a)))).length = 0 := by
  rw [srt_none fun z => ?_]; (· rfl)
  simp only [mem_srt, mem_sel]
  rintro ⟨⟨h0, _⟩, h2⟩
  exact absurd (h2.1 h0) (by simp)
end
end Go.Proofs.Eng
