import Derived.Test.YtjbfgmkemideiaaSort
import Derived.Shelf.SlSortCmp.NoneTotal
import Derived.Test.YtjbfgmkemideiaaS0
import Derived.Test.YtjbfgmkemideiaaA1
set_option linter.unusedVariables false
set_option linter.unusedSimpArgs false
namespace Go.Proofs.Eng
open Go.RowKit Go.Sort
theorem enters_hcmp : ∀ args w, (callFunc 91 args).run Try.prog w = .ok (.enter 91 args) w := enters_of Try.func91 (by kernel_rfl) rfl
theorem isAgg35 : ∀ w, (isAgg 35).run Try.prog w = .ok true w := Try.isAgg35
theorem sizeOf35 : ∀ w, (Go.sizeOf 35).run Try.prog w = .ok 32 w := Try.sizeOf35
/-- Sorted, none left out. -/
def Sorted (l : List Hash) : Prop := ∀ i j, i < j → j < l.length → hlt (l.getD j default) (l.getD i default) = false
theorem slices_SortFunc_hash (xs : List Hash) (B0 : Nat) (p : Option Addr) (n c : Nat) (w : World) (hO : Own kHash 35 0 B0 w p n c xs) (hs : n ≤ 4194304000) :
    Ret Try.prog 90 [.slice p n c, .func (.func 91) #[] #[]] w (fun v w' => ∃ ys, Own kHash 35 0 B0 w' p n c ys ∧ ys.Perm xs ∧ Sorted ys ∧ Mod B0 35 w w') := by
  rcases Nat.eq_zero_or_pos n with h0 | h0
  · subst h0
    have hx0 : xs = [] := List.eq_nil_of_length_eq_zero hO.len
    subst hx0
    refine ⟨Calls.mono (AnyF.slices_SortFunc_none Try.sortHash p c (.func (.func 91) #[] #[]) w) ?_⟩
    rintro e w' ⟨rfl, rfl⟩
    exact ⟨_, rfl, [], hO, .refl _, fun i j h1 h2 => by simp at h2, .refl _ _ _⟩
  · obtain ⟨g, cur, css, e1, h2, h3, _⟩ := hO.block h0
    subst e1
    have hlen := hO.len
    have hH := holds_of_own (h := hO) h0
    have hc := AnyQ.slices_SortFunc Try.sortHash 32 isAgg35 sizeOf35 hcs hcs_len hcs_one hcmp swo_hash 91 #[] g 0 c xs.toArray w enters_hcmp
      (cmpLays_of_ret (fun a b w => compare_any a b w) g 0 _ w) hH h3.lt (by simp [hlen]; omega)
    have hsz : xs.toArray.size = n := by simpa using hlen
    rw [hsz] at hc
    refine ⟨Calls.mono hc ?_⟩
    rintro e w' ⟨rfl, d', m, os, hp, hso, rfl⟩
    have hd : d'.size = n := by rw [hp.1, hsz]
    obtain ⟨ho', hm'⟩ := own_of_sort hO h0 m d' hd os
    refine ⟨_, rfl, d'.toList, ho', ?_, ?_, hm'⟩
    · have hpp := hp.2.2
      have e2 : d'.extract 0 n = d' := by rw [← hd]; simp
      have e3 : xs.toArray.extract 0 n = xs.toArray := by rw [← hsz]; simp
      rw [e2, e3] at hpp
      simpa using hpp
    · intro i j hij hj
      have hj' : j < n := by simpa [hd] using hj
      have := hso i j (Nat.zero_le _) hij hj'
      rw [ltOf_hcmp] at this
      rw [getElem!_pos d' j (by omega), getElem!_pos d' i (by omega)] at this
      have g1 : d'.toList.getD j default = d'[j]'(by omega) := by simp [List.getD_eq_getElem?_getD, show j < d'.size by omega]
      have g2 : d'.toList.getD i default = d'[i]'(by omega) := by simp [List.getD_eq_getElem?_getD, show i < d'.size by omega]
      rw [g1, g2]; exact this
end Go.Proofs.Eng
