import Derived.Test.YtjbfgmkemideiaaSort
import Derived.Shelf.SlSortCmp.NoneTotal
import Derived.Test.YtjbfgmkemideiaaS0
import Derived.Test.YtjbfgmkemideiaaC3
set_option linter.unusedVariables false
set_option linter.unusedSimpArgs false
namespace Go.Proofs.Eng
open Go.RowKit Go.Sort
/-! ### slices.SortFunc at branches: their cells -/
abbrev Raw := ByteArray × Option Addr × Nat × Nat
instance : Inhabited Raw := ⟨(ByteArray.empty, none, 0, 0)⟩
def encR (r : Raw) : List Value := [.string r.1, .slice r.2.1 r.2.2.1 r.2.2.2]
theorem encR_len (r : Raw) : (encR r).length = 2 := rfl
theorem encR_one (r : Raw) : ∀ v ∈ encR r, v.oneCell' = true := by
  intro v hv
  simp only [encR, List.mem_cons, List.not_mem_nil, or_false] at hv
  rcases hv with rfl | rfl <;> rfl
def kRaw : Kind Raw := .pure 2 encR encR_len encR_one
def rcmp (a b : Raw) : Int := cmpN a.1 b.1
theorem ltOf_rcmp (a b : Raw) : ltOf rcmp a b = lssB a.1 b.1 := by
  unfold ltOf rcmp cmpN
  by_cases h : lssB a.1 b.1 = true
  · simp [h]
  · simp [h]
theorem swo_raw : SWO (ltOf rcmp) where
  irrefl := fun x => by rw [ltOf_rcmp]; exact ls_irrefl _
  trans := fun x y z h k => by rw [ltOf_rcmp] at *; exact ls_trans h k
  ntrans := fun x y z h k => by
    rw [ltOf_rcmp] at *
    rcases ls_total x.1 z.1 with e | e | e
    · rw [e]; exact ls_irrefl _
    · rcases ls_total x.1 y.1 with e2 | e2 | e2
      · rw [← e2, e] at k; cases k
      · rw [e2] at h; cases h
      · have := ls_trans e2 e; rw [this] at k; cases k
    · exact ls_asymm e
theorem enters_rcmp : ∀ args w, (callFunc 104 args).run Try.prog w = .ok (.enter 104 args) w := enters_of Try.func104 (by kernel_rfl) rfl
def SortedR (l : List Raw) : Prop := ∀ i j, i < j → j < l.length → lssB (l.getD j default).1 (l.getD i default).1 = false
theorem slices_SortFunc_raw (xs : List Raw) (B0 : Nat) (p : Option Addr) (n c : Nat) (w : World) (hO : Own kRaw 81 0 B0 w p n c xs) (hs : n ≤ 4194304000) :
    Ret Try.prog 103 [.slice p n c, .func (.func 104) #[] #[]] w (fun v w' => ∃ ys, Own kRaw 81 0 B0 w' p n c ys ∧ ys.Perm xs ∧ SortedR ys ∧ Mod B0 81 w w') := by
  rcases Nat.eq_zero_or_pos n with h0 | h0
  · subst h0
    have hx0 : xs = [] := List.eq_nil_of_length_eq_zero hO.len
    subst hx0
    refine ⟨Calls.mono (AnyF.slices_SortFunc_none Try.sortBranch p c (.func (.func 104) #[] #[]) w) ?_⟩
    rintro e w' ⟨rfl, rfl⟩
    exact ⟨_, rfl, [], hO, .refl _, fun i j h1 h2 => by simp at h2, .refl _ _ _⟩
  · obtain ⟨g, cur, css, e1, h2, h3, _⟩ := hO.block h0
    subst e1
    have hlen := hO.len
    have hH := holds_of_own (h := hO) h0
    have hc := AnyQ.slices_SortFunc Try.sortBranch 2 Try.isAgg81 Try.sizeOf81 encR encR_len encR_one rcmp swo_raw 104 #[] g 0 c xs.toArray w enters_rcmp
      (cmpLays_of_ret (fun a b w => branch_List1 a.1 b.1 _ _ _ _ _ _ w) g 0 _ w) hH h3.lt (by simp [hlen]; omega)
    have hsz : xs.toArray.size = n := by simpa using hlen
    rw [hsz] at hc
    refine ⟨Calls.mono hc ?_⟩
    rintro e w' ⟨rfl, d', m, os, hp, hso, rfl⟩
    have hd : d'.size = n := by rw [hp.1, hsz]
    obtain ⟨ho', hm'⟩ := own_of_sort hO h0 m d' hd os
    refine ⟨_, rfl, d'.toList, ho', ?_, ?_, hm'⟩
    · have hpp := hp.2.2
      have e2 : d'.extract 0 n = d' := by rw [← hd]; simp
      have e3 : xs.toArray.extract 0 n = xs.toArray := by rw [← hsz]; simp
      rw [e2, e3] at hpp
      simpa using hpp
    · intro i j hij hj
      have hj' : j < n := by simpa [hd] using hj
      have := hso i j (Nat.zero_le _) hij hj'
      rw [ltOf_rcmp] at this
      rw [getElem!_pos d' j (by omega), getElem!_pos d' i (by omega)] at this
      have g1 : d'.toList.getD j default = d'[j]'(by omega) := by simp [List.getD_eq_getElem?_getD, show j < d'.size by omega]
      have g2 : d'.toList.getD i default = d'[i]'(by omega) := by simp [List.getD_eq_getElem?_getD, show i < d'.size by omega]
      rw [g1, g2]; exact this
/-- Branches and their cells. -/
def RelR (S : Nat → Prop) (w : World) : List Raw → List Br → Prop
  | [], [] => True
  | r :: rs, x :: l => (r.1 = x.1 ∧ SlS hcs 35 S w r.2.1 r.2.2.1 r.2.2.2 x.2) ∧ RelR S w rs l
  | _, _ => False
theorem RelR.perm {S : Nat → Prop} {w : World} {rs ss : List Raw} (hp : rs.Perm ss) : ∀ {l : List Br}, RelR S w rs l → ∃ m, RelR S w ss m ∧ m.Perm l := by
  induction hp with
  | nil => intro l h; exact ⟨l, h, .refl _⟩
  | cons r _ ih =>
    intro l h
    cases l with
    | nil => exact h.elim
    | cons x l =>
      obtain ⟨m, h1, h2⟩ := ih h.2
      exact ⟨x :: m, ⟨h.1, h1⟩, h2.cons x⟩
  | swap a b _ =>
    intro l h
    cases l with
    | nil => exact h.elim
    | cons x l =>
      cases l with
      | nil => exact h.2.elim
      | cons y l => exact ⟨y :: x :: l, ⟨h.2.1, h.1, h.2.2⟩, .swap _ _ _⟩
  | trans _ _ ih1 ih2 =>
    intro l h
    obtain ⟨m, h1, h2⟩ := ih1 h
    obtain ⟨m2, h3, h4⟩ := ih2 h1
    exact ⟨m2, h3, h4.trans h2⟩
theorem RelR.len {S : Nat → Prop} {w : World} : ∀ {rs : List Raw} {l : List Br}, RelR S w rs l → rs.length = l.length
  | [], [], _ => rfl
  | _ :: _, _ :: _, h => by simp [RelR.len h.2]
  | [], _ :: _, h => h.elim
  | _ :: _, [], h => h.elim
theorem RelR.name {S : Nat → Prop} {w : World} : ∀ {rs : List Raw} {l : List Br} (i : Nat), RelR S w rs l → i < l.length → (rs.getD i default).1 = (l.getD i default).1
  | _ :: _, _ :: _, 0, h, _ => h.1.1
  | _ :: rs, _ :: l, i + 1, h, hi => by simpa using RelR.name (rs := rs) (l := l) i h.2 (by simpa using hi)
  | [], [], _, _, hi => by simp at hi
  | [], _ :: _, _, h, _ => h.elim
  | _ :: _, [], _, h, _ => h.elim
theorem RelR.mod {S : Nat → Prop} {w w' : World} {B : Nat} (m : Mod B 81 w w') : ∀ {rs : List Raw} {l : List Br}, RelR S w rs l → RelR S w' rs l
  | [], [], _ => trivial
  | _ :: _, _ :: _, h => ⟨⟨h.1.1, h.1.2.mod m (Nat.zero_le _) (by decide)⟩, RelR.mod m h.2⟩
  | [], _ :: _, h => h.elim
  | _ :: _, [], h => h.elim
theorem raws_of {S : Nat → Prop} {w : World} : ∀ {l : List Br} {css : List (List Value)}, (kBr S).All 0 w l css → ∃ rs, css = rs.map encR ∧ RelR S w rs l
  | [], [], _ => ⟨[], rfl, trivial⟩
  | x :: l, c :: css, h => by
    obtain ⟨p, n, c1, rfl, hs⟩ := h.1
    obtain ⟨rs, rfl, hr⟩ := raws_of h.2
    exact ⟨(x.1, p, n, c1) :: rs, rfl, ⟨rfl, hs⟩, hr⟩
  | [], _ :: _, h => h.elim
  | _ :: _, [], h => h.elim
theorem of_raws {S : Nat → Prop} {w : World} : ∀ {rs : List Raw} {l : List Br}, RelR S w rs l → (kBr S).All 0 w l (rs.map encR)
  | [], [], _ => trivial
  | r :: _, x :: _, h => ⟨⟨r.2.1, r.2.2.1, r.2.2.2, by rw [← h.1.1]; rfl, h.1.2⟩, of_raws h.2⟩
  | [], _ :: _, h => h.elim
  | _ :: _, [], h => h.elim
theorem Own.raw {S : Nat → Prop} {e : TypeId} {B0 : Nat} {w : World} {p : Option Addr} {n c : Nat} {l : List Br} (h : Own (kBr S) e 0 B0 w p n c l) : ∃ rs, Own kRaw e 0 B0 w p n c rs ∧ RelR S w rs l := by
  obtain ⟨css, ha, ho⟩ := h.row
  obtain ⟨rs, rfl, hr⟩ := raws_of ha
  exact ⟨rs, ⟨by rw [hr.len]; exact h.len, rs.map encR, pure_all 0 w rs, ho⟩, hr⟩
theorem Own.ofRaw {S : Nat → Prop} {e : TypeId} {B0 : Nat} {w : World} {p : Option Addr} {n c : Nat} {rs : List Raw} {l : List Br} (h : Own kRaw e 0 B0 w p n c rs) (hr : RelR S w rs l) : Own (kBr S) e 0 B0 w p n c l := by
  obtain ⟨css, ha, ho⟩ := h.row
  have e1 : css = rs.map encR := all_pure ha
  subst e1
  exact ⟨by rw [← hr.len]; exact h.len, rs.map encR, of_raws hr, ho⟩
/-- What the table tells of a name. -/
def brOf (l : List Br) (k : ByteArray) : Br := (k, (asc l k).getD [])
/-- The sorted list of all names is the list of branches itself. -/
theorem sorted_brs {l m : List Br} {vs : List ByteArray} (hr : RiseN l) (hn : vs.Nodup) (hall : ∀ k, asc l k ≠ none → k ∈ vs) (hsub : ∀ k ∈ vs, asc l k ≠ none) (hp : m.Perm (vs.map (brOf l)))
    (hs : ∀ i j, i < j → j < m.length → lssB (m.getD j default).1 (m.getD i default).1 = false) : m = l := by
  have hmem : ∀ x, x ∈ vs.map (brOf l) ↔ x ∈ l := fun x => by
    rw [List.mem_map]
    constructor
    · rintro ⟨k, hk, rfl⟩
      obtain ⟨h0, hh⟩ := Option.ne_none_iff_exists'.1 (hsub k hk)
      unfold brOf
      rw [hh]
      exact asc_mem hh
    · intro hx
      have := asc_of_mem hr hx
      exact ⟨x.1, hall _ (by rw [this]; simp), by unfold brOf; rw [this]; rfl⟩
  have hnd : (m.map (·.1)).Nodup := by
    have : (m.map (·.1)).Perm vs := by
      have h1 := hp.map (·.1)
      rw [List.map_map] at h1
      have e : ((fun x : Br => x.1) ∘ brOf l) = id := rfl
      rw [e, List.map_id] at h1
      exact h1
    exact this.nodup_iff.2 hn
  have hrm : RiseN m := by
    refine List.pairwise_iff_getElem.2 fun i j hi hj hij => ?_
    have h1 := hs i j hij hj
    have eg : ∀ t (ht : t < m.length), m.getD t default = m[t] := fun t ht => by rw [List.getD_eq_getElem?_getD, List.getElem?_eq_getElem ht]; rfl
    rw [eg j hj, eg i hi] at h1
    rcases ls_total m[i].1 m[j].1 with q | q | q
    · exfalso
      have := nodup_get hnd (i := i) (j := j) (x := m[i].1) (by simp [hi]) (by simp [hj, q])
      omega
    · exact q
    · rw [q] at h1; cases h1
  exact riseN_ext hrm hr fun x => by rw [hp.mem_iff, hmem]
end Go.Proofs.Eng
