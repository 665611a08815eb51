import Derived.Test.YtphmpibmogbafaaKPP1
import Derived.Test.YtphmpibmogbafaaProg
import Derived.Shelf.SortM.SortNone
import Derived.Test.YtphmpibmogbafaaSort
/- Merged: QM PS QS PA QA PG QG RA RW T0 K1 T1 K2 T2 K3 SW T3 K4 T4 K5 T5 -/
section
set_option linter.unusedVariables false
set_option linter.unusedSimpArgs false
namespace Go.Proofs.Eng
open Go.RowKit
open Extern.Stop (cell)
def newD (most : Int) : DS := { most := (max 0 (min most 16777216)).toNat, l := [], steps := 0, left := -1, done := false, down := false }
theorem newD_ok (most : Int) : DOk (newD most) := ⟨.nil, Nat.zero_le _, Nat.zero_le _, by show (max 0 (min most 16777216)).toNat ≤ 16777216; omega, by show (-1 : Int) ≤ -1; omega, fun x hx => by cases hx⟩
theorem fls_none (S : Nat → Prop) (w : World) : Fls S w (fun _ => none) [] := ⟨fun _ _ => rfl, fun _ _ h => (by cases h), fun _ _ _ _ _ h => (by cases h)⟩
theorem new_dsk {w w' : World} {g r : Nat} {most : Int} (hB : Blk w' g #[.int .i64 (max 0 (min most 16777216)), .int .i64 0, .map (some r), .int .i64 0, .int .i64 (-1), .bool false, .bool false] tDisk) (hM : Mp kkStr vFile 0 w.heap.size w' r (fun _ => none)) (hg : w.heap.size ≤ g) (hX : Ext w w') : Dsk (grow (fun _ => False) w w') w' g (newD most) := by
  have e : max 0 (min most 16777216) = (((newD most).most : Nat) : Int) := by show _ = (((max 0 (min most 16777216)).toNat : Nat) : Int); omega
  rw [e] at hB
  exact ⟨r, _, hB, hM.lower (Nat.zero_le _), .inr ⟨hg, hB.lt⟩, .inr ⟨hM.low, hM.lt⟩, fls_none _ _⟩
theorem names_ext {l m : List ByteArray} (hl : l.Pairwise fun a b => lssB a b = true) (hm : m.Pairwise fun a b => lssB a b = true) (h : ∀ x, x ∈ l ↔ x ∈ m) : l = m := by
  have e := riseN_extA (α := Unit) (l := l.map fun x => (x, ())) (m := m.map fun x => (x, ())) (List.pairwise_map.2 hl) (List.pairwise_map.2 hm) fun x => by
    simp only [List.mem_map]
    constructor
    · rintro ⟨a, ha, rfl⟩; exact ⟨a, (h a).1 ha, rfl⟩
    · rintro ⟨a, ha, rfl⟩; exact ⟨a, (h a).2 ha, rfl⟩
  have := congrArg (List.map Prod.fst) e
  simpa [List.map_map, Function.comp_def] using this
theorem made_size (zs : Array Value) (n : Nat) : (madeCells zs n).size = n := by simp [madeCells]
section
variable {P : Program} {N : Nat} {f : Nat → Value} {w : World} {dst : Option Nat} {T ty0 : TypeId} {pos : String} {aft : Array Edge} {gd : Option (Nat × Bool)}
/-- A disk that is new. -/
theorem x_buildN {x y z : Operand} {z0 z1 z2 z3 z4 z5 z6 : Value} {k : Nat} {i : Int}
    (hP : placed P T = some (.agg #[z0, z1, z2, z3, z4, z5, z6], [(0, 1), (1, 1), (2, 1), (3, 1), (4, 1), (5, 1), (6, 1)])) (hx : ev N f x = .int .i64 i) (hy : ev N f y = .map (some k)) (hz : ev N f z = .int .i64 (-1)) :
    Ex P w N f ⟨dst, .build T #[(0, x), (2, y), (4, z)], ty0, pos, aft, gd⟩ (.agg #[.int .i64 i, z1, .map (some k), z3, .int .i64 (-1), z5, z6]) :=
  x_build (parts := [(0, x), (2, y), (4, z)]) (ps := [(0, .int .i64 i), (2, .map (some k)), (4, .int .i64 (-1))]) hP (by rw [← hx, ← hy, ← hz]; rfl) (by show Instr.fill _ #[z0, z1, z2, z3, z4, z5, z6] _ = _; simp [Instr.fill, Value.cells] <;> rfl)
end
end Go.Proofs.Eng
end
section
set_option linter.unusedVariables false
set_option linter.unusedSimpArgs false
namespace Go.Proofs.Eng
open Go.RowKit
/-! ### the power comes back -/
def pieceE (b : List UInt8) (a : Nat) : Nat := min (a - a % 16 + 16) b.length
def pieceT (b : List UInt8) (a : Nat) : List UInt8 → Nat
  | [] => 0
  | s :: _ => if s = 255 then pieceE b a - a else s.toNat % (pieceE b a - a + 1)
def pieces (b : List UInt8) : Nat → Nat → Nat → List UInt8 → List UInt8 → List UInt8 × Nat × List UInt8
  | 0, _, n, kept, st => (kept, n, st)
  | fu + 1, a, n, kept, st =>
    if a < b.length then pieces b fu (pieceE b a) (if 0 < pieceT b a st then a + pieceT b a st else n) (kept ++ (b.drop a).take (pieceT b a st) ++ List.replicate (pieceE b a - (a + pieceT b a st)) 0) st.tail
    else (kept, n, st)
theorem pieceE_gt {b : List UInt8} {a : Nat} (h : a < b.length) : a < pieceE b a ∧ pieceE b a ≤ b.length := by unfold pieceE; omega
theorem pieceT_le (b : List UInt8) (a : Nat) (st : List UInt8) : pieceT b a st ≤ pieceE b a - a := by
  cases st with
  | nil => exact Nat.zero_le _
  | cons s t =>
    show (if s = 255 then pieceE b a - a else s.toNat % (pieceE b a - a + 1)) ≤ _
    split
    · exact Nat.le_refl _
    · have := Nat.mod_lt s.toNat (show 0 < pieceE b a - a + 1 by omega); omega
theorem pieces_end {b : List UInt8} {fu a n : Nat} {kept st : List UInt8} (h : ¬ a < b.length) : pieces b fu a n kept st = (kept, n, st) := by
  cases fu with
  | zero => rfl
  | succ fu => exact if_neg h
theorem pieces_step {b : List UInt8} {fu a n : Nat} {kept st : List UInt8} (h : a < b.length) (hf : b.length - a < fu) : ∃ fu', b.length - pieceE b a < fu' ∧ pieces b fu a n kept st = pieces b fu' (pieceE b a) (if 0 < pieceT b a st then a + pieceT b a st else n) (kept ++ (b.drop a).take (pieceT b a st) ++ List.replicate (pieceE b a - (a + pieceT b a st)) 0) st.tail := by
  obtain ⟨h1, h2⟩ := pieceE_gt h
  cases fu with
  | zero => omega
  | succ fu => exact ⟨fu, by omega, if_pos h⟩
theorem kept_len {b : List UInt8} {a : Nat} {kept : List UInt8} (st : List UInt8) (h : a < b.length) (hk : kept.length = a) : (kept ++ (b.drop a).take (pieceT b a st) ++ List.replicate (pieceE b a - (a + pieceT b a st)) 0).length = pieceE b a := by
  obtain ⟨h1, h2⟩ := pieceE_gt h
  have h3 := pieceT_le b a st
  simp only [List.length_append, List.length_take, List.length_drop, List.length_replicate]
  omega
theorem pieces_ind {b : List UInt8} (Q : Nat → Nat → List UInt8 → List UInt8 → Prop) (hQ : ∀ a n kept st, a < b.length → kept.length = a → Q a n kept st → Q (pieceE b a) (if 0 < pieceT b a st then a + pieceT b a st else n) (kept ++ (b.drop a).take (pieceT b a st) ++ List.replicate (pieceE b a - (a + pieceT b a st)) 0) st.tail) :
    ∀ fu a n kept st, b.length - a < fu → kept.length = a → a ≤ b.length → Q a n kept st → Q b.length (pieces b fu a n kept st).2.1 (pieces b fu a n kept st).1 (pieces b fu a n kept st).2.2 ∧ (pieces b fu a n kept st).1.length = b.length
  | 0, a, n, kept, st, hf, hk, hl, h => by omega
  | fu + 1, a, n, kept, st, hf, hk, hl, h => by
    by_cases hlt : a < b.length
    · obtain ⟨h1, h2⟩ := pieceE_gt hlt
      have := pieces_ind Q hQ fu (pieceE b a) (if 0 < pieceT b a st then a + pieceT b a st else n) _ st.tail (by omega) (kept_len st hlt hk) h2 (hQ a n kept st hlt hk h)
      have e : pieces b (fu + 1) a n kept st = pieces b fu (pieceE b a) (if 0 < pieceT b a st then a + pieceT b a st else n) (kept ++ (b.drop a).take (pieceT b a st) ++ List.replicate (pieceE b a - (a + pieceT b a st)) 0) st.tail := if_pos hlt
      rw [e]; exact this
    · rw [pieces_end hlt]
      have : a = b.length := by omega
      subst this
      exact ⟨h, hk⟩
def wakeR (f : Fb) (st : List UInt8) : List UInt8 × Nat × List UInt8 := pieces f.1 (f.1.length + 1) f.2 f.2 (f.1.take f.2) st
def wakeF (f : Fb) (st : List UInt8) : Fb := ((wakeR f st).1.take (wakeR f st).2.1, (wakeR f st).2.1)
theorem wakeR_ok {f : Fb} (hf : f.2 ≤ f.1.length) (st : List UInt8) : (wakeR f st).2.1 ≤ (wakeR f st).1.length ∧ (wakeR f st).1.length = f.1.length := by
  have := pieces_ind (b := f.1) (fun a n kept _ => n ≤ a) (fun a n kept st h hk hn => by
    obtain ⟨h1, h2⟩ := pieceE_gt h
    have h3 := pieceT_le f.1 a st
    split <;> omega) (f.1.length + 1) f.2 f.2 (f.1.take f.2) st (by omega) (by simp; omega) hf (Nat.le_refl _)
  have h1 : (wakeR f st).2.1 ≤ f.1.length := this.1
  have h2 : (wakeR f st).1.length = f.1.length := this.2
  exact ⟨by omega, h2⟩
theorem wakeF_len {f : Fb} (hf : f.2 ≤ f.1.length) (st : List UInt8) : (wakeF f st).1.length = (wakeF f st).2 ∧ (wakeF f st).2 ≤ f.1.length := by
  obtain ⟨h1, h2⟩ := wakeR_ok hf st
  exact ⟨by show ((wakeR f st).1.take (wakeR f st).2.1).length = _; rw [List.length_take]; exact Nat.min_eq_left h1, by show (wakeR f st).2.1 ≤ _; omega⟩
def wakeL : List Fl → List UInt8 → List Fl × List UInt8
  | [], st => ([], st)
  | x :: l, st => ((x.1, wakeF x.2 st) :: (wakeL l (wakeR x.2 st).2.2).1, (wakeL l (wakeR x.2 st).2.2).2)
theorem wakeL_snoc : ∀ (l : List Fl) (x : Fl) (st : List UInt8), wakeL (l ++ [x]) st = ((wakeL l st).1 ++ [(x.1, wakeF x.2 (wakeL l st).2)], (wakeR x.2 (wakeL l st).2).2.2)
  | [], x, st => rfl
  | y :: l, x, st => by
    show (((y.1, wakeF y.2 st) :: (wakeL (l ++ [x]) _).1, (wakeL (l ++ [x]) _).2) : List Fl × List UInt8) = _
    rw [wakeL_snoc l x]
    rfl
theorem wakeL_names : ∀ (l : List Fl) (st : List UInt8), (wakeL l st).1.map (·.1) = l.map (·.1)
  | [], _ => rfl
  | x :: l, st => by show x.1 :: _ = x.1 :: _; rw [wakeL_names l]
theorem wakeL_len (l : List Fl) (st : List UInt8) : (wakeL l st).1.length = l.length := by
  have := congrArg List.length (wakeL_names l st); simpa using this
theorem rise_names {l m : List Fl} (h : RiseNA l) (e : m.map (·.1) = l.map (·.1)) : RiseNA m := by
  have h1 : (l.map (·.1)).Pairwise fun a b => lssB a b = true := List.pairwise_map.2 h
  rw [← e] at h1
  exact List.pairwise_map.1 h1
theorem wakeL_used : ∀ {l : List Fl} (h : ∀ x ∈ l, x.2.2 ≤ x.2.1.length) (st : List UInt8), usedL (wakeL l st).1 ≤ usedL l ∧ ∀ x ∈ (wakeL l st).1, x.2.1.length = x.2.2
  | [], _, _ => ⟨Nat.le_refl _, fun x hx => by cases hx⟩
  | x :: l, h, st => by
    obtain ⟨h1, h2⟩ := wakeL_used (l := l) (fun y hy => h y (by simp [hy])) (wakeR x.2 st).2.2
    obtain ⟨h3, h4⟩ := wakeF_len (h x (by simp)) st
    refine ⟨?_, fun y hy => ?_⟩
    · show usedL ((x.1, wakeF x.2 st) :: _) ≤ _
      rw [usedL_cons, usedL_cons]; show (wakeF x.2 st).1.length + _ ≤ _; omega
    · rcases List.mem_cons.1 hy with rfl | hy
      · exact h3
      · exact h2 y hy
def startD (D : DS) (st : List UInt8) : DS := { D with l := (wakeL D.l st).1, left := -1, done := false, down := false }
theorem start_ok {D : DS} (h : DOk D) (st : List UInt8) : DOk (startD D st) := by
  obtain ⟨h1, h2⟩ := wakeL_used h.safe st
  exact ⟨rise_names h.rise (wakeL_names D.l st), by show (wakeL D.l st).1.length ≤ 64; rw [wakeL_len]; exact h.few, by have := h.room; show usedL (wakeL D.l st).1 ≤ D.most; omega, h.most, by show (-1 : Int) ≤ -1; omega, fun x hx => by rw [h2 x hx]; exact Nat.le_refl _⟩
/-- A file that stands in the midst is turned. -/
theorem ins_mid {a : List Fl} {x : Fl} {b : List Fl} (h : RiseNA (a ++ x :: b)) (f : Fb) : insA (a ++ x :: b) x.1 (some f) = a ++ (x.1, f) :: b := by
  induction a with
  | nil =>
    show insA (x :: b) x.1 (some f) = _
    unfold insA
    rw [if_neg (by rw [ls_irrefl]; simp), if_pos rfl]; rfl
  | cons y a ih =>
    have h' := List.pairwise_cons.1 h
    show insA (y :: (a ++ x :: b)) x.1 (some f) = y :: (a ++ (x.1, f) :: b)
    unfold insA
    rw [if_pos (h'.1 x (by simp)), ih h'.2]
theorem asc_mid {a : List Fl} {x : Fl} {b : List Fl} (h : RiseNA (a ++ x :: b)) : ascA (a ++ x :: b) x.1 = some x.2 := asc_of_memA h (by simp)
/-- The list behind k names. -/
def midL (l : List Fl) (k : Nat) (st : List UInt8) : List Fl := (wakeL (l.take k) st).1 ++ l.drop k
theorem mid_names (l : List Fl) (k : Nat) (st : List UInt8) : (midL l k st).map (·.1) = l.map (·.1) := by
  unfold midL; rw [List.map_append, wakeL_names, ← List.map_append, List.take_append_drop]
theorem mid_end {l : List Fl} {k : Nat} (h : l.length ≤ k) (st : List UInt8) : midL l k st = (wakeL l st).1 := by unfold midL; rw [List.take_of_length_le h, List.drop_of_length_le h, List.append_nil]
theorem mid_step {l : List Fl} {k : Nat} (hk : k < l.length) (st : List UInt8) (x : Fl) (hx : l.getD k default = x) (hr : RiseNA l) :
    midL l k st = (wakeL (l.take k) st).1 ++ x :: l.drop (k + 1) ∧ ascA (midL l k st) x.1 = some x.2 ∧ insA (midL l k st) x.1 (some (wakeF x.2 (wakeL (l.take k) st).2)) = midL l (k + 1) st ∧
    (wakeL (l.take (k + 1)) st).2 = (wakeR x.2 (wakeL (l.take k) st).2).2.2 ∧ usedL (wakeL (l.take (k + 1)) st).1 = usedL (wakeL (l.take k) st).1 + (wakeF x.2 (wakeL (l.take k) st).2).1.length := by
  have hx' : l[k] = x := by rw [← hx, List.getD_eq_getElem?_getD, List.getElem?_eq_getElem hk, Option.getD_some]
  have hd : l.drop k = x :: l.drop (k + 1) := by rw [List.drop_eq_getElem_cons hk, hx']
  have ht : l.take (k + 1) = l.take k ++ [x] := by rw [List.take_add_one, List.getElem?_eq_getElem hk, hx']; rfl
  have e1 : midL l k st = (wakeL (l.take k) st).1 ++ x :: l.drop (k + 1) := by unfold midL; rw [hd]
  have hr1 : RiseNA ((wakeL (l.take k) st).1 ++ x :: l.drop (k + 1)) := by rw [← e1]; exact rise_names hr (mid_names l k st)
  refine ⟨e1, by rw [e1]; exact asc_mid hr1, ?_, by rw [ht, wakeL_snoc], ?_⟩
  · rw [e1, ins_mid hr1]
    unfold midL
    rw [ht, wakeL_snoc, List.append_assoc]; rfl
  · rw [ht, wakeL_snoc, usedL_append]; simp [usedL]
end Go.Proofs.Eng
end
section
set_option linter.unusedVariables false
set_option linter.unusedSimpArgs false
namespace Go.Proofs.Eng
open Go.RowKit
open Extern.Stop (cell)
/-! ### rows that lie without; what lies below -/
structure Out (S : Nat → Prop) (w : World) (p : Option Addr) (n c : Nat) (xs : List UInt8) : Prop where
  len : xs.length = n
  cap : n ≤ c
  fit : c ≤ 9223372036854775807
  row : Row w p (xs.map cell)
  out : xs ≠ [] → ¬ S (ab p)
namespace Out
variable {S S' : Nat → Prop} {E : List TypeId} {w w' : World} {p : Option Addr} {n c : Nat} {xs : List UInt8}
theorem modS (h : Out S w p n c xs) (m : ModS S E w w') : Out S w' p n c xs :=
  ⟨h.len, h.cap, h.fit, h.row.of_block fun hne => m.old _ (h.row.lt hne) (.inl (h.out (by intro e; rw [e] at hne; exact hne rfl))), h.out⟩
theorem sl (h : Out S w p n c xs) : Sl kByte fk w.heap.size w p n c xs :=
  ⟨h.len, h.cap, h.fit, _, byte_all _ w xs, by rw [flat_single]; exact ⟨h.row, fun hne => .inl (h.row.lt hne)⟩⟩
theorem ofSl {e : TypeId} {B : Nat} (h : Sl kByte e B w p n c xs) (ho : xs ≠ [] → ¬ S (ab p)) : Out S w p n c xs := by
  have hr := h.pureRow.row
  rw [flat_single] at hr
  exact ⟨h.len, h.cap, h.fit, hr, ho⟩
theorem nil (S : Nat → Prop) (w : World) : Out S w none 0 0 [] := ⟨rfl, Nat.le_refl _, by omega, Row.nil _ _, fun h => absurd rfl h⟩
theorem tail (h : Out S w p n c xs) (hn : 1 ≤ n) : Out S w (adw p c 1 1) (n - 1) (c - 1) xs.tail := by
  have hl := h.len
  have hc := h.cap
  have hf := h.fit
  have et : xs.tail = xs.drop 1 := by cases xs <;> rfl
  have hr : Row w (adw p c 1 1) (xs.tail.map cell) ∧ (xs.tail ≠ [] → ¬ S (ab (adw p c 1 1))) := by
    unfold adw
    by_cases e : c = 1
    · rw [if_pos e]
      have : xs.tail = [] := by rw [et]; exact List.eq_nil_of_length_eq_zero (by simp; omega)
      rw [this]; exact ⟨Row.nil _ _, fun h => absurd rfl h⟩
    · rw [if_neg e]
      have := h.row.drop 1
      rw [← List.map_drop, ← et] at this
      exact ⟨this, fun hne => by rw [ab_adv]; exact h.out (by intro e; rw [e] at hne; exact hne rfl)⟩
  exact ⟨by rw [et]; simp; omega, by omega, by omega, hr.1, hr.2⟩
end Out
theorem Sl.oneT {α : Type} {d : Kind α} {e t : TypeId} {r n c : Nat} {w w' : World} {p : Option Addr} {xs : List α} (h : Sl d e 0 w p n c xs) (m : One t r w w') (ht : t ∉ e :: d.E) : Sl d e 0 w' p n c xs :=
  h.keep fun k hk ho => m.old k hk fun q => by
    subst q
    rcases ho with ho | ⟨u, hu, e'⟩
    · omega
    · rw [m.was] at e'; injection e' with e'; subst e'; exact ht hu
theorem FB.modB {S : Nat → Prop} {w w' : World} {p : Option Addr} {n c B : Nat} {t : TypeId} {xs : List UInt8} (h : FB S w p n c xs) (m : Mod B t w w') (hlo : ∀ g, p = some ⟨g, 0, none⟩ → g < B) : FB S w' p n c xs := h.keep fun g hp hg => m.old g hg (.inl (hlo g hp))
theorem Fls.modB {S : Nat → Prop} {w w' : World} {μ : ByteArray → Option Raw} {l : List Fl} {B : Nat} {t : TypeId} (h : Fls S w μ l) (m : Mod B t w w') (hw : w.heap.size ≤ B) : Fls S w' μ l := h.keep fun k x hx xs hf => by
  obtain ⟨f, _, _, h3⟩ := h.yes k x hx
  exact hf.modB m fun g hp => by have := (h3.inS hp).2; omega
theorem OneR.mod {p : Option Addr} {w w' : World} {B n c : Nat} {xs : List UInt8} (m : OneR p w w') (hF : FB (fun j => B ≤ j) w p n c xs) : Mod B 5 w w' :=
  ⟨m.size, fun k hk ho => m.old k hk fun e => by
    have h1 := (hF.inS e).1
    have h2 := hF.tyOf e
    rcases ho with ho | ho
    · omega
    · exact ho h2, m.tys, m.drawn, m.os, m.tape, m.output⟩
/-- A row that is new stands apart from the rows of old. -/
theorem apart_new {S : Nat → Prop} {w : World} {μ : ByteArray → Option Raw} {l : List Fl} (h : Fls S w μ l) {S2 : Nat → Prop} {w2 : World} {q : Option Addr} {n c B : Nat} {xs : List UInt8} (hq : FB S2 w2 q n c xs) (hS : ∀ j, S2 j → B ≤ j) (hw : w.heap.size ≤ B) : ∀ k y, μ k = some y → Apart q y.1 := fun k y hy => by
  obtain ⟨f, _, _, h3⟩ := h.yes k y hy
  rcases hq.ok with ⟨h1, _⟩ | ⟨g, cur, h1, h2, _⟩
  · exact .inl h1
  · refine .inr (.inr fun e => ?_)
    rw [h1] at e
    have := (h3.inS e.symm).2
    have := hS g h2
    omega
theorem Lst.cast {P : Program} {ops : Array Oper} {Q : Exit → Act → World → Prop} {l : List Oper} {a a' : Act} {w : World} (e : a = a') (h : Lst P ops Q l a w) : Lst P ops Q l a' w := by subst e; exact h
theorem usedL_take (l : List Fl) (k : Nat) : usedL (l.take k) + usedL (l.drop k) = usedL l := by rw [← usedL_append, List.take_append_drop]
end Go.Proofs.Eng
end
section
set_option linter.unusedVariables false
set_option linter.unusedSimpArgs false
namespace Go.Proofs.Eng
open Go.RowKit
/-! ### disks of one file -/
theorem asc_one (k : ByteArray) (f : Fb) : ascF [(k, f)] k = some f := by show ascA [(k, f)] k = _; rw [asc_consA, if_pos rfl]
theorem ins_one (k : ByteArray) (f f' : Fb) : insA [(k, f)] k (some f') = [(k, f')] := ins_mid (a := []) (x := (k, f)) (b := []) (List.pairwise_singleton _ _) f'
theorem look_ok {D : DS} {ns : List ByteArray} (hn : ns.all namedD = true) (hd : D.down = false) : lookD D ns = 0 := by unfold lookD; rw [hn, hd]; rfl
theorem create_one {D : DS} {k : ByteArray} (hn : namedD k = true) (hd : D.down = false) (hl : D.l = []) (hL : D.left ≠ 0) : createD D k = ({ D with l := [(k, ([], 0))], left := max (-1) (D.left - 1), steps := D.steps + 1 }, 0) := by
  unfold createD
  rw [look_ok (by simp [hn]) hd, hl, if_neg (by simp), if_neg (fun h => h rfl), if_neg (by simp), stepD_go hL]
  rfl
theorem append_one {D : DS} {k : ByteArray} {f : Fb} (hn : namedD k = true) (hd : D.down = false) (hl : D.l = [(k, f)]) (hL : D.left ≠ 0) (p : List UInt8) (hr : f.1.length + p.length ≤ D.most) : appendD D k p = ({ D with l := [(k, (f.1 ++ p, f.2))], left := max (-1) (D.left - 1), steps := D.steps + 1 }, 0) := by
  unfold appendD getF
  have hu : usedL [(k, f)] = f.1.length := by simp [usedL]
  rw [look_ok (by simp [hn]) hd, hl, if_neg (by simp), asc_one, if_neg (by simp), hu, if_neg (by omega), ins_one, stepD_go hL]
  rfl
theorem sync_one {D : DS} {k : ByteArray} {f : Fb} (hn : namedD k = true) (hd : D.down = false) (hl : D.l = [(k, f)]) (hL : D.left ≠ 0) : syncD D k = ({ D with l := [(k, (f.1, f.1.length))], left := max (-1) (D.left - 1), steps := D.steps + 1 }, 0) := by
  unfold syncD getF
  rw [look_ok (by simp [hn]) hd, hl, if_neg (by simp), asc_one, if_neg (by simp), ins_one, stepD_go hL]
  rfl
theorem read_one {D : DS} {k : ByteArray} {f : Fb} (hn : namedD k = true) (hd : D.down = false) (hl : D.l = [(k, f)]) : readD D k = (f.1, 0) := by
  unfold readD getF
  rw [look_ok (by simp [hn]) hd, hl, if_neg (by simp), asc_one, if_neg (by simp)]
  rfl
/-! ### the law's own example -/
def kA : ByteArray := ⟨#[97]⟩
theorem named_a : namedD kA = true := by decide
def aw (n : Nat) (l : List Fl) : DS := { most := 9, l := l, steps := n, left := -1, done := false, down := false }
theorem aw0 : newD 9 = aw 0 [] := rfl
theorem aw1 : createD (aw 0 []) kA = (aw 1 [(kA, ([], 0))], 0) := create_one (D := aw 0 []) named_a rfl rfl (by decide)
theorem aw2 : appendD (aw 1 [(kA, ([], 0))]) kA [120, 121] = (aw 2 [(kA, ([120, 121], 0))], 0) := append_one (D := aw 1 [(kA, ([], 0))]) (f := ([], 0)) named_a rfl rfl (by decide) _ (by decide)
theorem aw3 : syncD (aw 2 [(kA, ([120, 121], 0))]) kA = (aw 3 [(kA, ([120, 121], 2))], 0) := sync_one (D := aw 2 [(kA, ([120, 121], 0))]) (f := ([120, 121], 0)) named_a rfl rfl (by decide)
theorem aw4 : appendD (aw 3 [(kA, ([120, 121], 2))]) kA [122] = (aw 4 [(kA, ([120, 121, 122], 2))], 0) := append_one (D := aw 3 [(kA, ([120, 121], 2))]) (f := ([120, 121], 2)) named_a rfl rfl (by decide) _ (by decide)
theorem aw5 : startD (aw 4 [(kA, ([120, 121, 122], 2))]) [] = aw 4 [(kA, ([120, 121], 2))] := rfl
theorem aw6 : readD (aw 4 [(kA, ([120, 121], 2))]) kA = ([120, 121], 0) := read_one (D := aw 4 [(kA, ([120, 121], 2))]) (f := ([120, 121], 2)) named_a rfl rfl
theorem aw_ok {n : Nat} {k : ByteArray} {f : Fb} (h1 : f.1.length ≤ 9) (h2 : f.2 ≤ f.1.length) : DOk (aw n [(k, f)]) := ⟨List.pairwise_singleton _ _, (by show 1 ≤ 64; omega), (by show usedL [(k, f)] ≤ 9; simpa [usedL] using h1), (by show 9 ≤ 16777216; omega), (by show (-1 : Int) ≤ -1; omega), fun x hx => by
  have hx : x ∈ [(k, f)] := hx
  simp only [List.mem_singleton] at hx; subst hx; exact h2⟩
end Go.Proofs.Eng
end
section
set_option linter.unusedVariables false
set_option linter.unusedSimpArgs false
namespace Go.Proofs.Eng
open Go.RowKit
open Extern.Stop (cell)
theorem Dsk.modB {S : Nat → Prop} {w w' : World} {g B : Nat} {D : DS} {t : TypeId} (h : Dsk S w g D) (m : Mod B t w w') (hw : w.heap.size ≤ B) : Dsk S w' g D := by
  obtain ⟨r, μ, h1, h2, h3, h4, h5⟩ := h.ex
  exact ⟨r, μ, (m.old g h1.lt (.inl (Nat.lt_of_lt_of_le h1.lt hw))).trans h1, h2.keep (fun hl => m.old r hl (.inl (Nat.lt_of_lt_of_le hl hw))) (fun j hj ho => ho.elim (fun h => by omega) fun ⟨u, hu, _⟩ => by simp [vFile] at hu), h3, h4, h5.modB m hw⟩
/-- All that has been made since a world. -/
def since (w : World) : Nat → Prop := fun j => w.heap.size ≤ j
theorem Dsk.all {S : Nat → Prop} {w w1 w' : World} {g : Nat} {D : DS} (h : Dsk (grow S w1 w') w' g D) (hS : ∀ j, S j → w.heap.size ≤ j) (hw : w.heap.size ≤ w1.heap.size) : Dsk (since w) w' g D :=
  h.mono fun k _ hk => hk.elim (hS k) fun h => Nat.le_trans hw h.1
theorem since_le (w : World) : ∀ j, since w j → w.heap.size ≤ j := fun _ h => h
theorem One.mod {t : TypeId} {r B : Nat} {w w' : World} (m : One t r w w') (hr : B ≤ r) : Mod B t w w' :=
  ⟨m.size, fun k hk ho => m.old k hk fun e => by
    subst e
    rcases ho with ho | ho
    · omega
    · exact ho m.was, fun k hk => by
    by_cases e : k = r
    · subst e; rw [m.now, m.was]
    · exact ty_of_heap (m.old k hk e), m.drawn, m.os, m.tape, m.output⟩
section
variable {P : Program} {ops : Array Oper} {Q : Exit → Act → World → Prop} {rest : List Oper} {n : Nat} {f : Nat → Value} {w : World}
variable {T e ty0 : TypeId} {x : Operand} {pos : String} {aft : Array Edge} {dst : Nat}
/-- '[]byte("..")' as it stands in the code: a row that is marked. -/
theorem o_convBB {g m c : Nat} {cs : Array Value} {t : TypeId} (hT : P.underlying T = some (.slice e)) (he : P.underlying e = some (.int .u8)) (hx : ev n f x = .slice (some ⟨g, 0, none⟩) m c) (hB : Blk w g cs t)
    (k : ∀ w', One t g w w' → (∀ p vs, Row w p vs → Row w' p vs) → Lst P ops Q rest (fr n (upd f dst (.slice (some ⟨g, 0, none⟩) m c))) w') :
    Lst P ops Q (⟨some dst, .convert T T x, ty0, pos, aft, none⟩ :: rest) (fr n f) w := by
  have hlt := hB.lt
  have hb : w.heap[g]? = some (.cells cs t (0, 0)) := hB
  have hg : ∀ k, (w.freeze ⟨g, cs.size, none⟩ 1).heap[k]? = if k = g then some (.cells cs t (cs.size, cs.size + 1)) else w.heap[k]? := fun k => by
    unfold World.freeze
    rw [if_neg (by decide)]
    simp only [Array.getElem?_modify]
    by_cases e1 : k = g
    · subst e1; rw [if_pos rfl, if_pos rfl, hb]; rfl
    · rw [if_neg (fun q => e1 q.symm), if_neg e1]
  refine l1 (w' := w.freeze ⟨g, cs.size, none⟩ 1) (v := .slice (some ⟨g, 0, none⟩) m c) ?_ (k _ ⟨?_, fun k hk hne => by rw [hg k, if_neg hne], hB.ty, ?_, ?_, ?_, ?_, ?_⟩ fun p vs h => ⟨h.adr, fun j v hv => ?_⟩)
  · simp only [execOp, hx]
    have hsh : w.shape? g = some (t, cs.size) := by unfold World.shape?; rw [hb]
    have : (convert T T (.slice (some ⟨g, 0, none⟩) m c)).run P w = .ok (.slice (some ⟨g, 0, none⟩) m c) (w.freeze ⟨g, cs.size, none⟩ 1) := by
      simp [convert, run_underlying hT, run_underlying he, markStringish, Sem.run_bind, shape, freeze, Sem.run, hsh]
    rw [Sem.run_bind, this]; rfl
  · unfold World.freeze; rw [if_neg (by decide)]; simp
  · unfold Eng.ty
    rw [hg g, if_pos rfl]
  · unfold World.freeze; rw [if_neg (by decide)]; exact Nat.le_refl _
  · unfold World.freeze; rw [if_neg (by decide)]
  · unfold World.freeze; rw [if_neg (by decide)]
  · unfold World.freeze; rw [if_neg (by decide)]
  · have h0 := h.at_ j v hv
    rw [← h0]
    unfold World.cell?
    rw [hg]
    by_cases e1 : ab p = g
    · rw [if_pos e1, e1, hb]
    · rw [if_neg e1]
end
theorem slx {e B : Nat} {w w' : World} {p : Option Addr} {n c : Nat} {xs : List UInt8} (h : Sl kByte e B w p n c xs) (hR : ∀ p vs, Row w p vs → Row w' p vs) : Sl kByte fk w'.heap.size w' p n c xs := by
  have hr := h.pureRow.row
  rw [flat_single] at hr
  exact (Out.sl (S := fun _ => False) ⟨h.len, h.cap, h.fit, hR _ _ hr, fun _ => id⟩)
end Go.Proofs.Eng
end
section
set_option linter.unusedVariables false
set_option linter.unusedSimpArgs false
namespace Go.Proofs.Eng
open Go.RowKit
/-! ### the acts of a law, played -/
structure DAct where
  k : UInt8
  nm : ByteArray
  now : ByteArray
  data : List UInt8
  n : Int
  done : Bool
instance : Inhabited DAct := ⟨⟨0, ByteArray.empty, ByteArray.empty, [], 0, false⟩⟩
def actD (D : DS) (a : DAct) : DS × Int :=
  if a.k.toNat % 9 = 0 then createD D a.nm else if a.k.toNat % 9 = 1 ∨ a.k.toNat % 9 = 2 then appendD D a.nm a.data else if a.k.toNat % 9 = 3 then syncD D a.nm
  else if a.k.toNat % 9 = 4 then renameD D a.nm a.now else if a.k.toNat % 9 = 5 then removeD D a.nm else if a.k.toNat % 9 = 6 then failD D a.n a.done
  else if a.k.toNat % 9 = 8 then cutD D a.nm a.n else (startD D a.data, 0)
def playD (D : DS) (l : List DAct) : DS := l.foldl (fun D a => (actD D a).1) D
theorem play_snoc (D : DS) (l : List DAct) (a : DAct) : playD D (l ++ [a]) = (actD (playD D l) a).1 := by unfold playD; rw [List.foldl_append]; rfl
theorem act0 {D : DS} {a : DAct} (h : (a.k.toNat : Int) % 9 = 0) : actD D a = createD D a.nm := if_pos (by omega)
theorem act1 {D : DS} {a : DAct} (h : (a.k.toNat : Int) % 9 = 1 ∨ (a.k.toNat : Int) % 9 = 2) : actD D a = appendD D a.nm a.data := by unfold actD; rw [if_neg (by omega), if_pos (by omega)]
theorem act3 {D : DS} {a : DAct} (h : (a.k.toNat : Int) % 9 = 3) : actD D a = syncD D a.nm := by unfold actD; rw [if_neg (by omega), if_neg (by omega), if_pos (by omega)]
theorem act4 {D : DS} {a : DAct} (h : (a.k.toNat : Int) % 9 = 4) : actD D a = renameD D a.nm a.now := by unfold actD; rw [if_neg (by omega), if_neg (by omega), if_neg (by omega), if_pos (by omega)]
theorem act5 {D : DS} {a : DAct} (h : (a.k.toNat : Int) % 9 = 5) : actD D a = removeD D a.nm := by unfold actD; rw [if_neg (by omega), if_neg (by omega), if_neg (by omega), if_neg (by omega), if_pos (by omega)]
theorem act6 {D : DS} {a : DAct} (h : (a.k.toNat : Int) % 9 = 6) : actD D a = failD D a.n a.done := by unfold actD; rw [if_neg (by omega), if_neg (by omega), if_neg (by omega), if_neg (by omega), if_neg (by omega), if_pos (by omega)]
theorem act8 {D : DS} {a : DAct} (h : (a.k.toNat : Int) % 9 = 8) : actD D a = cutD D a.nm a.n := by unfold actD; rw [if_neg (by omega), if_neg (by omega), if_neg (by omega), if_neg (by omega), if_neg (by omega), if_neg (by omega), if_pos (by omega)]
theorem act7 {D : DS} {a : DAct} (h : (a.k.toNat : Int) % 9 = 7) : actD D a = (startD D a.data, 0) := by unfold actD; rw [if_neg (by omega), if_neg (by omega), if_neg (by omega), if_neg (by omega), if_neg (by omega), if_neg (by omega), if_neg (by omega)]
structure Good (D : DS) (i : Nat) : Prop where
  ok : DOk D
  steps : D.steps ≤ i
  left : D.left ≤ 9223372036854775807
  names : ∀ x ∈ D.l, namedD x.1 = true
theorem good_step {D : DS} {i : Nat} (h : Good D i) {act : List Fl} {fa al : Bool} (hok : DOk (stepD D act fa al).1) (hn : ∀ x ∈ act, namedD x.1 = true) : Good (stepD D act fa al).1 (i + 1) := by
  have h1 := h.steps
  have h2 := h.left
  by_cases hl : D.left ≠ 0
  · rw [stepD_go hl] at hok ⊢
    exact ⟨hok, by show D.steps + 1 ≤ _; omega, by show max (-1) (D.left - 1) ≤ _; omega, hn⟩
  · cases hb : (fa && (al || D.done)) with
    | true => rw [stepD_act hl hb] at hok ⊢; exact ⟨hok, by show D.steps ≤ _; omega, by show (-1 : Int) ≤ _; omega, hn⟩
    | false => rw [stepD_no hl hb] at hok ⊢; exact ⟨hok, by show D.steps ≤ _; omega, by show (-1 : Int) ≤ _; omega, h.names⟩
theorem good_up {D : DS} {i : Nat} (h : Good D i) : Good D (i + 1) := ⟨h.ok, Nat.le_succ_of_le h.steps, h.left, h.names⟩
theorem names_ins {l : List Fl} {k : ByteArray} {o : Option Fb} (h : ∀ x ∈ l, namedD x.1 = true) (hk : namedD k = true) : ∀ x ∈ insA l k o, namedD x.1 = true := fun x hx => by
  rcases ins_memA hx with e | e
  · rw [e]; exact hk
  · exact h x e
theorem look0 {D : DS} {ns : List ByteArray} (h : ¬ lookD D ns ≠ 0) : ns.all namedD = true := by
  unfold lookD at h
  cases hn : ns.all namedD with
  | true => rfl
  | false => rw [if_pos hn] at h; exact absurd (by decide) h
theorem look1 {D : DS} {k : ByteArray} (h : ¬ lookD D [k] ≠ 0) : namedD k = true := by have := look0 h; simpa using this
theorem good_create {D : DS} {i : Nat} (h : Good D i) (k : ByteArray) : Good (createD D k).1 (i + 1) := by
  have ho := create_ok h.ok k
  unfold createD at ho ⊢
  split at ho
  · rename_i c; rw [if_pos c]; exact good_up h
  · rename_i c1
    rw [if_neg c1]
    split at ho
    · rename_i c; rw [if_pos c]; exact good_up h
    · rename_i c2
      rw [if_neg c2]
      split at ho
      · rename_i c; rw [if_pos c]; exact good_up h
      · rename_i c3; rw [if_neg c3]; exact good_step h ho (names_ins h.names (look1 c1))
theorem good_append {D : DS} {i : Nat} (h : Good D i) (k : ByteArray) (p : List UInt8) : Good (appendD D k p).1 (i + 1) := by
  have ho := append_ok h.ok k p
  unfold appendD at ho ⊢
  split at ho
  · rename_i c; rw [if_pos c]; exact good_up h
  · rename_i c1
    rw [if_neg c1]
    split at ho
    · rename_i c; rw [if_pos c]; exact good_up h
    · rename_i c2
      rw [if_neg c2]
      split at ho
      · rename_i c; rw [if_pos c]; exact good_up h
      · rename_i c3; rw [if_neg c3]; exact good_step h ho (names_ins h.names (look1 c1))
theorem good_sync {D : DS} {i : Nat} (h : Good D i) (k : ByteArray) : Good (syncD D k).1 (i + 1) := by
  have ho := sync_ok h.ok k
  unfold syncD at ho ⊢
  split at ho
  · rename_i c; rw [if_pos c]; exact good_up h
  · rename_i c1
    rw [if_neg c1]
    split at ho
    · rename_i c; rw [if_pos c]; exact good_up h
    · rename_i c2; rw [if_neg c2]; exact good_step h ho (names_ins h.names (look1 c1))
theorem good_remove {D : DS} {i : Nat} (h : Good D i) (k : ByteArray) : Good (removeD D k).1 (i + 1) := by
  have ho := remove_ok h.ok k
  unfold removeD at ho ⊢
  split at ho
  · rename_i c; rw [if_pos c]; exact good_up h
  · rename_i c1
    rw [if_neg c1]
    split at ho
    · rename_i c; rw [if_pos c]; exact good_up h
    · rename_i c2; rw [if_neg c2]; exact good_step h ho (names_ins h.names (look1 c1))
theorem good_rename {D : DS} {i : Nat} (h : Good D i) (old now : ByteArray) : Good (renameD D old now).1 (i + 1) := by
  have ho := rename_ok h.ok old now
  unfold renameD at ho ⊢
  split at ho
  · rename_i c; rw [if_pos c]; exact good_up h
  · rename_i c1
    rw [if_neg c1]
    split at ho
    · rename_i c; rw [if_pos c]; exact good_up h
    · rename_i c2
      rw [if_neg c2]
      have hn := look0 c1
      simp only [List.all_cons, List.all_nil, Bool.and_true, Bool.and_eq_true] at hn
      refine good_step h ho ?_
      unfold renL
      split
      · exact h.names
      · exact names_ins (names_ins h.names hn.2) hn.1
theorem good_cut {D : DS} {i : Nat} (h : Good D i) (k : ByteArray) (n : Int) : Good (cutD D k n).1 (i + 1) := by
  have ho := cut_ok h.ok k n
  unfold cutD at ho ⊢
  split at ho
  · rename_i c; rw [if_pos c]; exact good_up h
  · rename_i c1
    rw [if_neg c1]
    split at ho
    · rename_i c; rw [if_pos c]; exact good_up h
    · rename_i c2
      rw [if_neg c2]
      split at ho
      · rename_i c; rw [if_pos c]; exact good_up h
      · rename_i c3; rw [if_neg c3]; exact good_step h ho (names_ins h.names (look1 c1))
theorem good_fail {D : DS} {i : Nat} (h : Good D i) (n : Int) (b : Bool) (hn : n ≤ 9223372036854775807) : Good (failD D n b).1 (i + 1) := by
  have ho := fail_ok h.ok n b
  unfold failD at ho ⊢
  split at ho
  · rename_i c; rw [if_pos c]; exact good_up h
  · rename_i c1
    rw [if_neg c1]
    split at ho
    · rename_i c; rw [if_pos c]; exact good_up h
    · rename_i c2; rw [if_neg c2]; exact ⟨ho, by have := h.steps; show D.steps ≤ _; omega, hn, h.names⟩
theorem good_start {D : DS} {i : Nat} (h : Good D i) (st : List UInt8) : Good (startD D st) (i + 1) :=
  ⟨start_ok h.ok st, by have := h.steps; show D.steps ≤ _; omega, by show (-1 : Int) ≤ _; omega, fun x hx => by
    have hx' : x.1 ∈ ((wakeL D.l st).1).map (·.1) := List.mem_map.2 ⟨x, hx, rfl⟩
    rw [wakeL_names] at hx'
    obtain ⟨y, hy, e⟩ := List.mem_map.1 hx'
    rw [← e]; exact h.names y hy⟩
theorem good_act {D : DS} {i : Nat} (h : Good D i) (a : DAct) (hn : a.n ≤ 9223372036854775807) : Good (actD D a).1 (i + 1) := by
  unfold actD
  repeat' split
  · exact good_create h _
  · exact good_append h _ _
  · exact good_sync h _
  · exact good_rename h _ _
  · exact good_remove h _
  · exact good_fail h _ _ hn
  · exact good_cut h _ _
  · exact good_start h _
theorem good_new (most : Int) : Good (newD most) 0 := ⟨newD_ok most, Nat.le_refl _, by show (-1 : Int) ≤ _; omega, fun x hx => by cases hx⟩
theorem good_play {most : Int} : ∀ (l : List DAct) (D : DS) (i : Nat), Good D i → (∀ a ∈ l, a.n ≤ 9223372036854775807) → Good (playD D l) (i + l.length)
  | [], D, i, h, _ => h
  | a :: l, D, i, h, hn => by
    have := good_play (most := most) l (actD D a).1 (i + 1) (good_act h a (hn a (by simp))) (fun b hb => hn b (by simp [hb]))
    have e : i + (a :: l).length = i + 1 + l.length := by simp only [List.length_cons]; omega
    rw [e]; exact this
theorem named_size32 {k : ByteArray} (h : namedD k = true) : k.size ≤ 32 := by
  unfold namedD at h
  rw [Bool.and_eq_true] at h
  have := of_decide_eq_true h.1
  omega
end Go.Proofs.Eng
end
section
set_option linter.unusedVariables false
set_option linter.unusedSimpArgs false
namespace Go.Proofs.Eng
open Go.RowKit
open Extern.Stop (cell)
/-! ### bytes that lie below; the acts among the arguments -/
structure Lo (B : Nat) (w : World) (p : Option Addr) (n c : Nat) (xs : List UInt8) : Prop where
  len : xs.length = n
  cap : n ≤ c
  fit : c ≤ 9223372036854775807
  row : Row w p (xs.map cell)
  low : xs ≠ [] → ab p < B
namespace Lo
variable {B B' : Nat} {w w' : World} {p : Option Addr} {n c : Nat} {xs : List UInt8} {E : List TypeId}
theorem keep (h : Lo B w p n c xs) (hs : Same B E w w') : Lo B w' p n c xs :=
  ⟨h.len, h.cap, h.fit, h.row.of_block fun hne => hs _ (h.row.lt hne) (.inl (h.low (by intro e; rw [e] at hne; exact hne rfl))), h.low⟩
theorem mono (h : Lo B w p n c xs) (hB : B ≤ B') : Lo B' w p n c xs := ⟨h.len, h.cap, h.fit, h.row, fun hne => Nat.lt_of_lt_of_le (h.low hne) hB⟩
theorem sl (h : Lo B w p n c xs) (e : TypeId) : Sl kByte e B w p n c xs := ⟨h.len, h.cap, h.fit, _, byte_all _ w xs, by rw [flat_single]; exact ⟨h.row, fun hne => .inl (h.low (by intro e; rw [e] at hne; exact hne rfl))⟩⟩
theorem out (h : Lo B w p n c xs) {w0 : World} (hB : B ≤ w0.heap.size) : Out (since w0) w p n c xs := ⟨h.len, h.cap, h.fit, h.row, fun hne hs => by have := h.low hne; have : w0.heap.size ≤ ab p := hs; omega⟩
theorem ofSl {e : TypeId} (h : Sl kByte e B w p n c xs) (hB : w.heap.size ≤ B) : Lo B w p n c xs := by
  have hr := h.pureRow.row
  rw [flat_single] at hr
  exact ⟨h.len, h.cap, h.fit, hr, fun hne => Nat.lt_of_lt_of_le (hr.lt (by intro e; exact hne (List.map_eq_nil_iff.1 e))) hB⟩
end Lo
def kDA : Kind DAct where
  sz := 6
  E := []
  K := fun B w x cs => ∃ p n c, cs = [.int .u8 x.k.toNat, .string x.nm, .string x.now, .slice p n c, .int .i64 x.n, .bool x.done] ∧ Lo B w p n c x.data ∧ x.nm.size ≤ 9223372036854775807 ∧ x.now.size ≤ 9223372036854775807 ∧ -9223372036854775808 ≤ x.n ∧ x.n ≤ 9223372036854775807
  len := by rintro _ _ _ _ ⟨p, n, c, rfl, _⟩; rfl
  one := by
    rintro _ _ _ _ ⟨p, n, c, rfl, _⟩ v hv
    simp only [List.mem_cons, List.not_mem_nil, or_false] at hv
    rcases hv with rfl | rfl | rfl | rfl | rfl | rfl <;> rfl
  keep := fun hs ⟨p, n, c, h1, h2, h3⟩ => ⟨p, n, c, h1, h2.keep hs, h3⟩
  mono := fun hB ⟨p, n, c, h1, h2, h3⟩ => ⟨p, n, c, h1, h2.mono hB, h3⟩
theorem kDA_pos : 0 < kDA.sz := by decide
theorem Sl.daAt {e : TypeId} {B : Nat} {w : World} {p : Option Addr} {n c : Nat} {l : List DAct} (h : Sl kDA e B w p n c l) (i : Nat) (hi : i < n) : ∃ q m c1, w.rangeAt (ab p) (ao p + i * 6) [.int .u8 (l.getD i default).k.toNat, .string (l.getD i default).nm, .string (l.getD i default).now, .slice q m c1, .int .i64 (l.getD i default).n, .bool (l.getD i default).done] ∧
    Lo B w q m c1 (l.getD i default).data ∧ (l.getD i default).nm.size ≤ 9223372036854775807 ∧ (l.getD i default).now.size ≤ 9223372036854775807 ∧ -9223372036854775808 ≤ (l.getD i default).n ∧ (l.getD i default).n ≤ 9223372036854775807 := by
  obtain ⟨cs, ⟨q, m, c1, rfl, hs⟩, hr⟩ := h.get default i hi
  exact ⟨q, m, c1, hr, hs⟩
theorem da_mem {l : List DAct} {i n : Nat} (hl : l.length = n) (hi : i < n) : l.getD i default ∈ l := by
  rw [List.getD_eq_getElem?_getD, List.getElem?_eq_getElem (by omega)]
  exact List.getElem_mem _
theorem da_bound {e : TypeId} {B : Nat} {w : World} {p : Option Addr} {n c : Nat} {l : List DAct} (h : Sl kDA e B w p n c l) : ∀ a ∈ l, a.n ≤ 9223372036854775807 := fun a ha => by
  obtain ⟨i, hi, e⟩ := List.mem_iff_getElem.1 ha
  obtain ⟨q, m, c1, _, _, _, _, _, h5⟩ := h.daAt i (by rw [← h.len]; exact hi)
  rw [List.getD_eq_getElem?_getD, List.getElem?_eq_getElem hi, Option.getD_some, e] at h5
  exact h5
theorem take_da {l : List DAct} {k : Nat} (h : k < l.length) : l.take (k + 1) = l.take k ++ [l.getD k default] := by
  rw [List.take_add_one, List.getD_eq_getElem?_getD, List.getElem?_eq_getElem h]; rfl
theorem Dsk.one {S : Nat → Prop} {w w' : World} {g r : Nat} {t : TypeId} {D : DS} (h : Dsk S w g D) (m : One t r w w') (ht : t ∉ [tDisk, tMap, 5]) : Dsk S w' g D := by
  simp only [List.mem_cons, List.not_mem_nil, or_false, not_or] at ht
  obtain ⟨r', μ, h1, h2, h3, h4, h5⟩ := h.ex
  exact ⟨r', μ, h1.one m (fun e => ht.1 e.symm), h2.one m ht.2.1 rfl rfl, h3, h4, h5.one m ht.2.2⟩
end Go.Proofs.Eng
end
section
set_option linter.unusedVariables false
set_option linter.unusedSimpArgs false
namespace Go.Proofs.Eng
open Go.RowKit
open Go.ChangeShapes Go.WideShapes Go.ChangeAt Go.RowKit
section
variable {H : Type} {enc : TypeId × Value → H} {P : Program} {W : World}
end
section
variable {H : Type} {enc : TypeId × Value → H} {P : Program} {W : World}
end
end Go.Proofs.Eng
end
section
set_option linter.unusedVariables false
set_option linter.unusedSimpArgs false
namespace Go.Proofs.Eng
open Go.RowKit
open Go.ChangeShapes Go.WideShapes Go.ChangeAt Go.RowKit
section
variable {H : Type} {enc : TypeId × Value → H} {P : Program} {W : World} {α : Type}
/-- .. and what its weights say of it. -/
def OpensW (enc : TypeId × Value → H) (P : Program) (W : World) (d : Kind α) (e : TypeId) (φ : α → Prop) : Prop :=
  ∀ fuel cs x, DataW.trod enc P W 0 (fun _ => true) true fuel e cs = some x → ∃ y, d.K W.heap.size W y cs ∧ ((x.1.weights P e).all (· ≤ reachBytes) = true → φ y)
theorem weightsAll_mem {e : TypeId} {p : Nat → Bool} : ∀ {ds : List (DataW H)}, (DataW.weightsAll P e ds).all p = true → ∀ d ∈ ds, (d.weights P e).all p = true
  | [], _, _, h => by simp at h
  | d :: ds, hp, x, hx => by
    unfold DataW.weightsAll at hp
    rw [List.all_append, Bool.and_eq_true] at hp
    rcases List.mem_cons.1 hx with rfl | hx
    · exact hp.1
    · exact weightsAll_mem hp.2 x hx
theorem weight_head {t : TypeId} {ts : List TypeId} {ds : List (DataW H)} {d : DataW H} (h : (DataW.weightsEach P (t :: ts) (d :: ds)).all (· ≤ reachBytes) = true) : (d.weights P t).all (· ≤ reachBytes) = true := by
  unfold DataW.weightsEach at h
  rw [List.all_append, Bool.and_eq_true] at h
  exact h.1
theorem open_slW [Inhabited α] {d : Kind α} {t e : TypeId} {φ : α → Prop} (ht : P.underlying t = some (.slice e)) (hc : P.cellsOf e = d.sz) (hO : OpensW enc P W d e φ) {fuel : Nat} {cs : List Value} {x : DataW H × List MemPlace}
    (h : DataW.trod enc P W 0 (fun _ => true) true fuel t cs = some x) : ∃ p n c xs, cs = [.slice p n c] ∧ Sl d e W.heap.size W p n c xs ∧ c ≤ maxLen ∧ (x.1 = .nil ∧ n = 0 ∨ ∃ es rs, x.1 = .slice es rs ∧ es.length = n) ∧ ((x.1.weights P t).all (· ≤ reachBytes) = true → ∀ y ∈ xs, φ y) := by
  rcases Deep.open_slice ht h with ⟨h0, h1⟩ | ⟨a, len, cap, m, n, D, Pl, rfl, hb, hl, hm, hmm, rfl, hx⟩
  · exact ⟨none, 0, 0, [], h0, Sl.nil _ _ _ _ _ _ (by omega), by unfold maxLen; omega, .inl ⟨by rw [h1], rfl⟩, fun _ y hy => by simp at hy⟩
  · have hmm : m = cap := by simpa using hmm
    subst hmm
    rw [hc] at hx
    obtain ⟨C, hC⟩ := Deep.choose_lt (α := List Value) (n := len) (p := fun i cs' => W.cells? 0 (a.add (i * d.sz)) d.sz = some cs' ∧ DataW.trod enc P W 0 (fun _ => true) true n e cs' = some (D i, Pl i)) (fun i hi => hx i (by omega))
    obtain ⟨Y, hY⟩ := Deep.choose_lt (α := α) (n := len) (p := fun i y => d.K W.heap.size W y (C i) ∧ (((D i).weights P e).all (· ≤ reachBytes) = true → φ y)) (fun i hi => hO _ _ _ (hC i hi).2)
    have hfit : m ≤ 9223372036854775807 := by unfold maxLen at hm; omega
    have cell : ∀ j v, (((List.range len).map C).flatten)[j]? = some v → W.cell? (a.add j) = some v := by
      intro j v hv
      obtain ⟨hs, hi, hr⟩ := flat_inv len j v (fun i hi => d.len (hY i hi).1) hv
      obtain ⟨_, hlen, hcell⟩ := World.cells?_some (hC _ hi).1
      have := hcell (j % d.sz) (Nat.mod_lt _ hs)
      rw [hr] at this
      have e1 : j / d.sz * d.sz + j % d.sz = j := by have := Nat.div_add_mod j d.sz; rw [Nat.mul_comm] at this; omega
      rw [Addr.add_add, e1] at this
      exact this
    have plain : ((List.range len).map C).flatten ≠ [] → a = ⟨a.block, a.off, none⟩ := by
      intro hne
      cases hfl : ((List.range len).map C).flatten with
      | nil => exact absurd hfl hne
      | cons v r =>
        have := cell 0 v (by rw [hfl]; rfl)
        rw [add_nought] at this; exact cell_plain this
    refine ⟨some a, len, m, (List.range len).map Y, rfl, ⟨by simp, hl, hfit, (List.range len).map C, all_map _ (fun i hi => (hY i (by simpa using hi)).1), ?_⟩, hm, .inr ⟨_, _, rfl, by simp⟩, ?_⟩
    · refine ⟨⟨fun hne => congrArg some (plain hne), fun j v hv => ?_⟩, fun hne => ?_⟩
      · have hp := plain (by intro e; rw [e] at hv; simp at hv)
        have := cell j v hv
        show W.cell? ⟨a.block, a.off + j, none⟩ = some v
        rw [hp, Addr.add_mid] at this
        exact this
      · left
        cases hfl : ((List.range len).map C).flatten with
        | nil => exact absurd hfl hne
        | cons v r =>
          have := World.block_lt_of_cell? W _ (cell 0 v (by rw [hfl]; rfl))
          show a.block < W.heap.size
          have e2 : (a.add 0).block = a.block := by unfold Addr.add; split <;> rfl
          rw [e2] at this; exact this
    · intro hw y hy
      obtain ⟨i, hi, rfl⟩ := List.mem_map.1 hy
      have hi' : i < len := by simpa using hi
      refine (hY i hi').2 ?_
      unfold DataW.weights at hw
      rw [ht] at hw
      simp only [List.all_cons, List.all_append, Bool.and_eq_true] at hw
      exact weightsAll_mem hw.2.1 (D i) (List.mem_map.2 ⟨i, hi, rfl⟩)
theorem arg_slW [Inhabited α] {k : Kind α} {t e : TypeId} {r : Reach} {b0 : Nat} {v : Value} {d : DataW H} {ps : List MemPlace} {φ : α → Prop} (ht : P.underlying t = some (.slice e)) (hc : P.cellsOf e = k.sz) (hO : OpensW enc P W k e φ) (hval : Value.okWide P W r b0 t v)
    (h : DataW.Trod enc P W 0 (fun _ => true) true t v d ps) : ∃ p n c xs, v = .slice p n c ∧ Sl k e W.heap.size W p n c xs ∧ c ≤ maxLen ∧ (d = .nil ∧ n = 0 ∨ ∃ es rs, d = .slice es rs ∧ es.length = n) ∧ ((d.weights P t).all (· ≤ reachBytes) = true → ∀ y ∈ xs, φ y) := by
  obtain ⟨p, n, c, rfl⟩ := okWide_slice ht hval
  obtain ⟨fuel, hf⟩ := h
  obtain ⟨p', n', c', xs, h1, h2, h3, h4, h5⟩ := open_slW ht hc hO hf
  have h1 : [Value.slice p n c] = [.slice p' n' c'] := h1
  injection h1 with h1
  injection h1 with e1 e2 e3
  subst e1 e2 e3
  exact ⟨p, n, c, xs, rfl, h2, h3, h4, h5⟩
theorem len_of_weights {bs : Nat} {t e : TypeId} {d : DataW H} {n : Nat} (ht : P.underlying t = some (.slice e)) (hb : P.bytesOf e = bs) (h : (d.weights P t).all (· ≤ reachBytes) = true) (hd : d = .nil ∧ n = 0 ∨ ∃ es rs, d = .slice es rs ∧ es.length = n) : n * bs ≤ 140737488351232 := by
  rcases hd with ⟨_, rfl⟩ | ⟨es, rs, rfl, rfl⟩
  · omega
  · unfold DataW.weights at h
    rw [ht] at h
    simp only [List.all_cons, Bool.and_eq_true, decide_eq_true_eq, hb] at h
    have h2 : (es.length + rs.length) * bs ≤ 140737488351232 := h.1
    have : es.length * bs ≤ (es.length + rs.length) * bs := Nat.mul_le_mul_right _ (by omega)
    omega
/-- An act among the arguments. -/
theorem opensW_da {t el : TypeId} {f0 f1 f2 f3 f4 f5 : Field} (ht : P.underlying t = some (.struct #[f0, f1, f2, f3, f4, f5])) (h0 : P.underlying f0.type = some (.int .u8)) (h1 : P.underlying f1.type = some .string) (h2 : P.underlying f2.type = some .string) (h3 : P.underlying f3.type = some (.slice el)) (h4 : P.underlying f4.type = some (.int .i64)) (h5 : P.underlying f5.type = some .bool)
    (o0 : f0.offset = 0) (o1 : f1.offset = 1) (o2 : f2.offset = 2) (o3 : f3.offset = 3) (o4 : f4.offset = 4) (o5 : f5.offset = 5) (c0 : P.cellsOf f0.type = 1) (c1 : P.cellsOf f1.type = 1) (c2 : P.cellsOf f2.type = 1) (c3 : P.cellsOf f3.type = 1) (c4 : P.cellsOf f4.type = 1) (c5 : P.cellsOf f5.type = 1) (ct : P.cellsOf t = 6)
    (ce : P.cellsOf el = kByte.sz) (hb : P.bytesOf el = 1) (hO : Opens enc P W kByte el) : OpensW enc P W kDA t (fun y => y.data.length ≤ 140737488351232) := by
  intro fuel cs x h
  obtain ⟨xs, n, rfl, rfl, hlen, hxl, hx⟩ := DataW.trod_struct ht h
  rw [ct] at hlen
  match cs, hlen with
  | [b0, b1, b2, b3, b4, b5], _ =>
    have hx0 := hx 0 f0 rfl
    have hx1 := hx 1 f1 rfl
    have hx2 := hx 2 f2 rfl
    have hx3 := hx 3 f3 rfl
    have hx4 := hx 4 f4 rfl
    have hx5 := hx 5 f5 rfl
    rw [o0, c0] at hx0
    rw [o1, c1] at hx1
    rw [o2, c2] at hx2
    rw [o3, c3] at hx3
    rw [o4, c4] at hx4
    rw [o5, c5] at hx5
    have hxl : xs.length = 6 := hxl
    match xs, hxl with
    | [y0, y1, y2, y3, y4, y5], _ =>
      obtain ⟨k, e0, _, hkw⟩ := DataW.trod_int h0 hx0
      have q0 : b0 = .int .u8 k := by simpa using e0
      have hb8 : 0 ≤ k ∧ k ≤ 255 := by simpa [Lit.wf, IntKind.min, IntKind.max, IntKind.signed, IntKind.bits] using hkw
      obtain ⟨s1, e1, _, w1⟩ := DataW.trod_string h1 hx1
      have q1 : b1 = .string s1 := by simpa using e1
      obtain ⟨s2, e2, _, w2⟩ := DataW.trod_string h2 hx2
      have q2 : b2 = .string s2 := by simpa using e2
      obtain ⟨p, m, c, d, e3, w3, _, hd3⟩ := open_sl h3 ce hO hx3
      have q3 : b3 = .slice p m c := by simpa using e3
      obtain ⟨i, e4, _, w4⟩ := DataW.trod_int h4 hx4
      have q4 : b4 = .int .i64 i := by simpa using e4
      have hb64 : -9223372036854775808 ≤ i ∧ i ≤ 9223372036854775807 := by simpa [Lit.wf, IntKind.min, IntKind.max, IntKind.signed, IntKind.bits] using w4
      obtain ⟨b, e5, _⟩ := DataW.trod_bool h5 hx5
      have q5 : b5 = .bool b := by simpa using e5
      clear e0 e1 e2 e3 e4 e5
      subst q0 q1 q2 q3 q4 q5
      refine ⟨⟨UInt8.ofNat k.toNat, s1, s2, d, i, b⟩, ⟨p, m, c, ?_, Lo.ofSl w3 (Nat.le_refl _), ?_, ?_, hb64⟩, fun hwt => ?_⟩
      · have : ((UInt8.ofNat k.toNat).toNat : Int) = k := by simp; omega
        rw [this]
      · show s1.size ≤ _; unfold maxLen at w1; omega
      · show s2.size ≤ _; unfold maxLen at w2; omega
      · unfold DataW.weights at hwt
        rw [ht] at hwt
        have hwt' : (DataW.weightsEach P [f0.type, f1.type, f2.type, f3.type, f4.type, f5.type] [y0.1, y1.1, y2.1, y3.1, y4.1, y5.1]).all (· ≤ reachBytes) = true := hwt
        have := len_of_weights (bs := 1) h3 hb (weight_head (weight_tail (weight_tail (weight_tail hwt')))) hd3
        show d.length ≤ _
        rw [w3.len]; omega
end
end Go.Proofs.Eng
end
section
set_option linter.unusedVariables false
set_option linter.unusedSimpArgs false
set_option maxRecDepth 100000
set_option maxHeartbeats 4000000
namespace Go.Proofs.Eng
open Go.RowKit
open Extern.Stop (cell)
theorem mixed : Try.prog.follows .mixedOrders = true := by kernel_rfl
theorem fb60 : Try.f60.body.isNone = false := by kernel_rfl
theorem fn60 : (Try.f60.name == "runtime.NumGoroutine") = false := by kernel_rfl
theorem fo66_2 : fieldOf Try.prog 66 2 = some (64, 2) := by kernel_rfl
theorem fo66_3 : fieldOf Try.prog 66 3 = some (3, 3) := by kernel_rfl
theorem fo66_4 : fieldOf Try.prog 66 4 = some (3, 4) := by kernel_rfl
theorem fo66_5 : fieldOf Try.prog 66 5 = some (4, 5) := by kernel_rfl
theorem fo66_6 : fieldOf Try.prog 66 6 = some (4, 6) := by kernel_rfl
theorem sz3 : (Try.prog.info? 3).map (·.size) = some 1 := by kernel_rfl
theorem sz4 : (Try.prog.info? 4).map (·.size) = some 1 := by kernel_rfl
theorem sz64 : (Try.prog.info? 64).map (·.size) = some 1 := by kernel_rfl
theorem sz76 : (Try.prog.info? 76).map (·.size) = some 2 := by kernel_rfl
theorem sz9 : (Try.prog.info? 9).map (·.size) = some 1 := by kernel_rfl
theorem u23 : Try.prog.underlying 23 = some (.pointer 66) := by kernel_rfl
theorem u51 : Try.prog.underlying 51 = some (.slice 9) := by kernel_rfl
theorem u64 : Try.prog.underlying 64 = some (.map 9 76) := by kernel_rfl
theorem u9 : Try.prog.underlying 9 = some (.string) := by kernel_rfl
theorem un3 : (Try.prog.underlying 3).map TypeDesc.isRow = some false := by kernel_rfl
theorem un4 : (Try.prog.underlying 4).map TypeDesc.isRow = some false := by kernel_rfl
theorem un64 : (Try.prog.underlying 64).map TypeDesc.isRow = some false := by kernel_rfl
theorem un9 : (Try.prog.underlying 9).map TypeDesc.isRow = some false := by kernel_rfl
theorem zr76 : (Try.prog.info? 76).map (·.zero) = some (some (.agg #[.slice none 0 0, .int .i64 0])) := by kernel_rfl
end Go.Proofs.Eng
end
section
set_option linter.unusedVariables false
set_option linter.unusedSimpArgs false
set_option maxRecDepth 100000
set_option maxHeartbeats 4000000
namespace Go.Proofs.Eng
open Go.RowKit
open Extern.Stop (cell)
theorem disk_named (s : ByteArray) (w : World) (hs : s.size ≤ 9223372036854775807) :
    Ret Try.prog 60 [.string s] w (fun v w' => v = .bool (namedD s) ∧ Ext w w') := by
  have hX := Ext.refl w
  refine enter 28 _ Try.func60 rfl rfl (Nat.le_of_ble_eq_true rfl) rfl ?_
  refine c_seq ?_
  refine r_plain ?_
  refine p1 (x_assign (by conv => lhs; whnf)) ?_
  refine r_nil ?_
  refine t_n ?_
  refine c_seq ?_
  refine c_seq ?_
  have hWr1 := Ext.refl w
  refine c_cut (ι := Unit) [4, 5, 6, 7, 8, 9, 10, 11] (fun _ => [(11, .bool (decide (s.size = 0 ∨ 32 < s.size)))]) (fun _ w' => Ext w w') ?_ ?_
  · skip
    refine r_plain ?_
    refine p1 (x_move (by conv => lhs; whnf)) ?_
    refine p1 (x_len_str u9 rfl) ?_
    refine p1 (x_eql rfl rfl) ?_
    refine p1b (x_move (by conv => lhs; whnf)) (fun hb1_3 => ?_) (fun hb1_3 => ?_)
    · try simp only [decide_eq_true_eq, decide_eq_false_iff_not, Bool.not_eq_true, Bool.not_eq_false, Bool.not_eq_eq_eq_not, Bool.not_true, Bool.not_false, Int.not_lt, Int.not_le] at hb1_3
      refine g0 7 rfl (by first | exact .inl rfl | exact .inr rfl) ?_
      refine g0 7 rfl (by first | exact .inl rfl | exact .inr rfl) ?_
      refine g0 7 rfl (by first | exact .inl rfl | exact .inr rfl) ?_
      refine p1 (x_pick_t rfl (by conv => lhs; whnf)) ?_
      refine r_nil ?_
      refine t_n (At.mk () (by repeat (first | exact Agr.refl _ _ | exact Agr.hav _ _ _ | refine Agr.upd rfl ?_ | refine Agr.updR rfl ?_ | refine Agr.updL ?_ _ rfl | refine Agr.hav' rfl ?_)) ⟨congrArg Value.bool (by first | rfl | exact (decide_eq_true (by omega)).symm | exact (decide_eq_false (by omega)).symm | exact decide_eq_decide.2 (by omega) | (simp_all; done) | grind), trivial⟩ hWr1)
    · try simp only [decide_eq_true_eq, decide_eq_false_iff_not, Bool.not_eq_true, Bool.not_eq_false, Bool.not_eq_eq_eq_not, Bool.not_true, Bool.not_false, Int.not_lt, Int.not_le] at hb1_3
      refine g1 7 rfl rfl (x_move (by conv => lhs; whnf)) ?_
      refine g1 7 rfl rfl (x_len_str u9 rfl) ?_
      refine g1 7 rfl rfl (x_gtr rfl rfl) ?_
      refine p1 (x_pick_f rfl (by conv => lhs; whnf)) ?_
      refine r_nil ?_
      refine t_n (At.mk () (by repeat (first | exact Agr.refl _ _ | exact Agr.hav _ _ _ | refine Agr.upd rfl ?_ | refine Agr.updR rfl ?_ | refine Agr.updL ?_ _ rfl | refine Agr.hav' rfl ?_)) ⟨congrArg Value.bool (by first | rfl | exact (decide_eq_true (by omega)).symm | exact (decide_eq_false (by omega)).symm | exact decide_eq_decide.2 (by omega) | (simp_all; done) | grind), trivial⟩ hWr1)
  · rintro _ Gr1 w1 hE1
    have hX := hX.ext hE1
    refine t_n ?_
    first | refine c_dec rfl (fun hc11 => ?_) (fun hc11 => ?_) | refine c_if rfl (fun hc11 => ?_) (fun hc11 => ?_)
    · try simp only [decide_eq_true_eq, decide_eq_false_iff_not, Bool.not_eq_true, Bool.not_eq_false, Bool.not_eq_eq_eq_not, Bool.not_true, Bool.not_false, Int.not_lt, Int.not_le] at hc11
      have hp := named_size hc11
      refine c_seq ?_
      refine r_plain ?_
      refine p1 (x_assign (by conv => lhs; whnf)) ?_
      refine r_nil ?_
      refine t_n ?_
      refine c_ret ?_
      refine t_r ?_
      refine end1 rfl (by conv => lhs; whnf) ?_
      exact ⟨by rw [hp], hX⟩
    · try simp only [decide_eq_true_eq, decide_eq_false_iff_not, Bool.not_eq_true, Bool.not_eq_false, Bool.not_eq_eq_eq_not, Bool.not_true, Bool.not_false, Int.not_lt, Int.not_le] at hc11
      refine c_skip ?_
      refine t_n ?_
      refine c_seq ?_
      refine c_seq ?_
      refine r_plain ?_
      refine p1 (x_move (by conv => lhs; whnf)) ?_
      refine p1 (x_len_str u9 rfl) ?_
      refine p1 (x_move (by conv => lhs; whnf)) ?_
      refine r_nil ?_
      refine t_n ?_
      refine c_block ?_
      have hWL0 := Ext.refl w1
      refine c_loop (ι := Nat) [2, 3, 14, 15, 16, 17, 18, 19, 20, 21, 22, 23, 24, 25, 26, 27] (fun k => [(14, .int .i64 (k : Int))]) (fun k w' => Ext w1 w' ∧ (k ≤ s.size ∧ ∀ i, i < k → 33 ≤ (btAt s i).toNat ∧ (btAt s i).toNat ≤ 126)) (fun k => s.size - k) (0) ⟨rfl, trivial⟩ ⟨Ext.refl _, ⟨by omega, fun i hi => by omega⟩⟩ ?_
      rintro k GL0 w2 ⟨hE2, hk, hL⟩
      have hX := hX.ext hE2
      have hWL0 := hE2
      refine c_seq ?_
      refine r_plain ?_
      refine p1 (x_lss rfl rfl) ?_
      refine r_nil ?_
      refine t_n ?_
      refine c_seq ?_
      first | refine c_dec rfl (fun hc15 => ?_) (fun hc15 => ?_) | refine c_if rfl (fun hc15 => ?_) (fun hc15 => ?_)
      · try simp only [decide_eq_true_eq, decide_eq_false_iff_not, Bool.not_eq_true, Bool.not_eq_false, Bool.not_eq_eq_eq_not, Bool.not_true, Bool.not_false, Int.not_lt, Int.not_le] at hc15
        refine c_skip ?_
        refine t_n ?_
        refine c_seq ?_
        refine c_block ?_
        refine c_seq ?_
        refine r_plain ?_
        refine p1 (x_move (by conv => lhs; whnf)) ?_
        refine p1 (x_assign (by conv => lhs; whnf)) ?_
        refine r_nil ?_
        refine t_n ?_
        refine c_seq ?_
        have hWr6 := Ext.refl w2
        refine c_cut (ι := Unit) [17, 18, 19, 20, 21, 22, 23, 24, 25, 26] (fun _ => [(26, .bool (decide (((btAt s k).toNat : Int) < 33 ∨ 126 < ((btAt s k).toNat : Int))))]) (fun _ w' => Ext w2 w') ?_ ?_
        · skip
          refine r_plain ?_
          refine p1 (x_move (by conv => lhs; whnf)) ?_
          refine p1 (x_move (by conv => lhs; whnf)) ?_
          refine p1 (x_ixstr0 u9 rfl rfl (by omega)) ?_
          refine p1 (x_lss rfl rfl) ?_
          refine p1b (x_move (by conv => lhs; whnf)) (fun hb6_4 => ?_) (fun hb6_4 => ?_)
          · try simp only [decide_eq_true_eq, decide_eq_false_iff_not, Bool.not_eq_true, Bool.not_eq_false, Bool.not_eq_eq_eq_not, Bool.not_true, Bool.not_false, Int.not_lt, Int.not_le] at hb6_4
            refine g0 21 rfl (by first | exact .inl rfl | exact .inr rfl) ?_
            refine g0 21 rfl (by first | exact .inl rfl | exact .inr rfl) ?_
            refine g0 21 rfl (by first | exact .inl rfl | exact .inr rfl) ?_
            refine g0 21 rfl (by first | exact .inl rfl | exact .inr rfl) ?_
            refine p1 (x_pick_t rfl (by conv => lhs; whnf)) ?_
            refine r_nil ?_
            refine t_n (At.mk () (by repeat (first | exact Agr.refl _ _ | exact Agr.hav _ _ _ | refine Agr.upd rfl ?_ | refine Agr.updR rfl ?_ | refine Agr.updL ?_ _ rfl | refine Agr.hav' rfl ?_)) ⟨congrArg Value.bool (by first | rfl | exact (decide_eq_true (by omega)).symm | exact (decide_eq_false (by omega)).symm | exact decide_eq_decide.2 (by omega) | (simp_all; done) | grind), trivial⟩ hWr6)
          · try simp only [decide_eq_true_eq, decide_eq_false_iff_not, Bool.not_eq_true, Bool.not_eq_false, Bool.not_eq_eq_eq_not, Bool.not_true, Bool.not_false, Int.not_lt, Int.not_le] at hb6_4
            refine g1 21 rfl rfl (x_move (by conv => lhs; whnf)) ?_
            refine g1 21 rfl rfl (x_move (by conv => lhs; whnf)) ?_
            refine g1 21 rfl rfl (x_ixstr0 u9 rfl rfl (by omega)) ?_
            refine g1 21 rfl rfl (x_gtr rfl rfl) ?_
            refine p1 (x_pick_f rfl (by conv => lhs; whnf)) ?_
            refine r_nil ?_
            refine t_n (At.mk () (by repeat (first | exact Agr.refl _ _ | exact Agr.hav _ _ _ | refine Agr.upd rfl ?_ | refine Agr.updR rfl ?_ | refine Agr.updL ?_ _ rfl | refine Agr.hav' rfl ?_)) ⟨congrArg Value.bool (by first | rfl | exact (decide_eq_true (by omega)).symm | exact (decide_eq_false (by omega)).symm | exact decide_eq_decide.2 (by omega) | (simp_all; done) | grind), trivial⟩ hWr6)
        · rintro _ Gr6 w3 hE3
          have hX := hX.ext hE3
          have hWL0 := hWL0.ext hE3
          refine t_n ?_
          first | refine c_dec rfl (fun hc26 => ?_) (fun hc26 => ?_) | refine c_if rfl (fun hc26 => ?_) (fun hc26 => ?_)
          · try simp only [decide_eq_true_eq, decide_eq_false_iff_not, Bool.not_eq_true, Bool.not_eq_false, Bool.not_eq_eq_eq_not, Bool.not_true, Bool.not_false, Int.not_lt, Int.not_le] at hc26
            have hp : namedD s = false := named_not (i := k) (by omega) (by omega)
            refine c_seq ?_
            refine r_plain ?_
            refine p1 (x_assign (by conv => lhs; whnf)) ?_
            refine r_nil ?_
            refine t_n ?_
            refine c_ret ?_
            refine b_r ?_
            refine t_r ?_
            refine t_r ?_
            refine b_r ?_
            refine t_r ?_
            refine end1 rfl (by conv => lhs; whnf) ?_
            exact ⟨by rw [hp], hX⟩
          · try simp only [decide_eq_true_eq, decide_eq_false_iff_not, Bool.not_eq_true, Bool.not_eq_false, Bool.not_eq_eq_eq_not, Bool.not_true, Bool.not_false, Int.not_lt, Int.not_le] at hc26
            refine c_skip ?_
            refine b_n ?_
            refine t_n ?_
            refine r_plain ?_
            refine p1 (x_add rfl rfl (fits_i64 (by omega) (by omega))) ?_
            refine p1 (x_move (by conv => lhs; whnf)) ?_
            refine r_nil ?_
            refine t_n (At.mk (k + 1) (by repeat (first | exact Agr.refl _ _ | exact Agr.hav _ _ _ | refine Agr.upd rfl ?_ | refine Agr.updR rfl ?_ | refine Agr.updL ?_ _ rfl | refine Agr.hav' rfl ?_)) ⟨rfl, trivial⟩ ?_)
            exact ⟨⟨hWL0, ⟨by omega, fun i hi => if h : i < k then hL i h else by rw [show i = k from by omega]; omega⟩⟩, by first | (dsimp only; omega) | ((show _ < _); omega)⟩
      · try simp only [decide_eq_true_eq, decide_eq_false_iff_not, Bool.not_eq_true, Bool.not_eq_false, Bool.not_eq_eq_eq_not, Bool.not_true, Bool.not_false, Int.not_lt, Int.not_le] at hc15
        have hp : namedD s = true := named_good (by omega) (fun i hi => hL i (by omega))
        refine c_exit ?_
        refine t_e ?_
        refine t_e ?_
        refine b_hit ?_
        refine t_n ?_
        refine c_seq ?_
        refine r_plain ?_
        refine p1 (x_assign (by conv => lhs; whnf)) ?_
        refine r_nil ?_
        refine t_n ?_
        refine c_ret ?_
        refine end1 rfl (by conv => lhs; whnf) ?_
        exact ⟨by rw [hp], hX⟩
theorem disk_look (g : Nat) (S : Nat → Prop) (D : DS) (w : World) (hD : Dsk S w g D) (ns : List ByteArray) (B : Nat) (p : Option Addr) (n c : Nat) (hl : Sl kStr 9 B w p n c ns) (hs : ∀ s ∈ ns, s.size ≤ 9223372036854775807) :
    Ret Try.prog 41 [.pointer (some ⟨g, 0, none⟩), .slice p n c] w (fun v w' => v = .int .i64 (lookD D ns) ∧ Ext w w') := by
  obtain ⟨r, μ, hB, hM, hSg, hSr, hF⟩ := hD.ex
  have hX := Ext.refl w
  refine enter 23 _ Try.func41 rfl rfl (Nat.le_of_ble_eq_true rfl) rfl ?_
  refine c_seq ?_
  refine r_plain ?_
  refine p1 (x_assign (by conv => lhs; whnf)) ?_
  refine r_nil ?_
  refine t_n ?_
  refine c_seq ?_
  refine c_seq ?_
  refine r_plain ?_
  refine p1 (x_move (by conv => lhs; whnf)) ?_
  refine p1 ((x_eql_ptrnil u23 rfl rfl).cast (congrArg _ (decide_eq_false (by simp)))) ?_
  refine r_nil ?_
  refine t_n ?_
  refine c_f rfl ?_
  refine c_skip ?_
  refine t_n ?_
  refine c_seq ?_
  refine c_seq ?_
  refine r_plain ?_
  refine p1 (x_move (by conv => lhs; whnf)) ?_
  refine p1 (x_len_slice u51 rfl) ?_
  refine p1 (x_move (by conv => lhs; whnf)) ?_
  refine r_nil ?_
  refine t_n ?_
  refine c_block ?_
  have hWL0 := Ext.refl w
  have hlen := hl.len
  have hfit := hl.fit
  have hcap := hl.cap
  refine c_loop (ι := Nat) [4, 6, 11, 12, 13, 14, 15, 16, 17, 18] (fun k => [(11, .int .i64 (k : Int))]) (fun k w' => Ext w w' ∧ (k ≤ n ∧ ∀ i, i < k → namedD (ns.getD i ByteArray.empty) = true)) (fun k => n - k) (0) ⟨rfl, trivial⟩ ⟨Ext.refl _, ⟨by omega, fun i hi => by omega⟩⟩ ?_
  rintro k GL0 w1 ⟨hE1, hk, hL⟩
  have hX := hX.ext hE1
  have hB := hB.ext hE1
  have hWL0 := hE1
  refine c_seq ?_
  refine r_plain ?_
  refine p1 (x_lss rfl rfl) ?_
  refine r_nil ?_
  refine t_n ?_
  refine c_seq ?_
  first | refine c_dec rfl (fun hc12 => ?_) (fun hc12 => ?_) | refine c_if rfl (fun hc12 => ?_) (fun hc12 => ?_)
  · try simp only [decide_eq_true_eq, decide_eq_false_iff_not, Bool.not_eq_true, Bool.not_eq_false, Bool.not_eq_eq_eq_not, Bool.not_true, Bool.not_false, Int.not_lt, Int.not_le] at hc12
    refine c_skip ?_
    refine t_n ?_
    refine c_seq ?_
    refine c_block ?_
    refine c_seq ?_
    refine r_plain ?_
    refine p1 (x_ixs0 u51 sz9 rfl rfl ((hl.ext hX).adr kStr_pos (by omega)) (by omega)) ?_
    refine p1 (x_load1 un9 rfl ((hl.ext hX).strAt _ (by omega))) ?_
    refine p1 (x_assign (by conv => lhs; whnf)) ?_
    refine r_nil ?_
    refine t_n ?_
    refine c_seq ?_
    refine r_plain ?_
    refine p1 (x_move (by conv => lhs; whnf)) ?_
    refine o_call Try.func60 fn60 fb60 (disk_named _ _ (hs _ (mem_of_getD (z := ByteArray.empty) (i := k) (by omega) rfl))) rfl ?_
    rintro v2 w2 ⟨rfl, hE2⟩
    have hX := hX.ext hE2
    have hB := hB.ext hE2
    have hWL0 := hWL0.ext hE2
    first | refine p1 (x_notd rfl) ?_ | refine p1 (x_not rfl) ?_
    refine r_nil ?_
    refine t_n ?_
    first | refine c_dec rfl (fun hc17 => ?_) (fun hc17 => ?_) | refine c_if rfl (fun hc17 => ?_) (fun hc17 => ?_)
    · try simp only [decide_eq_true_eq, decide_eq_false_iff_not, Bool.not_eq_true, Bool.not_eq_false, Bool.not_eq_eq_eq_not, Bool.not_true, Bool.not_false, Int.not_lt, Int.not_le] at hc17
      have hp : lookD D ns = 30 := by unfold lookD; rw [if_pos (not_all_getD (k := k) (by omega) (by simpa using hc17))]
      refine c_seq ?_
      refine r_plain ?_
      refine p1 (x_assign (by conv => lhs; whnf)) ?_
      refine r_nil ?_
      refine t_n ?_
      refine c_ret ?_
      refine b_r ?_
      refine t_r ?_
      refine t_r ?_
      refine b_r ?_
      refine t_r ?_
      refine end1 rfl (by conv => lhs; whnf) ?_
      exact ⟨by rw [hp], hX⟩
    · try simp only [decide_eq_true_eq, decide_eq_false_iff_not, Bool.not_eq_true, Bool.not_eq_false, Bool.not_eq_eq_eq_not, Bool.not_true, Bool.not_false, Int.not_lt, Int.not_le] at hc17
      have h1 : namedD (ns.getD k ByteArray.empty) = true := by simpa using hc17
      refine c_skip ?_
      refine b_n ?_
      refine t_n ?_
      refine r_plain ?_
      refine p1 (x_add rfl rfl (fits_i64 (by omega) (by omega))) ?_
      refine p1 (x_move (by conv => lhs; whnf)) ?_
      refine r_nil ?_
      refine t_n (At.mk (k + 1) (by repeat (first | exact Agr.refl _ _ | exact Agr.hav _ _ _ | refine Agr.upd rfl ?_ | refine Agr.updR rfl ?_ | refine Agr.updL ?_ _ rfl | refine Agr.hav' rfl ?_)) ⟨rfl, trivial⟩ ?_)
      exact ⟨⟨hWL0, ⟨by omega, fun i hi => if h : i < k then hL i h else by rw [show i = k from by omega]; exact h1⟩⟩, by first | (dsimp only; omega) | ((show _ < _); omega)⟩
  · try simp only [decide_eq_true_eq, decide_eq_false_iff_not, Bool.not_eq_true, Bool.not_eq_false, Bool.not_eq_eq_eq_not, Bool.not_true, Bool.not_false, Int.not_lt, Int.not_le] at hc12
    have hall := all_take_getD hL (by omega)
    refine c_exit ?_
    refine t_e ?_
    refine t_e ?_
    refine b_hit ?_
    refine t_n ?_
    refine c_seq ?_
    refine c_seq ?_
    refine r_plain ?_
    refine p1 (x_move (by conv => lhs; whnf)) ?_
    refine p1 (x_nilCheck rfl) ?_
    refine p1 (x_fieldAddr fo66_6 sz4 rfl) ?_
    refine p1 (x_load1 un4 rfl (hB.cell (rfl))) ?_
    refine r_nil ?_
    refine t_n ?_
    first | refine c_dec rfl (fun hc22 => ?_) (fun hc22 => ?_) | refine c_if rfl (fun hc22 => ?_) (fun hc22 => ?_)
    · try simp only [decide_eq_true_eq, decide_eq_false_iff_not, Bool.not_eq_true, Bool.not_eq_false, Bool.not_eq_eq_eq_not, Bool.not_true, Bool.not_false, Int.not_lt, Int.not_le] at hc22
      have hp : lookD D ns = 20 := by unfold lookD; rw [if_neg (by rw [hall]; simp), if_pos hc22]
      refine c_seq ?_
      refine r_plain ?_
      refine p1 (x_assign (by conv => lhs; whnf)) ?_
      refine r_nil ?_
      refine t_n ?_
      refine c_ret ?_
      refine t_r ?_
      refine end1 rfl (by conv => lhs; whnf) ?_
      exact ⟨by rw [hp], hX⟩
    · try simp only [decide_eq_true_eq, decide_eq_false_iff_not, Bool.not_eq_true, Bool.not_eq_false, Bool.not_eq_eq_eq_not, Bool.not_true, Bool.not_false, Int.not_lt, Int.not_le] at hc22
      have hp : lookD D ns = 0 := by unfold lookD; rw [if_neg (by rw [hall]; simp), if_neg (by rw [hc22]; simp)]
      refine c_skip ?_
      refine t_n ?_
      refine c_seq ?_
      refine r_plain ?_
      refine p1 (x_assign (by conv => lhs; whnf)) ?_
      refine r_nil ?_
      refine t_n ?_
      refine c_ret ?_
      refine end1 rfl (by conv => lhs; whnf) ?_
      exact ⟨by rw [hp], hX⟩
theorem disk_there (g : Nat) (S : Nat → Prop) (D : DS) (w : World) (hD : Dsk S w g D) (k : ByteArray) :
    Ret Try.prog 42 [.pointer (some ⟨g, 0, none⟩), .string k] w (fun v w' => v = .bool (decide (ascF D.l k ≠ none)) ∧ Ext w w') := by
  obtain ⟨r, μ, hB, hM, hSg, hSr, hF⟩ := hD.ex
  have hX := Ext.refl w
  refine enter 17 _ Try.func42 rfl rfl (Nat.le_of_ble_eq_true rfl) rfl ?_
  refine c_seq ?_
  refine r_plain ?_
  refine p1 (x_assign (by conv => lhs; whnf)) ?_
  refine r_nil ?_
  refine t_n ?_
  refine c_seq ?_
  refine r_plain ?_
  refine p1 (x_move (by conv => lhs; whnf)) ?_
  refine p1 (x_nilCheck rfl) ?_
  refine p1 (x_fieldAddr fo66_2 sz64 rfl) ?_
  refine p1 (x_load1 un64 rfl (hB.cell (rfl))) ?_
  refine p1 (x_move (by conv => lhs; whnf)) ?_
  obtain ⟨⟨p0, n0, c0, s0⟩, hr0⟩ : ∃ x : Raw, x = (μ k).getD raw0 := ⟨_, rfl⟩
  obtain ⟨hF0, hs0⟩ := hF.get k
  rw [← hr0] at hF0 hs0
  simp only at hF0 hs0
  refine p1 (((lookF u64 zr76 (keyOk_str u9) hM k rfl rfl).2).cast (by rw [← hr0]; rfl : _ = Value.tuple #[.agg #[.slice p0 n0 c0, .int .i64 (s0 : Int)], .bool (decide (μ k ≠ none))])) ?_
  refine p1 (x_move (by conv => lhs; whnf)) ?_
  refine p1 (x_extract rfl rfl) ?_
  refine p1 (x_extract rfl rfl) ?_
  have hXs5 := hX.size
  refine o_alloc zr76 ?_
  intro w1 g5 hN5
  have hE1 := hN5.ext
  have hX := hX.ext hE1
  have hB := hB.ext hE1
  have hM := hM.ext hE1
  have hB5 := hN5.blk
  refine o_storeAll rfl (by conv => lhs; whnf) (by simp [Value.oneCell']) (by exact sz76) hB5 (by rfl) ?_
  intro w2 hP2
  have hX := hX.put hP2 (by rw [hN5.g_eq]; exact hXs5)
  have hB5 := hP2.blk
  refine p1 (x_assign (by conv => lhs; whnf)) ?_
  refine r_nil ?_
  refine t_n ?_
  refine c_seq ?_
  refine r_plain ?_
  refine p1 (x_move (by conv => lhs; whnf)) ?_
  refine p1 (x_assign (by conv => lhs; whnf)) ?_
  refine r_nil ?_
  refine t_n ?_
  refine c_ret ?_
  refine end1 rfl (by conv => lhs; whnf) ?_
  exact ⟨congrArg Value.bool (decide_eq_decide.2 (not_congr (hF.iff k))), hX⟩
theorem disk_step (g : Nat) (S : Nat → Prop) (D : DS) (w : World) (hD : Dsk S w g D) (hok : DOk D) (hst : D.steps < 4611686018427387904) (hle : D.left ≤ 9223372036854775807) (fdo : Nat) (fn : Func) (hf : Try.prog.funcs[fdo]? = some fn) (hn : (fn.name == "runtime.NumGoroutine") = false) (hb : fn.body.isNone = false) (cs : List Value) (act : List Fl) (failing always : Bool)
    (hdo : ∀ w1, Ext w w1 → Ret Try.prog fdo cs w1 (fun v w' => Dsk (grow S w1 w') w' g { D with l := act } ∧ ModS S ED w1 w')) :
    Ret Try.prog 46 [.pointer (some ⟨g, 0, none⟩), .func (.func fdo) #[] cs.toArray, .bool failing, .bool always] w (fun v w' => v = .int .i64 (stepD D act failing always).2 ∧ Dsk (grow S w w') w' g (stepD D act failing always).1 ∧ ModS S ED w w') := by
  obtain ⟨r, μ, hB, hM, hSg, hSr, hF⟩ := hD.ex
  have hXe := Ext.refl w
  have hleft := hok.left
  have hSg2 : grow S w w g := .inl hSg
  have hW1 := Nat.le_refl w.heap.size
  have hX := ModS.refl S ED w
  refine enter 50 _ Try.func46 rfl rfl (Nat.le_of_ble_eq_true rfl) rfl ?_
  refine c_seq ?_
  refine r_plain ?_
  refine p1 (x_assign (by conv => lhs; whnf)) ?_
  refine r_nil ?_
  refine t_n ?_
  refine c_seq ?_
  refine c_seq ?_
  refine r_plain ?_
  refine p1 (x_move (by conv => lhs; whnf)) ?_
  refine p1 (x_nilCheck rfl) ?_
  refine p1 (x_fieldAddr fo66_4 sz3 rfl) ?_
  refine p1 (x_load1 un3 rfl (hB.cell (rfl))) ?_
  refine p1 (x_neq rfl rfl) ?_
  refine r_nil ?_
  refine t_n ?_
  first | refine c_dec rfl (fun hc13 => ?_) (fun hc13 => ?_) | refine c_if rfl (fun hc13 => ?_) (fun hc13 => ?_)
  · try simp only [decide_eq_true_eq, decide_eq_false_iff_not, Bool.not_eq_true, Bool.not_eq_false, Bool.not_eq_eq_eq_not, Bool.not_true, Bool.not_false, Int.not_lt, Int.not_le] at hc13
    have hL0 : D.left ≠ 0 := hc13
    refine c_seq ?_
    refine r_plain ?_
    refine p1 (x_move (by conv => lhs; whnf)) ?_
    have hX0 : Ext w w := hXe
    refine o_callv (fs := []) (cs := cs) rfl hf hn hb rfl rfl (hdo _ hX0) ?_
    rintro v1 w1 ⟨hD2, hM2⟩
    have hX : ModS S ED w w1 := (ModS.ofExt hX0).trans hM2 (fun _ _ h => h)
    obtain ⟨r, μ, hB, hM, hSg2, hSr, hF⟩ := hD2.ex
    have hB : Blk w1 g #[.int .i64 (D.most : Int), .int .i64 ((usedL act : Nat) : Int), .map (some r), .int .i64 (D.steps : Int), .int .i64 D.left, .bool D.done, .bool D.down] tDisk := hB
    have hF : Fls _ _ μ act := hF
    skip
    refine r_nil ?_
    refine t_n ?_
    refine c_seq ?_
    refine r_plain ?_
    refine p1 (x_move (by conv => lhs; whnf)) ?_
    refine p1 (x_move (by conv => lhs; whnf)) ?_
    refine p1 (x_nilCheck rfl) ?_
    refine p1 (x_fieldAddr fo66_4 sz3 rfl) ?_
    refine p1 (x_load1 un3 rfl (hB.cell (rfl))) ?_
    refine p1 (x_sub rfl rfl (fits_i64 (by omega) (by omega))) ?_
    refine p1 ((x_max rfl rfl).cast (congrArg (Value.int .i64) (by split <;> omega : _ = max (-1) (D.left - 1)))) ?_
    refine p1 (x_nilCheck rfl) ?_
    refine p1 (x_fieldAddr fo66_4 sz3 rfl) ?_
    refine o_store1 rfl (by conv => lhs; whnf) rfl rfl sz3 hB (by simp) ?_
    intro w2 hP2
    have hX := hX.put hP2 (⟨.inl hSg, by decide⟩)
    have hB := hP2.blk
    simp only [List.setIfInBounds_toArray, List.set_cons_zero, List.set_cons_succ] at hB
    have hM := hM.mod (hP2.mod 0 (Nat.zero_le _)) (Nat.zero_le _) (by decide)
    have hF := hF.one hP2.one (by decide)
    refine r_nil ?_
    refine t_n ?_
    refine c_seq ?_
    refine r_plain ?_
    refine p1 (x_move (by conv => lhs; whnf)) ?_
    refine p1 (x_nilCheck rfl) ?_
    refine p1 (x_fieldAddr fo66_3 sz3 rfl) ?_
    refine p1 (x_load1 un3 rfl (hB.cell (rfl))) ?_
    refine p1 (x_add rfl rfl (fits_i64 (by omega) (by omega))) ?_
    refine p1 (x_nilCheck rfl) ?_
    refine p1 (x_fieldAddr fo66_3 sz3 rfl) ?_
    refine o_store1 rfl (by conv => lhs; whnf) rfl rfl sz3 hB (by simp) ?_
    intro w3 hP3
    have hX := hX.put hP3 (⟨.inl hSg, by decide⟩)
    have hB := hP3.blk
    simp only [List.setIfInBounds_toArray, List.set_cons_zero, List.set_cons_succ] at hB
    have hM := hM.mod (hP3.mod 0 (Nat.zero_le _)) (Nat.zero_le _) (by decide)
    have hF := hF.one hP3.one (by decide)
    refine r_nil ?_
    refine t_n ?_
    refine c_seq ?_
    refine r_plain ?_
    refine p1 (x_assign (by conv => lhs; whnf)) ?_
    refine r_nil ?_
    refine t_n ?_
    refine c_ret ?_
    refine t_r ?_
    refine end1 rfl (by conv => lhs; whnf) ?_
    first
      | (rw [stepD_go hL0]
         exact ⟨rfl, Dsk.of hB hM hSg hSr hF (grow_any (Nat.le_refl _)), hX⟩)
      | (rw [stepD_act hL0 (by first | (rw [hb6_1, hb6_3]; rfl) | (rw [hb6_1, hb6_3, hb6_7]; rfl) | simp_all)]
         exact ⟨rfl, Dsk.of hB hM hSg hSr hF (grow_any (Nat.le_refl _)), hX⟩)
      | (rw [stepD_no hL0 (by first | (rw [hb6_1]; rfl) | (rw [hb6_1, hb6_3, hb6_7]; rfl) | simp_all)]
         exact ⟨rfl, Dsk.of hB hM hSg hSr hF same_open, hX⟩)
  · try simp only [decide_eq_true_eq, decide_eq_false_iff_not, Bool.not_eq_true, Bool.not_eq_false, Bool.not_eq_eq_eq_not, Bool.not_true, Bool.not_false, Int.not_lt, Int.not_le] at hc13
    have hL0 : ¬ D.left ≠ 0 := hc13
    refine c_skip ?_
    refine t_n ?_
    refine c_seq ?_
    refine c_seq ?_
    refine r_plain ?_
    refine p1 (x_move (by conv => lhs; whnf)) ?_
    refine p1b (x_move (by conv => lhs; whnf)) (fun hb6_1 => ?_) (fun hb6_1 => ?_)
    · try simp only [decide_eq_true_eq, decide_eq_false_iff_not, Bool.not_eq_true, Bool.not_eq_false, Bool.not_eq_eq_eq_not, Bool.not_true, Bool.not_false, Int.not_lt, Int.not_le] at hb6_1
      refine Eng.g1 33 rfl rfl (x_move (by conv => lhs; whnf)) ?_
      refine g1b 33 rfl rfl (x_move (by conv => lhs; whnf)) (fun hb6_3 => ?_) (fun hb6_3 => ?_)
      · try simp only [decide_eq_true_eq, decide_eq_false_iff_not, Bool.not_eq_true, Bool.not_eq_false, Bool.not_eq_eq_eq_not, Bool.not_true, Bool.not_false, Int.not_lt, Int.not_le] at hb6_3
        refine Eng.g0 35 rfl (by first | exact .inl rfl | exact .inr rfl) ?_
        refine Eng.g0 35 rfl (by first | exact .inl rfl | exact .inr rfl) ?_
        refine Eng.g0 35 rfl (by first | exact .inl rfl | exact .inr rfl) ?_
        refine Eng.g0 35 rfl (by first | exact .inl rfl | exact .inr rfl) ?_
        refine Eng.g1 33 rfl rfl (x_pick_t rfl (by conv => lhs; whnf)) ?_
        refine p1 (x_pick_t rfl (by conv => lhs; whnf)) ?_
        refine r_nil ?_
        refine t_n ?_
        refine c_t rfl ?_
        refine r_plain ?_
        refine p1 (x_move (by conv => lhs; whnf)) ?_
        have hX0 : Ext w w := hXe
        refine o_callv (fs := []) (cs := cs) rfl hf hn hb rfl rfl (hdo _ hX0) ?_
        rintro v4 w4 ⟨hD2, hM2⟩
        have hX : ModS S ED w w4 := (ModS.ofExt hX0).trans hM2 (fun _ _ h => h)
        obtain ⟨r, μ, hB, hM, hSg2, hSr, hF⟩ := hD2.ex
        have hB : Blk w4 g #[.int .i64 (D.most : Int), .int .i64 ((usedL act : Nat) : Int), .map (some r), .int .i64 (D.steps : Int), .int .i64 D.left, .bool D.done, .bool D.down] tDisk := hB
        have hF : Fls _ _ μ act := hF
        skip
        refine r_nil ?_
        refine t_n ?_
        refine c_seq ?_
        refine r_plain ?_
        refine p1 (x_move (by conv => lhs; whnf)) ?_
        refine p1 (x_move (by conv => lhs; whnf)) ?_
        refine p1 (x_nilCheck rfl) ?_
        refine p1 (x_fieldAddr fo66_6 sz4 rfl) ?_
        refine o_store1 rfl (by conv => lhs; whnf) rfl rfl sz4 hB (by simp) ?_
        intro w5 hP5
        have hX := hX.put hP5 (⟨.inl hSg, by decide⟩)
        have hB := hP5.blk
        simp only [List.setIfInBounds_toArray, List.set_cons_zero, List.set_cons_succ] at hB
        have hM := hM.mod (hP5.mod 0 (Nat.zero_le _)) (Nat.zero_le _) (by decide)
        have hF := hF.one hP5.one (by decide)
        refine p1 (x_nilCheck rfl) ?_
        refine p1 (x_fieldAddr fo66_4 sz3 rfl) ?_
        refine o_store1 rfl (by conv => lhs; whnf) rfl rfl sz3 hB (by simp) ?_
        intro w6 hP6
        have hX := hX.put hP6 (⟨.inl hSg, by decide⟩)
        have hB := hP6.blk
        simp only [List.setIfInBounds_toArray, List.set_cons_zero, List.set_cons_succ] at hB
        have hM := hM.mod (hP6.mod 0 (Nat.zero_le _)) (Nat.zero_le _) (by decide)
        have hF := hF.one hP6.one (by decide)
        refine r_nil ?_
        refine t_n ?_
        refine c_seq ?_
        refine r_plain ?_
        refine p1 (x_assign (by conv => lhs; whnf)) ?_
        refine r_nil ?_
        refine t_n ?_
        refine c_ret ?_
        refine end1 rfl (by conv => lhs; whnf) ?_
        first
          | (rw [stepD_go hL0]
             exact ⟨rfl, Dsk.of hB hM hSg hSr hF (grow_any (Nat.le_refl _)), hX⟩)
          | (rw [stepD_act hL0 (by first | (rw [hb6_1, hb6_3]; rfl) | (rw [hb6_1, hb6_3, hb6_7]; rfl) | simp_all)]
             exact ⟨rfl, Dsk.of hB hM hSg hSr hF (grow_any (Nat.le_refl _)), hX⟩)
          | (rw [stepD_no hL0 (by first | (rw [hb6_1]; rfl) | (rw [hb6_1, hb6_3, hb6_7]; rfl) | simp_all)]
             exact ⟨rfl, Dsk.of hB hM hSg hSr hF same_open, hX⟩)
      · try simp only [decide_eq_true_eq, decide_eq_false_iff_not, Bool.not_eq_true, Bool.not_eq_false, Bool.not_eq_eq_eq_not, Bool.not_true, Bool.not_false, Int.not_lt, Int.not_le] at hb6_3
        refine Eng.g1 35 rfl rfl (x_move (by conv => lhs; whnf)) ?_
        refine Eng.g1 35 rfl rfl (x_nilCheck rfl) ?_
        refine Eng.g1 35 rfl rfl (x_fieldAddr fo66_5 sz4 rfl) ?_
        refine Eng.g1 35 rfl rfl (x_load1 un4 rfl (hB.cell (rfl))) ?_
        refine Eng.g1 33 rfl rfl (x_pick_f rfl (by conv => lhs; whnf)) ?_
        refine p1 (x_pick_t rfl (by conv => lhs; whnf)) ?_
        refine r_nil ?_
        refine t_n ?_
        first | refine c_dec rfl (fun hc41 => ?_) (fun hc41 => ?_) | refine c_if rfl (fun hc41 => ?_) (fun hc41 => ?_)
        · try simp only [decide_eq_true_eq, decide_eq_false_iff_not, Bool.not_eq_true, Bool.not_eq_false, Bool.not_eq_eq_eq_not, Bool.not_true, Bool.not_false, Int.not_lt, Int.not_le] at hc41
          refine r_plain ?_
          refine p1 (x_move (by conv => lhs; whnf)) ?_
          have hX0 : Ext w w := hXe
          refine o_callv (fs := []) (cs := cs) rfl hf hn hb rfl rfl (hdo _ hX0) ?_
          rintro v7 w7 ⟨hD2, hM2⟩
          have hX : ModS S ED w w7 := (ModS.ofExt hX0).trans hM2 (fun _ _ h => h)
          obtain ⟨r, μ, hB, hM, hSg2, hSr, hF⟩ := hD2.ex
          have hB : Blk w7 g #[.int .i64 (D.most : Int), .int .i64 ((usedL act : Nat) : Int), .map (some r), .int .i64 (D.steps : Int), .int .i64 D.left, .bool D.done, .bool D.down] tDisk := hB
          have hF : Fls _ _ μ act := hF
          skip
          refine r_nil ?_
          refine t_n ?_
          refine c_seq ?_
          refine r_plain ?_
          refine p1 (x_move (by conv => lhs; whnf)) ?_
          refine p1 (x_move (by conv => lhs; whnf)) ?_
          refine p1 (x_nilCheck rfl) ?_
          refine p1 (x_fieldAddr fo66_6 sz4 rfl) ?_
          refine o_store1 rfl (by conv => lhs; whnf) rfl rfl sz4 hB (by simp) ?_
          intro w8 hP8
          have hX := hX.put hP8 (⟨.inl hSg, by decide⟩)
          have hB := hP8.blk
          simp only [List.setIfInBounds_toArray, List.set_cons_zero, List.set_cons_succ] at hB
          have hM := hM.mod (hP8.mod 0 (Nat.zero_le _)) (Nat.zero_le _) (by decide)
          have hF := hF.one hP8.one (by decide)
          refine p1 (x_nilCheck rfl) ?_
          refine p1 (x_fieldAddr fo66_4 sz3 rfl) ?_
          refine o_store1 rfl (by conv => lhs; whnf) rfl rfl sz3 hB (by simp) ?_
          intro w9 hP9
          have hX := hX.put hP9 (⟨.inl hSg, by decide⟩)
          have hB := hP9.blk
          simp only [List.setIfInBounds_toArray, List.set_cons_zero, List.set_cons_succ] at hB
          have hM := hM.mod (hP9.mod 0 (Nat.zero_le _)) (Nat.zero_le _) (by decide)
          have hF := hF.one hP9.one (by decide)
          refine r_nil ?_
          refine t_n ?_
          refine c_seq ?_
          refine r_plain ?_
          refine p1 (x_assign (by conv => lhs; whnf)) ?_
          refine r_nil ?_
          refine t_n ?_
          refine c_ret ?_
          refine end1 rfl (by conv => lhs; whnf) ?_
          first
            | (rw [stepD_go hL0]
               exact ⟨rfl, Dsk.of hB hM hSg hSr hF (grow_any (Nat.le_refl _)), hX⟩)
            | (rw [stepD_act hL0 (by first | (rw [hb6_1, hb6_3]; rfl) | (rw [hb6_1, hb6_3, hb6_7]; rfl) | simp_all)]
               exact ⟨rfl, Dsk.of hB hM hSg hSr hF (grow_any (Nat.le_refl _)), hX⟩)
            | (rw [stepD_no hL0 (by first | (rw [hb6_1]; rfl) | (rw [hb6_1, hb6_3, hb6_7]; rfl) | simp_all)]
               exact ⟨rfl, Dsk.of hB hM hSg hSr hF same_open, hX⟩)
        · try simp only [decide_eq_true_eq, decide_eq_false_iff_not, Bool.not_eq_true, Bool.not_eq_false, Bool.not_eq_eq_eq_not, Bool.not_true, Bool.not_false, Int.not_lt, Int.not_le] at hc41
          refine c_skip ?_
          refine t_n ?_
          refine c_seq ?_
          refine r_plain ?_
          refine p1 (x_move (by conv => lhs; whnf)) ?_
          refine p1 (x_move (by conv => lhs; whnf)) ?_
          refine p1 (x_nilCheck rfl) ?_
          refine p1 (x_fieldAddr fo66_6 sz4 rfl) ?_
          refine o_store1 rfl (by conv => lhs; whnf) rfl rfl sz4 hB (by simp) ?_
          intro w10 hP10
          have hX := hX.put hP10 (⟨.inl hSg, by decide⟩)
          have hB := hP10.blk
          simp only [List.setIfInBounds_toArray, List.set_cons_zero, List.set_cons_succ] at hB
          have hM := hM.mod (hP10.mod 0 (Nat.zero_le _)) (Nat.zero_le _) (by decide)
          have hF := hF.one hP10.one (by decide)
          refine p1 (x_nilCheck rfl) ?_
          refine p1 (x_fieldAddr fo66_4 sz3 rfl) ?_
          refine o_store1 rfl (by conv => lhs; whnf) rfl rfl sz3 hB (by simp) ?_
          intro w11 hP11
          have hX := hX.put hP11 (⟨.inl hSg, by decide⟩)
          have hB := hP11.blk
          simp only [List.setIfInBounds_toArray, List.set_cons_zero, List.set_cons_succ] at hB
          have hM := hM.mod (hP11.mod 0 (Nat.zero_le _)) (Nat.zero_le _) (by decide)
          have hF := hF.one hP11.one (by decide)
          refine r_nil ?_
          refine t_n ?_
          refine c_seq ?_
          refine r_plain ?_
          refine p1 (x_assign (by conv => lhs; whnf)) ?_
          refine r_nil ?_
          refine t_n ?_
          refine c_ret ?_
          refine end1 rfl (by conv => lhs; whnf) ?_
          first
            | (rw [stepD_go hL0]
               exact ⟨rfl, Dsk.of hB hM hSg hSr hF (grow_any (Nat.le_refl _)), hX⟩)
            | (rw [stepD_act hL0 (by first | (rw [hb6_1, hb6_3]; rfl) | (rw [hb6_1, hb6_3, hb6_7]; rfl) | simp_all)]
               exact ⟨rfl, Dsk.of hB hM hSg hSr hF (grow_any (Nat.le_refl _)), hX⟩)
            | (rw [stepD_no hL0 (by first | (rw [hb6_1]; rfl) | (rw [hb6_1, hb6_3, hb6_7]; rfl) | simp_all)]
               exact ⟨rfl, Dsk.of hB hM hSg hSr hF same_open, hX⟩)
    · try simp only [decide_eq_true_eq, decide_eq_false_iff_not, Bool.not_eq_true, Bool.not_eq_false, Bool.not_eq_eq_eq_not, Bool.not_true, Bool.not_false, Int.not_lt, Int.not_le] at hb6_1
      refine Eng.g0 33 rfl (by first | exact .inl rfl | exact .inr rfl) ?_
      refine Eng.g0 33 rfl (by first | exact .inl rfl | exact .inr rfl) ?_
      refine Eng.g0 35 rfl (by first | exact .inl rfl | exact .inr rfl) ?_
      refine Eng.g0 35 rfl (by first | exact .inl rfl | exact .inr rfl) ?_
      refine Eng.g0 35 rfl (by first | exact .inl rfl | exact .inr rfl) ?_
      refine Eng.g0 35 rfl (by first | exact .inl rfl | exact .inr rfl) ?_
      refine Eng.g0 33 rfl (by first | exact .inl rfl | exact .inr rfl) ?_
      refine p1 (x_pick_f rfl (by conv => lhs; whnf)) ?_
      refine r_nil ?_
      refine t_n ?_
      refine c_f rfl ?_
      refine c_skip ?_
      refine t_n ?_
      refine c_seq ?_
      refine r_plain ?_
      refine p1 (x_move (by conv => lhs; whnf)) ?_
      refine p1 (x_move (by conv => lhs; whnf)) ?_
      refine p1 (x_nilCheck rfl) ?_
      refine p1 (x_fieldAddr fo66_6 sz4 rfl) ?_
      refine o_store1 rfl (by conv => lhs; whnf) rfl rfl sz4 hB (by simp) ?_
      intro w12 hP12
      have hX := hX.put hP12 (⟨.inl hSg, by decide⟩)
      have hB := hP12.blk
      simp only [List.setIfInBounds_toArray, List.set_cons_zero, List.set_cons_succ] at hB
      have hM := hM.mod (hP12.mod 0 (Nat.zero_le _)) (Nat.zero_le _) (by decide)
      have hF := hF.one hP12.one (by decide)
      refine p1 (x_nilCheck rfl) ?_
      refine p1 (x_fieldAddr fo66_4 sz3 rfl) ?_
      refine o_store1 rfl (by conv => lhs; whnf) rfl rfl sz3 hB (by simp) ?_
      intro w13 hP13
      have hX := hX.put hP13 (⟨.inl hSg, by decide⟩)
      have hB := hP13.blk
      simp only [List.setIfInBounds_toArray, List.set_cons_zero, List.set_cons_succ] at hB
      have hM := hM.mod (hP13.mod 0 (Nat.zero_le _)) (Nat.zero_le _) (by decide)
      have hF := hF.one hP13.one (by decide)
      refine r_nil ?_
      refine t_n ?_
      refine c_seq ?_
      refine r_plain ?_
      refine p1 (x_assign (by conv => lhs; whnf)) ?_
      refine r_nil ?_
      refine t_n ?_
      refine c_ret ?_
      refine end1 rfl (by conv => lhs; whnf) ?_
      first
        | (rw [stepD_go hL0]
           exact ⟨rfl, Dsk.of hB hM hSg hSr hF (grow_any (Nat.le_refl _)), hX⟩)
        | (rw [stepD_act hL0 (by first | (rw [hb6_1, hb6_3]; rfl) | (rw [hb6_1, hb6_3, hb6_7]; rfl) | simp_all)]
           exact ⟨rfl, Dsk.of hB hM hSg hSr hF (grow_any (Nat.le_refl _)), hX⟩)
        | (rw [stepD_no hL0 (by first | (rw [hb6_1]; rfl) | (rw [hb6_1, hb6_3, hb6_7]; rfl) | simp_all)]
           exact ⟨rfl, Dsk.of hB hM hSg hSr hF same_open, hX⟩)
end Go.Proofs.Eng
end
section
set_option linter.unusedVariables false
set_option linter.unusedSimpArgs false
set_option maxRecDepth 100000
set_option maxHeartbeats 4000000
namespace Go.Proofs.Eng
open Go.RowKit
open Extern.Stop (cell)
theorem fo66_1 : fieldOf Try.prog 66 1 = some (3, 1) := by kernel_rfl
theorem fo76_0 : fieldOf Try.prog 76 0 = some (31, 0) := by kernel_rfl
theorem fo76_1 : fieldOf Try.prog 76 1 = some (3, 1) := by kernel_rfl
theorem inf5 : (Try.prog.info? 5).map (fun i => (i.zero, i.size, i.bytes)) = some (some (.int .u8 0), 1, 1) := by kernel_rfl
theorem pl76 : placed Try.prog 76 = some (.agg #[.slice none 0 0, .int .i64 0], [(0, 1), (1, 1)]) := by kernel_rfl
theorem sz31 : (Try.prog.info? 31).map (·.size) = some 1 := by kernel_rfl
theorem sz5 : (Try.prog.info? 5).map (·.size) = some 1 := by kernel_rfl
theorem u31 : Try.prog.underlying 31 = some (.slice 5) := by kernel_rfl
theorem ua76 : (Try.prog.underlying 76).map TypeDesc.isRow = some true := by kernel_rfl
theorem un23 : (Try.prog.underlying 23).map TypeDesc.isRow = some false := by kernel_rfl
theorem un31 : (Try.prog.underlying 31).map TypeDesc.isRow = some false := by kernel_rfl
end Go.Proofs.Eng
end
section
set_option linter.unusedVariables false
set_option linter.unusedSimpArgs false
set_option maxRecDepth 100000
set_option maxHeartbeats 4000000
namespace Go.Proofs.Eng
open Go.RowKit
open Extern.Stop (cell)
theorem disk_Create_do (g : Nat) (S : Nat → Prop) (D : DS) (w : World) (hD : Dsk S w g D) (hok : DOk D) (k : ByteArray) (hk : ascA D.l k = none) (b0 : Nat) (b1 : Nat) (hb0 : Blk w b0 #[.pointer (some ⟨g, 0, none⟩)] 23) (hb1 : Blk w b1 #[.string k] 9) :
    Ret Try.prog 47 [.pointer (some ⟨b0, 0, none⟩), .pointer (some ⟨b1, 0, none⟩)] w (fun v w' => Dsk (grow S w w') w' g { D with l := insA D.l k (some ([], 0)) } ∧ ModS S ED w w') := by
  obtain ⟨r, μ, hB, hM, hSg, hSr, hF⟩ := hD.ex
  have hW1 := Nat.le_refl w.heap.size
  have hroom := hok.room
  have hmost := hok.most
  
  have hX := ModS.refl S ED w
  refine enter 8 _ Try.func47 rfl rfl (Nat.le_of_ble_eq_true rfl) rfl ?_
  refine r_tail 6 mixed (by kernel_rfl) ?_
  intro w1 hE1
  have hX := hX.ext hE1
  have hB := hB.ext hE1
  have hM := hM.ext hE1
  have hF := hF.ext hE1
  have hb0 := hb0.ext hE1
  have hb1 := hb1.ext hE1
  refine s1 (x_load1 un23 rfl (hb0.cell (rfl))) ?_
  refine s1 (x_nilCheck rfl) ?_
  refine s1 (x_fieldAddr fo66_2 sz64 rfl) ?_
  refine s1 (x_load1 un64 rfl (hB.cell (rfl))) ?_
  refine s1 (x_load1 un9 rfl (hb1.cell (rfl))) ?_
  refine s1 (x_build0 pl76 rfl) ?_
  refine s_nil ?_
  have hMt2 := hM.tyOf
  refine o_update1 (a := k) (b := raw0) u64 (keyOk_str u9) rfl rfl rfl hM rfl (Nat.zero_le _) (by decide) ?_
  intro w2 hM hMm2 hne2
  have hO2 := One.ofMod hMm2 hMt2 hne2
  have hX := hX.one hO2 ⟨.inl hSr, by decide⟩
  have hB := hB.one hO2 (by decide)
  have hb0 := hb0.one hO2 (by decide)
  have hb1 := hb1.one hO2 (by decide)
  have hF := hF.one hO2 (by decide)
  have hF := hF.put hok.rise k raw0 ([], 0) rfl (FB.nil _ _) (fun _ _ _ _ => .inl rfl)
  refine r_nil ?_
  refine end0n rfl ?_
  have hu := usedL_ins hok.rise k (some ([], 0))
  rw [hk] at hu
  simp only [Option.map_some, Option.map_none, Option.getD_some, Option.getD_none, List.length_nil] at hu
  exact ⟨Dsk.made hB (by omega) hM hSg hSr hF same_open, hX⟩
theorem disk_Sync_do (g : Nat) (S : Nat → Prop) (D : DS) (w : World) (hD : Dsk S w g D) (hok : DOk D) (k : ByteArray) (hk : ascA D.l k ≠ none) (b0 : Nat) (b1 : Nat) (hb0 : Blk w b0 #[.pointer (some ⟨g, 0, none⟩)] 23) (hb1 : Blk w b1 #[.string k] 9) :
    Ret Try.prog 50 [.pointer (some ⟨b0, 0, none⟩), .pointer (some ⟨b1, 0, none⟩)] w (fun v w' => Dsk (grow S w w') w' g { D with l := insA D.l k (some ((getF D k).1, (getF D k).1.length)) } ∧ ModS S ED w w') := by
  obtain ⟨r, μ, hB, hM, hSg, hSr, hF⟩ := hD.ex
  have hW1 := Nat.le_refl w.heap.size
  have hroom := hok.room
  have hmost := hok.most
  obtain ⟨hk1, hk2⟩ := hF.there hk
  have hX := ModS.refl S ED w
  refine enter 19 _ Try.func50 rfl rfl (Nat.le_of_ble_eq_true rfl) rfl ?_
  refine c_seq ?_
  refine r_held (fun w1 w2 => Ext w1 w2) mixed ?_
  intro w1 hE1
  have hX := hX.ext hE1
  have hB := hB.ext hE1
  have hM := hM.ext hE1
  have hF := hF.ext hE1
  have hb0 := hb0.ext hE1
  have hb1 := hb1.ext hE1
  have hSr0 : (fun w1 w2 => Ext w1 w2) w1 w1 := Ext.refl w1
  refine h_take 0 rfl (by kernel_rfl) (by kernel_rfl) (by kernel_rfl) hSr0 (fun wS hSS => by (have hX := hX.ext hSS; have hB := hB.ext hSS; have hM := hM.ext hSS; have hF := hF.ext hSS; have hb0 := hb0.ext hSS; have hb1 := hb1.ext hSS; exact (x_load1 un23 rfl (hb0.cell (rfl))))) ?_
  refine h_take 1 rfl (by kernel_rfl) (by kernel_rfl) (by kernel_rfl) hSr0 (fun wS hSS => by (have hX := hX.ext hSS; have hB := hB.ext hSS; have hM := hM.ext hSS; have hF := hF.ext hSS; have hb0 := hb0.ext hSS; have hb1 := hb1.ext hSS; exact (x_nilCheck rfl))) ?_
  refine h_take 2 rfl (by kernel_rfl) (by kernel_rfl) (by kernel_rfl) hSr0 (fun wS hSS => by (have hX := hX.ext hSS; have hB := hB.ext hSS; have hM := hM.ext hSS; have hF := hF.ext hSS; have hb0 := hb0.ext hSS; have hb1 := hb1.ext hSS; exact (x_fieldAddr fo66_2 sz64 rfl))) ?_
  refine h_take 3 rfl (by kernel_rfl) (by kernel_rfl) (by kernel_rfl) hSr0 (fun wS hSS => by (have hX := hX.ext hSS; have hB := hB.ext hSS; have hM := hM.ext hSS; have hF := hF.ext hSS; have hb0 := hb0.ext hSS; have hb1 := hb1.ext hSS; exact (x_load1 un64 rfl (hB.cell (rfl))))) ?_
  refine h_take 4 rfl (by kernel_rfl) (by kernel_rfl) (by kernel_rfl) hSr0 (fun wS hSS => by (have hX := hX.ext hSS; have hB := hB.ext hSS; have hM := hM.ext hSS; have hF := hF.ext hSS; have hb0 := hb0.ext hSS; have hb1 := hb1.ext hSS; exact (x_load1 un9 rfl (hb1.cell (rfl))))) ?_
  obtain ⟨⟨p0, n0, c0, s0⟩, hr0⟩ : ∃ x : Raw, x = (μ k).getD raw0 := ⟨_, rfl⟩
  obtain ⟨hF0, hs0⟩ := hF.get k
  rw [← hr0] at hF0 hs0
  simp only at hF0 hs0
  refine h_take 5 rfl (by kernel_rfl) (by kernel_rfl) (by kernel_rfl) hSr0 (fun wS hSS => by (have hX := hX.ext hSS; have hB := hB.ext hSS; have hM := hM.ext hSS; have hF := hF.ext hSS; have hb0 := hb0.ext hSS; have hb1 := hb1.ext hSS; exact (((lookF u64 zr76 (keyOk_str u9) hM k rfl rfl).1).cast (by rw [← hr0]; rfl : _ = Value.agg #[.slice p0 n0 c0, .int .i64 (s0 : Int)])))) ?_
  refine h_one 6 _ rfl (by kernel_rfl) (hop_of_list (fun Q6 hQ6 => ?_))
  have hXs := hX.size
  refine o_alloc zr76 ?_
  intro w2 g2 hN2
  have hE2 := hN2.ext
  have hX := hX.ext hE2
  have hB := hB.ext hE2
  have hM := hM.ext hE2
  have hF := hF.ext hE2
  have hb0 := hb0.ext hE2
  have hb1 := hb1.ext hE2
  have hSr0 := hSr0.ext hE2
  have hB2 := hN2.blk
  refine hop_end hQ6 ⟨hSr0, ?_⟩
  refine h_one 7 _ rfl (by kernel_rfl) (hop_of_list (fun Q7 hQ7 => ?_))
  have hg2 : w.heap.size ≤ g2 := by rw [hN2.g_eq]; exact hXs
  refine o_storeAll rfl (by conv => lhs; whnf) (by simp [Value.oneCell']) (by exact sz76) hB2 (by rfl) ?_
  intro w3 hP3
  have hX := hX.put hP3 (⟨.inr (by rw [hN2.g_eq]; exact hXs), by decide⟩)
  have hB := hB.one hP3.one (by decide)
  have hM := hM.mod (hP3.mod 0 (Nat.zero_le _)) (Nat.zero_le _) (by decide)
  have hF := hF.one hP3.one (by decide)
  have hb0 := hb0.one hP3.one (by decide)
  have hb1 := hb1.one hP3.one (by decide)
  have hSr0 := hSr0.put hP3 (by rw [hN2.g_eq]; exact Nat.le_refl _)
  have hB2 := hP3.blk
  refine hop_end hQ7 ⟨hSr0, ?_⟩
  refine h_done (by kernel_rfl) ?_
  refine t_n ?_
  refine c_seq ?_
  refine r_plain ?_
  refine p1 (x_fieldAddr fo76_0 sz31 rfl) ?_
  refine p1 (x_load1 un31 rfl (hB2.cell (rfl))) ?_
  refine p1 (x_len_slice u31 rfl) ?_
  refine p1 (x_fieldAddr fo76_1 sz3 rfl) ?_
  refine o_store1 rfl (by conv => lhs; whnf) rfl rfl sz3 hB2 (by simp) ?_
  intro w4 hP4
  have hX := hX.put hP4 (⟨.inr hg2, by decide⟩)
  have hB := hB.one hP4.one (by decide)
  have hM := hM.mod (hP4.mod 0 (Nat.zero_le _)) (Nat.zero_le _) (by decide)
  have hF := hF.one hP4.one (by decide)
  have hb0 := hb0.one hP4.one (by decide)
  have hb1 := hb1.one hP4.one (by decide)
  have hB2 := hP4.blk
  simp only [List.setIfInBounds_toArray, List.set_cons_zero, List.set_cons_succ] at hB2
  refine r_nil ?_
  refine t_n ?_
  refine r_tail 6 mixed (by kernel_rfl) ?_
  intro w5 hE5
  have hX := hX.ext hE5
  have hB := hB.ext hE5
  have hM := hM.ext hE5
  have hF := hF.ext hE5
  have hb0 := hb0.ext hE5
  have hb1 := hb1.ext hE5
  have hB2 := hB2.ext hE5
  refine s1 (x_load1 un23 rfl (hb0.cell (rfl))) ?_
  refine s1 (x_nilCheck rfl) ?_
  refine s1 (x_fieldAddr fo66_2 sz64 rfl) ?_
  refine s1 (x_load1 un64 rfl (hB.cell (rfl))) ?_
  refine s1 (x_load1 un9 rfl (hb1.cell (rfl))) ?_
  refine s1 (x_loadB ua76 rfl hB2 sz76) ?_
  refine s_nil ?_
  have hMt6 := hM.tyOf
  refine o_update1 (a := k) (b := (p0, n0, c0, n0)) u64 (keyOk_str u9) rfl rfl rfl hM rfl (Nat.zero_le _) (by decide) ?_
  intro w6 hM hMm6 hne6
  have hO6 := One.ofMod hMm6 hMt6 hne6
  have hX := hX.one hO6 ⟨.inl hSr, by decide⟩
  have hB := hB.one hO6 (by decide)
  have hb0 := hb0.one hO6 (by decide)
  have hb1 := hb1.one hO6 (by decide)
  have hB2 := hB2.one hO6 (by decide)
  have hF := hF.one hO6 (by decide)
  have hF0 := (hF.get k).1
  rw [← hr0] at hF0
  simp only at hF0
  have hF := hF.put hok.rise k (p0, n0, c0, n0) ((getF D k).1, (getF D k).1.length) hF0.len.symm hF0 (fun k' y hn hy => by have h9 := apart_put hF hk1 k' y hn hy; rw [← hr0] at h9; exact h9)
  refine r_nil ?_
  refine end0n rfl ?_
  have hu := there_used hok hk (some ((getF D k).1, (getF D k).1.length))
  unfold getF ascF at hu
  simp only [Option.map_some, Option.getD_some] at hu
  exact ⟨Dsk.made hB (by unfold getF ascF; omega) hM hSg hSr hF same_open, hX⟩
theorem disk_Append_do (g : Nat) (S : Nat → Prop) (D : DS) (w : World) (hD : Dsk S w g D) (hok : DOk D) (k : ByteArray) (hk : ascA D.l k ≠ none) (e B : Nat) (p : Option Addr) (n c : Nat) (ys : List UInt8) (hl : Sl kByte e B w p n c ys) (hfit : (usedL D.l : Int) + n ≤ D.most) (b0 : Nat) (b1 : Nat) (b2 : Nat) (hb0 : Blk w b0 #[.pointer (some ⟨g, 0, none⟩)] 23) (hb1 : Blk w b1 #[.string k] 9) (hb2 : Blk w b2 #[.slice p n c] 31) :
    Ret Try.prog 48 [.pointer (some ⟨b0, 0, none⟩), .pointer (some ⟨b1, 0, none⟩), .pointer (some ⟨b2, 0, none⟩)] w (fun v w' => Dsk (grow S w w') w' g { D with l := insA D.l k (some ((getF D k).1 ++ ys, (getF D k).2)) } ∧ ModS S ED w w') := by
  obtain ⟨r, μ, hB, hM, hSg, hSr, hF⟩ := hD.ex
  have hW1 := Nat.le_refl w.heap.size
  have hroom := hok.room
  have hmost := hok.most
  obtain ⟨hk1, hk2⟩ := hF.there hk
  have hXe := Ext.refl w
  have hX := ModS.refl S ED w
  refine enter 30 _ Try.func48 rfl rfl (Nat.le_of_ble_eq_true rfl) rfl ?_
  refine c_seq ?_
  refine r_held (fun w1 w2 => Ext w1 w2) mixed ?_
  intro w1 hE1
  have hX := hX.ext hE1
  have hB := hB.ext hE1
  have hM := hM.ext hE1
  have hF := hF.ext hE1
  have hb0 := hb0.ext hE1
  have hb1 := hb1.ext hE1
  have hb2 := hb2.ext hE1
  have hXe := hXe.ext hE1
  have hSr0 : (fun w1 w2 => Ext w1 w2) w1 w1 := Ext.refl w1
  refine h_take 0 rfl (by kernel_rfl) (by kernel_rfl) (by kernel_rfl) hSr0 (fun wS hSS => by (have hX := hX.ext hSS; have hB := hB.ext hSS; have hM := hM.ext hSS; have hF := hF.ext hSS; have hb0 := hb0.ext hSS; have hb1 := hb1.ext hSS; have hb2 := hb2.ext hSS; have hXe := hXe.ext hSS; exact (x_load1 un23 rfl (hb0.cell (rfl))))) ?_
  refine h_take 1 rfl (by kernel_rfl) (by kernel_rfl) (by kernel_rfl) hSr0 (fun wS hSS => by (have hX := hX.ext hSS; have hB := hB.ext hSS; have hM := hM.ext hSS; have hF := hF.ext hSS; have hb0 := hb0.ext hSS; have hb1 := hb1.ext hSS; have hb2 := hb2.ext hSS; have hXe := hXe.ext hSS; exact (x_nilCheck rfl))) ?_
  refine h_take 2 rfl (by kernel_rfl) (by kernel_rfl) (by kernel_rfl) hSr0 (fun wS hSS => by (have hX := hX.ext hSS; have hB := hB.ext hSS; have hM := hM.ext hSS; have hF := hF.ext hSS; have hb0 := hb0.ext hSS; have hb1 := hb1.ext hSS; have hb2 := hb2.ext hSS; have hXe := hXe.ext hSS; exact (x_fieldAddr fo66_2 sz64 rfl))) ?_
  refine h_take 3 rfl (by kernel_rfl) (by kernel_rfl) (by kernel_rfl) hSr0 (fun wS hSS => by (have hX := hX.ext hSS; have hB := hB.ext hSS; have hM := hM.ext hSS; have hF := hF.ext hSS; have hb0 := hb0.ext hSS; have hb1 := hb1.ext hSS; have hb2 := hb2.ext hSS; have hXe := hXe.ext hSS; exact (x_load1 un64 rfl (hB.cell (rfl))))) ?_
  refine h_take 4 rfl (by kernel_rfl) (by kernel_rfl) (by kernel_rfl) hSr0 (fun wS hSS => by (have hX := hX.ext hSS; have hB := hB.ext hSS; have hM := hM.ext hSS; have hF := hF.ext hSS; have hb0 := hb0.ext hSS; have hb1 := hb1.ext hSS; have hb2 := hb2.ext hSS; have hXe := hXe.ext hSS; exact (x_load1 un9 rfl (hb1.cell (rfl))))) ?_
  obtain ⟨⟨p0, n0, c0, s0⟩, hr0⟩ : ∃ x : Raw, x = (μ k).getD raw0 := ⟨_, rfl⟩
  obtain ⟨hF0, hs0⟩ := hF.get k
  rw [← hr0] at hF0 hs0
  simp only at hF0 hs0
  refine h_take 5 rfl (by kernel_rfl) (by kernel_rfl) (by kernel_rfl) hSr0 (fun wS hSS => by (have hX := hX.ext hSS; have hB := hB.ext hSS; have hM := hM.ext hSS; have hF := hF.ext hSS; have hb0 := hb0.ext hSS; have hb1 := hb1.ext hSS; have hb2 := hb2.ext hSS; have hXe := hXe.ext hSS; exact (((lookF u64 zr76 (keyOk_str u9) hM k rfl rfl).1).cast (by rw [← hr0]; rfl : _ = Value.agg #[.slice p0 n0 c0, .int .i64 (s0 : Int)])))) ?_
  refine h_one 6 _ rfl (by kernel_rfl) (hop_of_list (fun Q6 hQ6 => ?_))
  have hXs := hX.size
  refine o_alloc zr76 ?_
  intro w2 g3 hN3
  have hE2 := hN3.ext
  have hX := hX.ext hE2
  have hB := hB.ext hE2
  have hM := hM.ext hE2
  have hF := hF.ext hE2
  have hb0 := hb0.ext hE2
  have hb1 := hb1.ext hE2
  have hb2 := hb2.ext hE2
  have hXe := hXe.ext hE2
  have hSr0 := hSr0.ext hE2
  have hB3 := hN3.blk
  refine hop_end hQ6 ⟨hSr0, ?_⟩
  refine h_one 7 _ rfl (by kernel_rfl) (hop_of_list (fun Q7 hQ7 => ?_))
  have hg3 : w.heap.size ≤ g3 := by rw [hN3.g_eq]; exact hXs
  refine o_storeAll rfl (by conv => lhs; whnf) (by simp [Value.oneCell']) (by exact sz76) hB3 (by rfl) ?_
  intro w3 hP3
  have hX := hX.put hP3 (⟨.inr hg3, by decide⟩)
  have hB := hB.one hP3.one (by decide)
  have hM := hM.mod (hP3.mod 0 (Nat.zero_le _)) (Nat.zero_le _) (by decide)
  have hF := hF.one hP3.one (by decide)
  have hb0 := hb0.one hP3.one (by decide)
  have hb1 := hb1.one hP3.one (by decide)
  have hb2 := hb2.one hP3.one (by decide)
  have hXe := hXe.put hP3 (by omega)
  have hSr0 := hSr0.put hP3 (by rw [hN3.g_eq]; exact Nat.le_refl _)
  have hB3 := hP3.blk
  refine hop_end hQ7 ⟨hSr0, ?_⟩
  refine h_done (by kernel_rfl) ?_
  refine t_n ?_
  refine c_seq ?_
  refine r_plain ?_
  refine p1 (x_fieldAddr fo76_0 sz31 rfl) ?_
  refine p1 (x_load1 un31 rfl (hB3.cell (rfl))) ?_
  refine p1 (x_load1 un31 rfl (hb2.cell (rfl))) ?_
  have hX0s := hX.size
  have hF0 := (hF.get k).1
  rw [← hr0] at hF0
  simp only at hF0
  have hl1 := hl.ext hXe
  have hlen0 := hF0.len
  have hgl := (getF_le hok k).1
  have hge : (ascA D.l k).getD ([], 0) = getF D k := rfl
  rw [hge] at hF0 hlen0
  refine o_appendF ys u31 inf5 rfl rfl hF0 (by rw [← flat_single]; exact src_pure u31 hl1 (by decide)) hl.len (by omega) ?_
  intro pz cz w4 hF1 hpp hO hFo
  have hap := apart_app hF hk1 (p' := pz) (by rw [← hr0]; exact hpp)
  have hB := hB.oneR hO hF0 (by decide)
  have hB3 := hB3.oneR hO hF0 (by decide)
  have hb0 := hb0.oneR hO hF0 (by decide)
  have hb1 := hb1.oneR hO hF0 (by decide)
  have hb2 := hb2.oneR hO hF0 (by decide)
  have hM := hM.oneR hO hF0 rfl
  have hF := hF.app hk1 (by rw [← hr0]; exact hO) (xs := (getF D k).1) (by rw [← hr0, hk2, hge, hs0, hge]) (by rw [← hr0]; exact hFo)
  have hX := hX.oneR hO (.inl hF0) (by decide)
  have hF := hF.mono (S' := fun j => S j ∨ w.heap.size ≤ j) (fun _ _ h => .inl h)
  have hF1 := hF1.mono (S' := fun j => S j ∨ w.heap.size ≤ j) (fun _ _ h => h.imp id fun h => by have := hX0s; omega)
  skip
  refine p1 (x_fieldAddr fo76_0 sz31 rfl) ?_
  refine o_store1 rfl (by conv => lhs; whnf) rfl rfl sz31 hB3 (by simp) ?_
  intro w5 hP5
  have hX := hX.put hP5 (⟨.inr hg3, by decide⟩)
  have hB := hB.one hP5.one (by decide)
  have hB3 := hP5.blk
  simp only [List.setIfInBounds_toArray, List.set_cons_zero, List.set_cons_succ] at hB3
  have hb0 := hb0.one hP5.one (by decide)
  have hb1 := hb1.one hP5.one (by decide)
  have hb2 := hb2.one hP5.one (by decide)
  have hM := hM.mod (hP5.mod 0 (Nat.zero_le _)) (Nat.zero_le _) (by decide)
  have hF := hF.one hP5.one (by decide)
  have hF1 := hF1.one hP5.one (by decide)
  refine r_nil ?_
  refine t_n ?_
  refine c_seq ?_
  refine r_tail 6 mixed (by kernel_rfl) ?_
  intro w6 hE6
  have hX := hX.ext hE6
  have hB := hB.ext hE6
  have hB3 := hB3.ext hE6
  have hb0 := hb0.ext hE6
  have hb1 := hb1.ext hE6
  have hb2 := hb2.ext hE6
  have hM := hM.ext hE6
  have hF := hF.ext hE6
  have hF1 := hF1.ext hE6
  refine s1 (x_load1 un23 rfl (hb0.cell (rfl))) ?_
  refine s1 (x_nilCheck rfl) ?_
  refine s1 (x_fieldAddr fo66_2 sz64 rfl) ?_
  refine s1 (x_load1 un64 rfl (hB.cell (rfl))) ?_
  refine s1 (x_load1 un9 rfl (hb1.cell (rfl))) ?_
  refine s1 (x_loadB ua76 rfl hB3 sz76) ?_
  refine s_nil ?_
  have hMt7 := hM.tyOf
  refine o_update1 (a := k) (b := (pz, n0 + n, cz, s0)) u64 (keyOk_str u9) rfl rfl rfl hM rfl (Nat.zero_le _) (by decide) ?_
  intro w7 hM hMm7 hne7
  have hO7 := One.ofMod hMm7 hMt7 hne7
  have hX := hX.one hO7 ⟨.inl hSr, by decide⟩
  have hB := hB.one hO7 (by decide)
  have hb0 := hb0.one hO7 (by decide)
  have hb1 := hb1.one hO7 (by decide)
  have hb2 := hb2.one hO7 (by decide)
  have hB3 := hB3.one hO7 (by decide)
  have hF := hF.one hO7 (by decide)
  have hF1 := hF1.one hO7 (by decide)
  have hF := hF.put hok.rise k (pz, n0 + n, cz, s0) ((getF D k).1 ++ ys, (getF D k).2) hs0 hF1 hap
  refine r_nil ?_
  refine t_n ?_
  refine r_tail 9 mixed (by kernel_rfl) ?_
  intro w8 hE8
  have hX := hX.ext hE8
  have hM := hM.ext hE8
  have hF := hF.ext hE8
  have hB := hB.ext hE8
  have hb0 := hb0.ext hE8
  have hb1 := hb1.ext hE8
  have hb2 := hb2.ext hE8
  have hB3 := hB3.ext hE8
  refine s1 (x_load1 un23 rfl (hb0.cell (rfl))) ?_
  refine s1 (x_nilCheck rfl) ?_
  refine s1 (x_fieldAddr fo66_1 sz3 rfl) ?_
  refine s1 (x_load1 un3 rfl (hB.cell (rfl))) ?_
  refine s1 (x_load1 un31 rfl (hb2.cell (rfl))) ?_
  refine s1 (x_len_slice u31 rfl) ?_
  have hnn := hl.len
  refine s1 (x_add rfl rfl (fits_i64 (by omega) (by omega))) ?_
  refine s1 (x_nilCheck rfl) ?_
  refine s1 (x_fieldAddr fo66_1 sz3 rfl) ?_
  refine s_nil ?_
  refine o_store1 rfl (by conv => lhs; whnf) rfl rfl sz3 hB (by simp) ?_
  intro w9 hP9
  have hX := hX.put hP9 (⟨.inl hSg, by decide⟩)
  have hM := hM.mod (hP9.mod 0 (Nat.zero_le _)) (Nat.zero_le _) (by decide)
  have hF := hF.one hP9.one (by decide)
  have hB := hP9.blk
  simp only [List.setIfInBounds_toArray, List.set_cons_zero, List.set_cons_succ] at hB
  have hb0 := hb0.one hP9.one (by decide)
  have hb1 := hb1.one hP9.one (by decide)
  have hb2 := hb2.one hP9.one (by decide)
  have hB3 := hB3.one hP9.one (by decide)
  refine r_nil ?_
  refine end0n rfl ?_
  have hu := there_used hok hk (some ((getF D k).1 ++ ys, (getF D k).2))
  unfold getF ascF at hu
  simp only [Option.map_some, Option.getD_some, List.length_append] at hu
  have hgl := (getF_le hok k).1
  have hnn := hl.len
  unfold getF ascF at hgl
  exact ⟨Dsk.made hB (by unfold getF ascF; omega) hM hSg (.inl hSr) hF (fun _ _ h => h), hX⟩
theorem disk_Remove_do (g : Nat) (S : Nat → Prop) (D : DS) (w : World) (hD : Dsk S w g D) (hok : DOk D) (k : ByteArray) (hk : ascA D.l k ≠ none) (b0 : Nat) (b1 : Nat) (hb0 : Blk w b0 #[.pointer (some ⟨g, 0, none⟩)] 23) (hb1 : Blk w b1 #[.string k] 9) :
    Ret Try.prog 49 [.pointer (some ⟨b0, 0, none⟩), .pointer (some ⟨b1, 0, none⟩)] w (fun v w' => Dsk (grow S w w') w' g { D with l := insA D.l k none } ∧ ModS S ED w w') := by
  obtain ⟨r, μ, hB, hM, hSg, hSr, hF⟩ := hD.ex
  have hW1 := Nat.le_refl w.heap.size
  have hroom := hok.room
  have hmost := hok.most
  obtain ⟨hk1, hk2⟩ := hF.there hk
  have hX := ModS.refl S ED w
  refine enter 22 _ Try.func49 rfl rfl (Nat.le_of_ble_eq_true rfl) rfl ?_
  refine c_seq ?_
  refine r_tail 15 mixed (by kernel_rfl) ?_
  intro w1 hE1
  have hX := hX.ext hE1
  have hB := hB.ext hE1
  have hM := hM.ext hE1
  have hF := hF.ext hE1
  have hb0 := hb0.ext hE1
  have hb1 := hb1.ext hE1
  refine s1 (x_load1 un23 rfl (hb0.cell (rfl))) ?_
  refine s1 (x_nilCheck rfl) ?_
  refine s1 (x_fieldAddr fo66_1 sz3 rfl) ?_
  refine s1 (x_load1 un3 rfl (hB.cell (rfl))) ?_
  refine s1 (x_load1 un23 rfl (hb0.cell (rfl))) ?_
  refine s1 (x_nilCheck rfl) ?_
  refine s1 (x_fieldAddr fo66_2 sz64 rfl) ?_
  refine s1 (x_load1 un64 rfl (hB.cell (rfl))) ?_
  refine s1 (x_load1 un9 rfl (hb1.cell (rfl))) ?_
  obtain ⟨⟨p0, n0, c0, s0⟩, hr0⟩ : ∃ x : Raw, x = (μ k).getD raw0 := ⟨_, rfl⟩
  obtain ⟨hF0, hs0⟩ := hF.get k
  rw [← hr0] at hF0 hs0
  simp only at hF0 hs0
  refine s1 (((lookF u64 zr76 (keyOk_str u9) hM k rfl rfl).1).cast (by rw [← hr0]; rfl : _ = Value.agg #[.slice p0 n0 c0, .int .i64 (s0 : Int)])) ?_
  refine s1 (x_field1 fo76_0 un31 rfl rfl) ?_
  refine s1 (x_len_slice u31 rfl) ?_
  have hgl := (getF_le hok k).1
  have hlen0 := hF0.len
  unfold getF ascF at hgl
  refine s1 (x_sub rfl rfl (fits_i64 (by omega) (by omega))) ?_
  refine s1 (x_nilCheck rfl) ?_
  refine s1 (x_fieldAddr fo66_1 sz3 rfl) ?_
  refine s_nil ?_
  refine o_store1 rfl (by conv => lhs; whnf) rfl rfl sz3 hB (by simp) ?_
  intro w2 hP2
  have hX := hX.put hP2 (⟨.inl hSg, by decide⟩)
  have hB := hP2.blk
  simp only [List.setIfInBounds_toArray, List.set_cons_zero, List.set_cons_succ] at hB
  have hM := hM.mod (hP2.mod 0 (Nat.zero_le _)) (Nat.zero_le _) (by decide)
  have hF := hF.one hP2.one (by decide)
  have hb0 := hb0.one hP2.one (by decide)
  have hb1 := hb1.one hP2.one (by decide)
  refine r_nil ?_
  refine t_n ?_
  refine r_tail 5 mixed (by kernel_rfl) ?_
  intro w3 hE3
  have hX := hX.ext hE3
  have hB := hB.ext hE3
  have hM := hM.ext hE3
  have hF := hF.ext hE3
  have hb0 := hb0.ext hE3
  have hb1 := hb1.ext hE3
  refine s1 (x_load1 un23 rfl (hb0.cell (rfl))) ?_
  refine s1 (x_nilCheck rfl) ?_
  refine s1 (x_fieldAddr fo66_2 sz64 rfl) ?_
  refine s1 (x_load1 un64 rfl (hB.cell (rfl))) ?_
  refine s1 (x_load1 un9 rfl (hb1.cell (rfl))) ?_
  refine s_nil ?_
  have hMt4 := hM.tyOf
  refine o_delete1 (a := k) u64 (keyOk_str u9) rfl rfl hM (Nat.zero_le _) (by decide) ?_
  intro w4 hM hMm4 hne4
  have hO4 := One.ofMod hMm4 hMt4 hne4
  have hX := hX.one hO4 ⟨.inl hSr, by decide⟩
  have hB := hB.one hO4 (by decide)
  have hb0 := hb0.one hO4 (by decide)
  have hb1 := hb1.one hO4 (by decide)
  have hF := hF.one hO4 (by decide)
  have hF := hF.del hok.rise k
  refine r_nil ?_
  refine end0n rfl ?_
  have hu := there_used hok hk none
  unfold getF ascF at hu
  simp only [Option.map_none, Option.getD_none] at hu
  exact ⟨Dsk.made hB (by omega) hM hSg hSr hF same_open, hX⟩
theorem disk_Rename_do (g : Nat) (S : Nat → Prop) (D : DS) (w : World) (hD : Dsk S w g D) (hok : DOk D) (old now : ByteArray) (hk : ascA D.l old ≠ none) (b0 : Nat) (b1 : Nat) (b2 : Nat) (hb0 : Blk w b0 #[.string old] 9) (hb1 : Blk w b1 #[.string now] 9) (hb2 : Blk w b2 #[.pointer (some ⟨g, 0, none⟩)] 23) :
    Ret Try.prog 51 [.pointer (some ⟨b0, 0, none⟩), .pointer (some ⟨b1, 0, none⟩), .pointer (some ⟨b2, 0, none⟩)] w (fun v w' => Dsk (grow S w w') w' g { D with l := renL D.l old now (getF D old) } ∧ ModS S ED w w') := by
  obtain ⟨r, μ, hB, hM, hSg, hSr, hF⟩ := hD.ex
  have hW1 := Nat.le_refl w.heap.size
  have hroom := hok.room
  have hmost := hok.most
  obtain ⟨hk1, hk2⟩ := hF.there hk
  have hX := ModS.refl S ED w
  refine enter 37 _ Try.func51 rfl rfl (Nat.le_of_ble_eq_true rfl) rfl ?_
  refine c_seq ?_
  refine c_seq ?_
  refine r_plain ?_
  refine p1 (x_load1 un9 rfl (hb0.cell (rfl))) ?_
  refine p1 (x_load1 un9 rfl (hb1.cell (rfl))) ?_
  refine p1 (x_eql_str rfl rfl) ?_
  refine r_nil ?_
  refine t_n ?_
  first | refine c_dec rfl (fun hc5 => ?_) (fun hc5 => ?_) | refine c_if rfl (fun hc5 => ?_) (fun hc5 => ?_)
  · try simp only [decide_eq_true_eq, decide_eq_false_iff_not, Bool.not_eq_true, Bool.not_eq_false, Bool.not_eq_eq_eq_not, Bool.not_true, Bool.not_false, Int.not_lt, Int.not_le] at hc5
    have hll : renL D.l old now (getF D old) = D.l := if_pos hc5
    refine c_ret ?_
    refine t_r ?_
    refine end0 rfl ?_
    first
      | (rw [hll]; exact ⟨Dsk.made hB rfl hM hSg hSr hF same_open, hX⟩)
      | (have h5 := (ren_ok hok (now := now) hk).2.2.2.2 hc5
         unfold getF ascF at h5
         rw [hr9] at hM
         have hF := hF.ren hok.rise hc5 hk
         exact ⟨Dsk.made hB (by unfold getF ascF; omega) hM hSg hSr (by rw [hll]; exact hF) same_open, hX⟩)
  · try simp only [decide_eq_true_eq, decide_eq_false_iff_not, Bool.not_eq_true, Bool.not_eq_false, Bool.not_eq_eq_eq_not, Bool.not_true, Bool.not_false, Int.not_lt, Int.not_le] at hc5
    have hll : renL D.l old now (getF D old) = insA (insA D.l now (some (getF D old))) old none := if_neg hc5
    refine c_skip ?_
    refine t_n ?_
    refine c_seq ?_
    refine r_tail 15 mixed (by kernel_rfl) ?_
    intro w1 hE1
    have hX := hX.ext hE1
    have hB := hB.ext hE1
    have hM := hM.ext hE1
    have hF := hF.ext hE1
    have hb0 := hb0.ext hE1
    have hb1 := hb1.ext hE1
    have hb2 := hb2.ext hE1
    refine s1 (x_load1 un23 rfl (hb2.cell (rfl))) ?_
    refine s1 (x_nilCheck rfl) ?_
    refine s1 (x_fieldAddr fo66_1 sz3 rfl) ?_
    refine s1 (x_load1 un3 rfl (hB.cell (rfl))) ?_
    refine s1 (x_load1 un23 rfl (hb2.cell (rfl))) ?_
    refine s1 (x_nilCheck rfl) ?_
    refine s1 (x_fieldAddr fo66_2 sz64 rfl) ?_
    refine s1 (x_load1 un64 rfl (hB.cell (rfl))) ?_
    refine s1 (x_load1 un9 rfl (hb1.cell (rfl))) ?_
    obtain ⟨⟨p0, n0, c0, s0⟩, hr0⟩ : ∃ x : Raw, x = (μ now).getD raw0 := ⟨_, rfl⟩
    obtain ⟨hF0, hs0⟩ := hF.get now
    rw [← hr0] at hF0 hs0
    simp only at hF0 hs0
    refine s1 (((lookF u64 zr76 (keyOk_str u9) hM now rfl rfl).1).cast (by rw [← hr0]; rfl : _ = Value.agg #[.slice p0 n0 c0, .int .i64 (s0 : Int)])) ?_
    refine s1 (x_field1 fo76_0 un31 rfl rfl) ?_
    refine s1 (x_len_slice u31 rfl) ?_
    have hgl := (getF_le hok now).1
    have hlen0 := hF0.len
    unfold getF ascF at hgl
    refine s1 (x_sub rfl rfl (fits_i64 (by omega) (by omega))) ?_
    refine s1 (x_nilCheck rfl) ?_
    refine s1 (x_fieldAddr fo66_1 sz3 rfl) ?_
    refine s_nil ?_
    refine o_store1 rfl (by conv => lhs; whnf) rfl rfl sz3 hB (by simp) ?_
    intro w2 hP2
    have hX := hX.put hP2 (⟨.inl hSg, by decide⟩)
    have hB := hP2.blk
    simp only [List.setIfInBounds_toArray, List.set_cons_zero, List.set_cons_succ] at hB
    have hM := hM.mod (hP2.mod 0 (Nat.zero_le _)) (Nat.zero_le _) (by decide)
    have hF := hF.one hP2.one (by decide)
    have hb0 := hb0.one hP2.one (by decide)
    have hb1 := hb1.one hP2.one (by decide)
    have hb2 := hb2.one hP2.one (by decide)
    refine r_nil ?_
    refine t_n ?_
    refine c_seq ?_
    refine r_tail 11 mixed (by kernel_rfl) ?_
    intro w3 hE3
    have hX := hX.ext hE3
    have hB := hB.ext hE3
    have hM := hM.ext hE3
    have hF := hF.ext hE3
    have hb0 := hb0.ext hE3
    have hb1 := hb1.ext hE3
    have hb2 := hb2.ext hE3
    refine s1 (x_load1 un23 rfl (hb2.cell (rfl))) ?_
    refine s1 (x_nilCheck rfl) ?_
    refine s1 (x_fieldAddr fo66_2 sz64 rfl) ?_
    refine s1 (x_load1 un64 rfl (hB.cell (rfl))) ?_
    refine s1 (x_load1 un9 rfl (hb1.cell (rfl))) ?_
    refine s1 (x_load1 un23 rfl (hb2.cell (rfl))) ?_
    refine s1 (x_nilCheck rfl) ?_
    refine s1 (x_fieldAddr fo66_2 sz64 rfl) ?_
    refine s1 (x_load1 un64 rfl (hB.cell (rfl))) ?_
    refine s1 (x_load1 un9 rfl (hb0.cell (rfl))) ?_
    obtain ⟨⟨p9, n9, c9, s9⟩, hr9⟩ : ∃ x : Raw, x = (μ old).getD raw0 := ⟨_, rfl⟩
    obtain ⟨hF9, hs9⟩ := hF.get old
    rw [← hr9] at hF9 hs9
    simp only at hF9 hs9
    refine s1 (((lookF u64 zr76 (keyOk_str u9) hM old rfl rfl).1).cast (by rw [← hr9]; rfl : _ = Value.agg #[.slice p9 n9 c9, .int .i64 (s9 : Int)])) ?_
    refine s_nil ?_
    have hMt4 := hM.tyOf
    refine o_update1 (a := now) (b := (p9, n9, c9, s9)) u64 (keyOk_str u9) rfl rfl rfl hM rfl (Nat.zero_le _) (by decide) ?_
    intro w4 hM hMm4 hne4
    have hO4 := One.ofMod hMm4 hMt4 hne4
    have hX := hX.one hO4 ⟨.inl hSr, by decide⟩
    have hB := hB.one hO4 (by decide)
    have hb0 := hb0.one hO4 (by decide)
    have hb1 := hb1.one hO4 (by decide)
    have hb2 := hb2.one hO4 (by decide)
    have hF := hF.one hO4 (by decide)
    skip
    refine r_nil ?_
    refine t_n ?_
    refine r_tail 5 mixed (by kernel_rfl) ?_
    intro w5 hE5
    have hX := hX.ext hE5
    have hM := hM.ext hE5
    have hF := hF.ext hE5
    have hB := hB.ext hE5
    have hb0 := hb0.ext hE5
    have hb1 := hb1.ext hE5
    have hb2 := hb2.ext hE5
    refine s1 (x_load1 un23 rfl (hb2.cell (rfl))) ?_
    refine s1 (x_nilCheck rfl) ?_
    refine s1 (x_fieldAddr fo66_2 sz64 rfl) ?_
    refine s1 (x_load1 un64 rfl (hB.cell (rfl))) ?_
    refine s1 (x_load1 un9 rfl (hb0.cell (rfl))) ?_
    refine s_nil ?_
    have hMt6 := hM.tyOf
    refine o_delete1 (a := old) u64 (keyOk_str u9) rfl rfl hM (Nat.zero_le _) (by decide) ?_
    intro w6 hM hMm6 hne6
    have hO6 := One.ofMod hMm6 hMt6 hne6
    have hX := hX.one hO6 ⟨.inl hSr, by decide⟩
    have hB := hB.one hO6 (by decide)
    have hb0 := hb0.one hO6 (by decide)
    have hb1 := hb1.one hO6 (by decide)
    have hb2 := hb2.one hO6 (by decide)
    have hF := hF.one hO6 (by decide)
    skip
    refine r_nil ?_
    refine end0n rfl ?_
    first
      | (rw [hll]; exact ⟨Dsk.made hB rfl hM hSg hSr hF same_open, hX⟩)
      | (have h5 := (ren_ok hok (now := now) hk).2.2.2.2 hc5
         unfold getF ascF at h5
         rw [hr9] at hM
         have hF := hF.ren hok.rise hc5 hk
         exact ⟨Dsk.made hB (by unfold getF ascF; omega) hM hSg hSr (by rw [hll]; exact hF) same_open, hX⟩)
theorem disk_Cut_do (g : Nat) (S : Nat → Prop) (D : DS) (w : World) (hD : Dsk S w g D) (hok : DOk D) (k : ByteArray) (hk : ascA D.l k ≠ none) (n : Nat) (hn : n ≤ (getF D k).1.length) (b0 : Nat) (b1 : Nat) (b2 : Nat) (hb0 : Blk w b0 #[.pointer (some ⟨g, 0, none⟩)] 23) (hb1 : Blk w b1 #[.string k] 9) (hb2 : Blk w b2 #[.int .i64 (n : Int)] 3) :
    Ret Try.prog 52 [.pointer (some ⟨b0, 0, none⟩), .pointer (some ⟨b1, 0, none⟩), .pointer (some ⟨b2, 0, none⟩)] w (fun v w' => Dsk (grow S w w') w' g { D with l := insA D.l k (some ((getF D k).1.take n, n)) } ∧ ModS S ED w w') := by
  obtain ⟨r, μ, hB, hM, hSg, hSr, hF⟩ := hD.ex
  have hW1 := Nat.le_refl w.heap.size
  have hroom := hok.room
  have hmost := hok.most
  obtain ⟨hk1, hk2⟩ := hF.there hk
  have hX := ModS.refl S ED w
  refine enter 34 _ Try.func52 rfl rfl (Nat.le_of_ble_eq_true rfl) rfl ?_
  refine c_seq ?_
  refine r_held (fun w1 w2 => Ext w1 w2) mixed ?_
  intro w1 hE1
  have hX := hX.ext hE1
  have hB := hB.ext hE1
  have hM := hM.ext hE1
  have hF := hF.ext hE1
  have hb0 := hb0.ext hE1
  have hb1 := hb1.ext hE1
  have hb2 := hb2.ext hE1
  have hSr0 : (fun w1 w2 => Ext w1 w2) w1 w1 := Ext.refl w1
  refine h_take 0 rfl (by kernel_rfl) (by kernel_rfl) (by kernel_rfl) hSr0 (fun wS hSS => by (have hX := hX.ext hSS; have hB := hB.ext hSS; have hM := hM.ext hSS; have hF := hF.ext hSS; have hb0 := hb0.ext hSS; have hb1 := hb1.ext hSS; have hb2 := hb2.ext hSS; exact (x_load1 un23 rfl (hb0.cell (rfl))))) ?_
  refine h_take 1 rfl (by kernel_rfl) (by kernel_rfl) (by kernel_rfl) hSr0 (fun wS hSS => by (have hX := hX.ext hSS; have hB := hB.ext hSS; have hM := hM.ext hSS; have hF := hF.ext hSS; have hb0 := hb0.ext hSS; have hb1 := hb1.ext hSS; have hb2 := hb2.ext hSS; exact (x_nilCheck rfl))) ?_
  refine h_take 2 rfl (by kernel_rfl) (by kernel_rfl) (by kernel_rfl) hSr0 (fun wS hSS => by (have hX := hX.ext hSS; have hB := hB.ext hSS; have hM := hM.ext hSS; have hF := hF.ext hSS; have hb0 := hb0.ext hSS; have hb1 := hb1.ext hSS; have hb2 := hb2.ext hSS; exact (x_fieldAddr fo66_2 sz64 rfl))) ?_
  refine h_take 3 rfl (by kernel_rfl) (by kernel_rfl) (by kernel_rfl) hSr0 (fun wS hSS => by (have hX := hX.ext hSS; have hB := hB.ext hSS; have hM := hM.ext hSS; have hF := hF.ext hSS; have hb0 := hb0.ext hSS; have hb1 := hb1.ext hSS; have hb2 := hb2.ext hSS; exact (x_load1 un64 rfl (hB.cell (rfl))))) ?_
  refine h_take 4 rfl (by kernel_rfl) (by kernel_rfl) (by kernel_rfl) hSr0 (fun wS hSS => by (have hX := hX.ext hSS; have hB := hB.ext hSS; have hM := hM.ext hSS; have hF := hF.ext hSS; have hb0 := hb0.ext hSS; have hb1 := hb1.ext hSS; have hb2 := hb2.ext hSS; exact (x_load1 un9 rfl (hb1.cell (rfl))))) ?_
  obtain ⟨⟨p0, n0, c0, s0⟩, hr0⟩ : ∃ x : Raw, x = (μ k).getD raw0 := ⟨_, rfl⟩
  obtain ⟨hF0, hs0⟩ := hF.get k
  rw [← hr0] at hF0 hs0
  simp only at hF0 hs0
  refine h_take 5 rfl (by kernel_rfl) (by kernel_rfl) (by kernel_rfl) hSr0 (fun wS hSS => by (have hX := hX.ext hSS; have hB := hB.ext hSS; have hM := hM.ext hSS; have hF := hF.ext hSS; have hb0 := hb0.ext hSS; have hb1 := hb1.ext hSS; have hb2 := hb2.ext hSS; exact (((lookF u64 zr76 (keyOk_str u9) hM k rfl rfl).1).cast (by rw [← hr0]; rfl : _ = Value.agg #[.slice p0 n0 c0, .int .i64 (s0 : Int)])))) ?_
  refine h_one 6 _ rfl (by kernel_rfl) (hop_of_list (fun Q6 hQ6 => ?_))
  have hXs := hX.size
  refine o_alloc zr76 ?_
  intro w2 g3 hN3
  have hE2 := hN3.ext
  have hX := hX.ext hE2
  have hB := hB.ext hE2
  have hM := hM.ext hE2
  have hF := hF.ext hE2
  have hb0 := hb0.ext hE2
  have hb1 := hb1.ext hE2
  have hb2 := hb2.ext hE2
  have hSr0 := hSr0.ext hE2
  have hB3 := hN3.blk
  refine hop_end hQ6 ⟨hSr0, ?_⟩
  refine h_one 7 _ rfl (by kernel_rfl) (hop_of_list (fun Q7 hQ7 => ?_))
  have hg3 : w.heap.size ≤ g3 := by rw [hN3.g_eq]; exact hXs
  refine o_storeAll rfl (by conv => lhs; whnf) (by simp [Value.oneCell']) (by exact sz76) hB3 (by rfl) ?_
  intro w3 hP3
  have hX := hX.put hP3 (⟨.inr (by rw [hN3.g_eq]; exact hXs), by decide⟩)
  have hB := hB.one hP3.one (by decide)
  have hM := hM.mod (hP3.mod 0 (Nat.zero_le _)) (Nat.zero_le _) (by decide)
  have hF := hF.one hP3.one (by decide)
  have hb0 := hb0.one hP3.one (by decide)
  have hb1 := hb1.one hP3.one (by decide)
  have hb2 := hb2.one hP3.one (by decide)
  have hSr0 := hSr0.put hP3 (by rw [hN3.g_eq]; exact Nat.le_refl _)
  have hB3 := hP3.blk
  refine hop_end hQ7 ⟨hSr0, ?_⟩
  refine h_done (by kernel_rfl) ?_
  refine t_n ?_
  refine c_seq ?_
  refine r_tail 12 mixed (by kernel_rfl) ?_
  intro w4 hE4
  have hX := hX.ext hE4
  have hB := hB.ext hE4
  have hM := hM.ext hE4
  have hF := hF.ext hE4
  have hb0 := hb0.ext hE4
  have hb1 := hb1.ext hE4
  have hb2 := hb2.ext hE4
  have hB3 := hB3.ext hE4
  refine s1 (x_load1 un23 rfl (hb0.cell (rfl))) ?_
  refine s1 (x_nilCheck rfl) ?_
  refine s1 (x_fieldAddr fo66_1 sz3 rfl) ?_
  refine s1 (x_load1 un3 rfl (hB.cell (rfl))) ?_
  refine s1 (x_fieldAddr fo76_0 sz31 rfl) ?_
  refine s1 (x_load1 un31 rfl (hB3.cell (rfl))) ?_
  refine s1 (x_len_slice u31 rfl) ?_
  refine s1 (x_load1 un3 rfl (hb2.cell (rfl))) ?_
  have hF0 := (hF.get k).1
  rw [← hr0] at hF0
  simp only at hF0
  have hgl := (getF_le hok k).1
  have hlen0 := hF0.len
  unfold getF ascF at hgl
  try unfold getF ascF at hn
  refine s1 (x_sub rfl rfl (fits_i64 (by omega) (by omega))) ?_
  refine s1 (x_sub rfl rfl (fits_i64 (by omega) (by omega))) ?_
  refine s1 (x_nilCheck rfl) ?_
  refine s1 (x_fieldAddr fo66_1 sz3 rfl) ?_
  refine s_nil ?_
  refine o_store1 rfl (by conv => lhs; whnf) rfl rfl sz3 hB (by simp) ?_
  intro w5 hP5
  have hX := hX.put hP5 (⟨.inl hSg, by decide⟩)
  have hB := hP5.blk
  simp only [List.setIfInBounds_toArray, List.set_cons_zero, List.set_cons_succ] at hB
  have hM := hM.mod (hP5.mod 0 (Nat.zero_le _)) (Nat.zero_le _) (by decide)
  have hF := hF.one hP5.one (by decide)
  have hb0 := hb0.one hP5.one (by decide)
  have hb1 := hb1.one hP5.one (by decide)
  have hb2 := hb2.one hP5.one (by decide)
  have hB3 := hB3.one hP5.one (by decide)
  refine r_nil ?_
  refine t_n ?_
  refine r_tail 12 mixed (by kernel_rfl) ?_
  intro w6 hE6
  have hX := hX.ext hE6
  have hB := hB.ext hE6
  have hM := hM.ext hE6
  have hF := hF.ext hE6
  have hb0 := hb0.ext hE6
  have hb1 := hb1.ext hE6
  have hb2 := hb2.ext hE6
  have hB3 := hB3.ext hE6
  refine s1 (x_load1 un23 rfl (hb0.cell (rfl))) ?_
  refine s1 (x_nilCheck rfl) ?_
  refine s1 (x_fieldAddr fo66_2 sz64 rfl) ?_
  refine s1 (x_load1 un64 rfl (hB.cell (rfl))) ?_
  refine s1 (x_load1 un9 rfl (hb1.cell (rfl))) ?_
  refine s1 (x_fieldAddr fo76_0 sz31 rfl) ?_
  refine s1 (x_load1 un31 rfl (hB3.cell (rfl))) ?_
  refine s1 (x_load1 un3 rfl (hb2.cell (rfl))) ?_
  refine s1 (x_load1 un3 rfl (hb2.cell (rfl))) ?_
  have hcc := hF0.cap
  have hlen0 := hF0.len
  try unfold getF ascF at hn
  refine s1 (x_slice_hm u31 sz5 rfl rfl rfl (by omega) (by omega) (by omega)) ?_
  refine s1 (x_load1 un3 rfl (hb2.cell (rfl))) ?_
  refine s1 (x_build2 pl76 (by conv => lhs; whnf) (by conv => lhs; whnf) rfl rfl) ?_
  refine s_nil ?_
  have hMt7 := hM.tyOf
  refine o_update1 (a := k) (b := (p0, n, n, n)) u64 (keyOk_str u9) rfl rfl rfl hM rfl (Nat.zero_le _) (by decide) ?_
  intro w7 hM hMm7 hne7
  have hO7 := One.ofMod hMm7 hMt7 hne7
  have hX := hX.one hO7 ⟨.inl hSr, by decide⟩
  have hB := hB.one hO7 (by decide)
  have hb0 := hb0.one hO7 (by decide)
  have hb1 := hb1.one hO7 (by decide)
  have hb2 := hb2.one hO7 (by decide)
  have hB3 := hB3.one hO7 (by decide)
  have hF := hF.one hO7 (by decide)
  have hF0 := (hF.get k).1
  rw [← hr0] at hF0
  simp only at hF0
  have hF := hF.put hok.rise k (p0, n, n, n) ((getF D k).1.take n, n) rfl (hF0.cut n (by omega)) (fun k' y hn hy => by have h9 := apart_put hF hk1 k' y hn hy; rw [← hr0] at h9; exact h9)
  refine r_nil ?_
  refine end0n rfl ?_
  have hu := there_used hok hk (some ((getF D k).1.take n, n))
  unfold getF ascF at hu
  simp only [Option.map_some, Option.getD_some, List.length_take] at hu
  try unfold getF ascF at hn
  exact ⟨Dsk.made hB (by unfold getF ascF at *; omega) hM hSg hSr hF same_open, hX⟩
end Go.Proofs.Eng
end
section
set_option linter.unusedVariables false
set_option linter.unusedSimpArgs false
set_option maxRecDepth 100000
set_option maxHeartbeats 4000000
namespace Go.Proofs.Eng
open Go.RowKit
open Extern.Stop (cell)
theorem fb41 : Try.f41.body.isNone = false := by kernel_rfl
theorem fb42 : Try.f42.body.isNone = false := by kernel_rfl
theorem fb46 : Try.f46.body.isNone = false := by kernel_rfl
theorem fb47 : Try.f47.body.isNone = false := by kernel_rfl
theorem fb48 : Try.f48.body.isNone = false := by kernel_rfl
theorem fb49 : Try.f49.body.isNone = false := by kernel_rfl
theorem fb50 : Try.f50.body.isNone = false := by kernel_rfl
theorem fb51 : Try.f51.body.isNone = false := by kernel_rfl
theorem fb52 : Try.f52.body.isNone = false := by kernel_rfl
theorem fn41 : (Try.f41.name == "runtime.NumGoroutine") = false := by kernel_rfl
theorem fn42 : (Try.f42.name == "runtime.NumGoroutine") = false := by kernel_rfl
theorem fn46 : (Try.f46.name == "runtime.NumGoroutine") = false := by kernel_rfl
theorem fn47 : (Try.f47.name == "runtime.NumGoroutine") = false := by kernel_rfl
theorem fn48 : (Try.f48.name == "runtime.NumGoroutine") = false := by kernel_rfl
theorem fn49 : (Try.f49.name == "runtime.NumGoroutine") = false := by kernel_rfl
theorem fn50 : (Try.f50.name == "runtime.NumGoroutine") = false := by kernel_rfl
theorem fn51 : (Try.f51.name == "runtime.NumGoroutine") = false := by kernel_rfl
theorem fn52 : (Try.f52.name == "runtime.NumGoroutine") = false := by kernel_rfl
theorem fo66_0 : fieldOf Try.prog 66 0 = some (3, 0) := by kernel_rfl
theorem inf9 : (Try.prog.info? 9).map (fun i => (i.zero, i.size, i.bytes)) = some (some (.string ByteArray.empty), 1, 16) := by kernel_rfl
end Go.Proofs.Eng
end
section
set_option linter.unusedVariables false
set_option linter.unusedSimpArgs false
set_option maxRecDepth 100000
set_option maxHeartbeats 4000000
namespace Go.Proofs.Eng
open Go.RowKit
open Extern.Stop (cell)
theorem disk_Create (g : Nat) (S : Nat → Prop) (D : DS) (w : World) (hD : Dsk S w g D) (hok : DOk D) (hst : D.steps < 4611686018427387904) (hle : D.left ≤ 9223372036854775807) (k : ByteArray) (hks : k.size ≤ 9223372036854775807) :
    Ret Try.prog 17 [.pointer (some ⟨g, 0, none⟩), .string k] w (fun v w' => v = .int .i64 (createD D k).2 ∧ Dsk (grow S w w') w' g (createD D k).1 ∧ ModS S ED w w') := by
  have hX := Ext.refl w
  refine enter 28 _ Try.func17 rfl rfl (Nat.le_of_ble_eq_true rfl) rfl ?_
  refine c_seq ?_
  refine r_plain ?_
  refine o_box1 (by conv => lhs; whnf) rfl ?_
  intro w1 g2 hN2
  have hE1 := hN2.ext
  have hX := hX.ext hE1
  have hD := hD.ext hE1
  have hB2 := hN2.blk
  refine o_box1 (by conv => lhs; whnf) rfl ?_
  intro w2 g3 hN3
  have hE2 := hN3.ext
  have hX := hX.ext hE2
  have hD := hD.ext hE2
  have hB2 := hB2.ext hE2
  have hB3 := hN3.blk
  refine p1 (x_assign (by conv => lhs; whnf)) ?_
  refine r_nil ?_
  refine t_n ?_
  refine c_seq ?_
  refine c_seq ?_
  refine r_plain ?_
  refine p1 (x_load1 un23 rfl (hB2.cell (rfl))) ?_
  refine p1 (x_load1 un9 rfl (hB3.cell (rfl))) ?_
  refine o_buildSlice u51 inf9 rfl (by decide) (fun base hb => fill_one (by rfl) base hb) ?_
  intro w3 g8 hN8
  have hE3 := hN8.ext
  have hX := hX.ext hE3
  have hD := hD.ext hE3
  have hB2 := hB2.ext hE3
  have hB3 := hB3.ext hE3
  have hS8 : Sl kStr 9 0 w3 (some ⟨g8, 0, none⟩) 1 1 [k] := (own_lit (B0 := 0) [k] hN8 (Nat.zero_le _) (by simp)).sl
  refine o_call Try.func41 fn41 fb41 (disk_look g S D _ hD [k] 0 _ _ _ hS8 (by intro s hs'; simp only [List.mem_singleton] at hs'; subst hs'; exact hks)) rfl ?_
  rintro v4 w4 ⟨rfl, hE4⟩
  have hX := hX.ext hE4
  have hD := hD.ext hE4
  have hB2 := hB2.ext hE4
  have hB3 := hB3.ext hE4
  have hS8 := hS8.ext hE4
  refine p1 (x_assign (by conv => lhs; whnf)) ?_
  refine r_nil ?_
  refine t_n ?_
  refine c_block ?_
  refine c_seq ?_
  refine r_plain ?_
  refine p1 (x_move (by conv => lhs; whnf)) ?_
  refine p1 (x_neq rfl rfl) ?_
  refine p1 (x_assign (by conv => lhs; whnf)) ?_
  refine r_nil ?_
  refine t_n ?_
  first | refine c_dec rfl (fun hc10 => ?_) (fun hc10 => ?_) | refine c_if rfl (fun hc10 => ?_) (fun hc10 => ?_)
  · try simp only [decide_eq_true_eq, decide_eq_false_iff_not, Bool.not_eq_true, Bool.not_eq_false, Bool.not_eq_eq_eq_not, Bool.not_true, Bool.not_false, Int.not_lt, Int.not_le] at hc10
    have hp : createD D k = (D, lookD D [k]) := if_pos hc10
    refine c_seq ?_
    refine r_plain ?_
    refine p1 (x_move (by conv => lhs; whnf)) ?_
    refine p1 (x_assign (by conv => lhs; whnf)) ?_
    refine r_nil ?_
    refine t_n ?_
    refine c_ret ?_
    refine b_r ?_
    refine t_r ?_
    refine end1 rfl (by conv => lhs; whnf) ?_
    first
      | exact ⟨by rw [hp], by rw [hp]; exact hD.grown w, ModS.ofExt hX⟩
      | exact ⟨by rw [hp], by rw [hp]; exact hD2.wide hXs, (ModS.ofExt hX).trans hM2 (fun _ _ h => h)⟩
  · try simp only [decide_eq_true_eq, decide_eq_false_iff_not, Bool.not_eq_true, Bool.not_eq_false, Bool.not_eq_eq_eq_not, Bool.not_true, Bool.not_false, Int.not_lt, Int.not_le] at hc10
    refine c_seq ?_
    refine r_plain ?_
    refine p1 (x_load1 un23 rfl (hB2.cell (rfl))) ?_
    refine p1 (x_load1 un9 rfl (hB3.cell (rfl))) ?_
    refine o_call Try.func42 fn42 fb42 (disk_there g S D _ hD k) rfl ?_
    rintro v5 w5 ⟨rfl, hE5⟩
    have hX := hX.ext hE5
    have hD := hD.ext hE5
    have hB2 := hB2.ext hE5
    have hB3 := hB3.ext hE5
    have hS8 := hS8.ext hE5
    refine p1 (x_assign (by conv => lhs; whnf)) ?_
    refine r_nil ?_
    refine t_n ?_
    first | refine c_dec rfl (fun hc14 => ?_) (fun hc14 => ?_) | refine c_if rfl (fun hc14 => ?_) (fun hc14 => ?_)
    · try simp only [decide_eq_true_eq, decide_eq_false_iff_not, Bool.not_eq_true, Bool.not_eq_false, Bool.not_eq_eq_eq_not, Bool.not_true, Bool.not_false, Int.not_lt, Int.not_le] at hc14
      have hp : createD D k = (D, 23) := by unfold createD; rw [if_neg hc10, if_pos hc14]
      refine c_seq ?_
      refine r_plain ?_
      refine p1 (x_assign (by conv => lhs; whnf)) ?_
      refine r_nil ?_
      refine t_n ?_
      refine c_ret ?_
      refine b_r ?_
      refine t_r ?_
      refine end1 rfl (by conv => lhs; whnf) ?_
      first
        | exact ⟨by rw [hp], by rw [hp]; exact hD.grown w, ModS.ofExt hX⟩
        | exact ⟨by rw [hp], by rw [hp]; exact hD2.wide hXs, (ModS.ofExt hX).trans hM2 (fun _ _ h => h)⟩
    · try simp only [decide_eq_true_eq, decide_eq_false_iff_not, Bool.not_eq_true, Bool.not_eq_false, Bool.not_eq_eq_eq_not, Bool.not_true, Bool.not_false, Int.not_lt, Int.not_le] at hc14
      refine c_seq ?_
      refine r_plain ?_
      obtain ⟨r, μ, hB, hM, hSg, hSr, hF⟩ := hD.ex
      refine p1 (x_load1 un23 rfl (hB2.cell (rfl))) ?_
      refine p1 (x_nilCheck rfl) ?_
      refine p1 (x_fieldAddr fo66_2 sz64 rfl) ?_
      refine p1 (x_load1 un64 rfl (hB.cell (rfl))) ?_
      refine p1 (x_len_mapF u64 hM hF hok.rise rfl) ?_
      refine p1 (x_geq rfl rfl) ?_
      refine p1 (x_assign (by conv => lhs; whnf)) ?_
      refine r_nil ?_
      refine t_n ?_
      first | refine c_dec rfl (fun hc18 => ?_) (fun hc18 => ?_) | refine c_if rfl (fun hc18 => ?_) (fun hc18 => ?_)
      · try simp only [decide_eq_true_eq, decide_eq_false_iff_not, Bool.not_eq_true, Bool.not_eq_false, Bool.not_eq_eq_eq_not, Bool.not_true, Bool.not_false, Int.not_lt, Int.not_le] at hc18
        have hp : createD D k = (D, 21) := by unfold createD; rw [if_neg hc10, if_neg hc14, if_pos (by omega)]
        refine c_seq ?_
        refine r_plain ?_
        refine p1 (x_assign (by conv => lhs; whnf)) ?_
        refine r_nil ?_
        refine t_n ?_
        refine c_ret ?_
        refine b_r ?_
        refine t_r ?_
        refine end1 rfl (by conv => lhs; whnf) ?_
        first
          | exact ⟨by rw [hp], by rw [hp]; exact hD.grown w, ModS.ofExt hX⟩
          | exact ⟨by rw [hp], by rw [hp]; exact hD2.wide hXs, (ModS.ofExt hX).trans hM2 (fun _ _ h => h)⟩
      · try simp only [decide_eq_true_eq, decide_eq_false_iff_not, Bool.not_eq_true, Bool.not_eq_false, Bool.not_eq_eq_eq_not, Bool.not_true, Bool.not_false, Int.not_lt, Int.not_le] at hc18
        have hp : createD D k = stepD D (insA D.l k (some ([], 0))) true false := by unfold createD; rw [if_neg hc10, if_neg hc14, if_neg (by omega)]
        have hk : ascA D.l k = none := Classical.byContradiction fun e => hc14 e
        refine c_skip ?_
        refine b_n ?_
        refine t_n ?_
        refine c_seq ?_
        refine r_plain ?_
        refine p1 (x_load1 un23 rfl (hB2.cell (rfl))) ?_
        refine p1 (x_makeFunc (fs := []) (cs := [.pointer (some ⟨g2, 0, none⟩), .pointer (some ⟨g3, 0, none⟩)]) rfl rfl) ?_
        have hXs := hX.size
        refine o_call Try.func46 fn46 fb46 (disk_step g S D _ hD hok hst hle 47 _ Try.func47 fn47 fb47 [.pointer (some ⟨g2, 0, none⟩), .pointer (some ⟨g3, 0, none⟩)] (insA D.l k (some ([], 0))) true false (fun w1 hE1 => disk_Create_do g S D _ (hD.ext hE1) hok k hk g2 g3 (hB2.ext hE1) (hB3.ext hE1))) rfl ?_
        rintro v6 w6 ⟨rfl, hD2, hM2⟩
        refine p1 (x_assign (by conv => lhs; whnf)) ?_
        refine r_nil ?_
        refine t_n ?_
        refine c_ret ?_
        refine end1 rfl (by conv => lhs; whnf) ?_
        first
          | exact ⟨by rw [hp], by rw [hp]; exact hD.grown w, ModS.ofExt hX⟩
          | exact ⟨by rw [hp], by rw [hp]; exact hD2.wide hXs, (ModS.ofExt hX).trans hM2 (fun _ _ h => h)⟩
theorem disk_Sync (g : Nat) (S : Nat → Prop) (D : DS) (w : World) (hD : Dsk S w g D) (hok : DOk D) (hst : D.steps < 4611686018427387904) (hle : D.left ≤ 9223372036854775807) (k : ByteArray) (hks : k.size ≤ 9223372036854775807) :
    Ret Try.prog 23 [.pointer (some ⟨g, 0, none⟩), .string k] w (fun v w' => v = .int .i64 (syncD D k).2 ∧ Dsk (grow S w w') w' g (syncD D k).1 ∧ ModS S ED w w') := by
  have hX := Ext.refl w
  refine enter 22 _ Try.func23 rfl rfl (Nat.le_of_ble_eq_true rfl) rfl ?_
  refine c_seq ?_
  refine r_plain ?_
  refine o_box1 (by conv => lhs; whnf) rfl ?_
  intro w1 g2 hN2
  have hE1 := hN2.ext
  have hX := hX.ext hE1
  have hD := hD.ext hE1
  have hB2 := hN2.blk
  refine o_box1 (by conv => lhs; whnf) rfl ?_
  intro w2 g3 hN3
  have hE2 := hN3.ext
  have hX := hX.ext hE2
  have hD := hD.ext hE2
  have hB2 := hB2.ext hE2
  have hB3 := hN3.blk
  refine p1 (x_assign (by conv => lhs; whnf)) ?_
  refine r_nil ?_
  refine t_n ?_
  refine c_seq ?_
  refine c_seq ?_
  refine r_plain ?_
  refine p1 (x_load1 un23 rfl (hB2.cell (rfl))) ?_
  refine p1 (x_load1 un9 rfl (hB3.cell (rfl))) ?_
  refine o_buildSlice u51 inf9 rfl (by decide) (fun base hb => fill_one (by rfl) base hb) ?_
  intro w3 g8 hN8
  have hE3 := hN8.ext
  have hX := hX.ext hE3
  have hD := hD.ext hE3
  have hB2 := hB2.ext hE3
  have hB3 := hB3.ext hE3
  have hS8 : Sl kStr 9 0 w3 (some ⟨g8, 0, none⟩) 1 1 [k] := (own_lit (B0 := 0) [k] hN8 (Nat.zero_le _) (by simp)).sl
  refine o_call Try.func41 fn41 fb41 (disk_look g S D _ hD [k] 0 _ _ _ hS8 (by intro s hs'; simp only [List.mem_singleton] at hs'; subst hs'; exact hks)) rfl ?_
  rintro v4 w4 ⟨rfl, hE4⟩
  have hX := hX.ext hE4
  have hD := hD.ext hE4
  have hB2 := hB2.ext hE4
  have hB3 := hB3.ext hE4
  have hS8 := hS8.ext hE4
  refine p1 (x_assign (by conv => lhs; whnf)) ?_
  refine r_nil ?_
  refine t_n ?_
  refine c_block ?_
  refine c_seq ?_
  refine r_plain ?_
  refine p1 (x_move (by conv => lhs; whnf)) ?_
  refine p1 (x_neq rfl rfl) ?_
  refine p1 (x_assign (by conv => lhs; whnf)) ?_
  refine r_nil ?_
  refine t_n ?_
  first | refine c_dec rfl (fun hc10 => ?_) (fun hc10 => ?_) | refine c_if rfl (fun hc10 => ?_) (fun hc10 => ?_)
  · try simp only [decide_eq_true_eq, decide_eq_false_iff_not, Bool.not_eq_true, Bool.not_eq_false, Bool.not_eq_eq_eq_not, Bool.not_true, Bool.not_false, Int.not_lt, Int.not_le] at hc10
    have hp : syncD D k = (D, lookD D [k]) := if_pos hc10
    refine c_seq ?_
    refine r_plain ?_
    refine p1 (x_move (by conv => lhs; whnf)) ?_
    refine p1 (x_assign (by conv => lhs; whnf)) ?_
    refine r_nil ?_
    refine t_n ?_
    refine c_ret ?_
    refine b_r ?_
    refine t_r ?_
    refine end1 rfl (by conv => lhs; whnf) ?_
    first
      | exact ⟨by rw [hp], by rw [hp]; exact hD.grown w, ModS.ofExt hX⟩
      | exact ⟨by rw [hp], by rw [hp]; exact hD2.wide hXs, (ModS.ofExt hX).trans hM2 (fun _ _ h => h)⟩
  · try simp only [decide_eq_true_eq, decide_eq_false_iff_not, Bool.not_eq_true, Bool.not_eq_false, Bool.not_eq_eq_eq_not, Bool.not_true, Bool.not_false, Int.not_lt, Int.not_le] at hc10
    refine c_seq ?_
    refine r_plain ?_
    refine p1 (x_load1 un23 rfl (hB2.cell (rfl))) ?_
    refine p1 (x_load1 un9 rfl (hB3.cell (rfl))) ?_
    refine o_call Try.func42 fn42 fb42 (disk_there g S D _ hD k) rfl ?_
    rintro v5 w5 ⟨rfl, hE5⟩
    have hX := hX.ext hE5
    have hD := hD.ext hE5
    have hB2 := hB2.ext hE5
    have hB3 := hB3.ext hE5
    have hS8 := hS8.ext hE5
    first | refine p1 (x_notd rfl) ?_ | refine p1 (x_not rfl) ?_
    refine p1 (x_assign (by conv => lhs; whnf)) ?_
    refine r_nil ?_
    refine t_n ?_
    first | refine c_dec rfl (fun hc14 => ?_) (fun hc14 => ?_) | refine c_if rfl (fun hc14 => ?_) (fun hc14 => ?_)
    · try simp only [decide_eq_true_eq, decide_eq_false_iff_not, Bool.not_eq_true, Bool.not_eq_false, Bool.not_eq_eq_eq_not, Bool.not_true, Bool.not_false, Int.not_lt, Int.not_le] at hc14
      have hk : ascF D.l k = none := by simpa using hc14
      have hp : syncD D k = (D, 22) := by unfold syncD; rw [if_neg hc10, if_pos hk]
      refine c_seq ?_
      refine r_plain ?_
      refine p1 (x_assign (by conv => lhs; whnf)) ?_
      refine r_nil ?_
      refine t_n ?_
      refine c_ret ?_
      refine b_r ?_
      refine t_r ?_
      refine end1 rfl (by conv => lhs; whnf) ?_
      first
        | exact ⟨by rw [hp], by rw [hp]; exact hD.grown w, ModS.ofExt hX⟩
        | exact ⟨by rw [hp], by rw [hp]; exact hD2.wide hXs, (ModS.ofExt hX).trans hM2 (fun _ _ h => h)⟩
    · try simp only [decide_eq_true_eq, decide_eq_false_iff_not, Bool.not_eq_true, Bool.not_eq_false, Bool.not_eq_eq_eq_not, Bool.not_true, Bool.not_false, Int.not_lt, Int.not_le] at hc14
      have hk : ¬ ascF D.l k = none := by simpa using hc14
      have hp : syncD D k = stepD D (insA D.l k (some ((getF D k).1, (getF D k).1.length))) false false := by unfold syncD; rw [if_neg hc10, if_neg hk]
      refine c_skip ?_
      refine b_n ?_
      refine t_n ?_
      refine c_seq ?_
      refine r_plain ?_
      refine p1 (x_load1 un23 rfl (hB2.cell (rfl))) ?_
      refine p1 (x_makeFunc (fs := []) (cs := [.pointer (some ⟨g2, 0, none⟩), .pointer (some ⟨g3, 0, none⟩)]) rfl rfl) ?_
      have hXs := hX.size
      refine o_call Try.func46 fn46 fb46 (disk_step g S D _ hD hok hst hle 50 _ Try.func50 fn50 fb50 [.pointer (some ⟨g2, 0, none⟩), .pointer (some ⟨g3, 0, none⟩)] (insA D.l k (some ((getF D k).1, (getF D k).1.length))) false false (fun w1 hE1 => disk_Sync_do g S D _ (hD.ext hE1) hok k hk g2 g3 (hB2.ext hE1) (hB3.ext hE1))) rfl ?_
      rintro v6 w6 ⟨rfl, hD2, hM2⟩
      refine p1 (x_assign (by conv => lhs; whnf)) ?_
      refine r_nil ?_
      refine t_n ?_
      refine c_ret ?_
      refine end1 rfl (by conv => lhs; whnf) ?_
      first
        | exact ⟨by rw [hp], by rw [hp]; exact hD.grown w, ModS.ofExt hX⟩
        | exact ⟨by rw [hp], by rw [hp]; exact hD2.wide hXs, (ModS.ofExt hX).trans hM2 (fun _ _ h => h)⟩
theorem disk_Remove (g : Nat) (S : Nat → Prop) (D : DS) (w : World) (hD : Dsk S w g D) (hok : DOk D) (hst : D.steps < 4611686018427387904) (hle : D.left ≤ 9223372036854775807) (k : ByteArray) (hks : k.size ≤ 9223372036854775807) :
    Ret Try.prog 20 [.pointer (some ⟨g, 0, none⟩), .string k] w (fun v w' => v = .int .i64 (removeD D k).2 ∧ Dsk (grow S w w') w' g (removeD D k).1 ∧ ModS S ED w w') := by
  have hX := Ext.refl w
  refine enter 22 _ Try.func20 rfl rfl (Nat.le_of_ble_eq_true rfl) rfl ?_
  refine c_seq ?_
  refine r_plain ?_
  refine o_box1 (by conv => lhs; whnf) rfl ?_
  intro w1 g2 hN2
  have hE1 := hN2.ext
  have hX := hX.ext hE1
  have hD := hD.ext hE1
  have hB2 := hN2.blk
  refine o_box1 (by conv => lhs; whnf) rfl ?_
  intro w2 g3 hN3
  have hE2 := hN3.ext
  have hX := hX.ext hE2
  have hD := hD.ext hE2
  have hB2 := hB2.ext hE2
  have hB3 := hN3.blk
  refine p1 (x_assign (by conv => lhs; whnf)) ?_
  refine r_nil ?_
  refine t_n ?_
  refine c_seq ?_
  refine c_seq ?_
  refine r_plain ?_
  refine p1 (x_load1 un23 rfl (hB2.cell (rfl))) ?_
  refine p1 (x_load1 un9 rfl (hB3.cell (rfl))) ?_
  refine o_buildSlice u51 inf9 rfl (by decide) (fun base hb => fill_one (by rfl) base hb) ?_
  intro w3 g8 hN8
  have hE3 := hN8.ext
  have hX := hX.ext hE3
  have hD := hD.ext hE3
  have hB2 := hB2.ext hE3
  have hB3 := hB3.ext hE3
  have hS8 : Sl kStr 9 0 w3 (some ⟨g8, 0, none⟩) 1 1 [k] := (own_lit (B0 := 0) [k] hN8 (Nat.zero_le _) (by simp)).sl
  refine o_call Try.func41 fn41 fb41 (disk_look g S D _ hD [k] 0 _ _ _ hS8 (by intro s hs'; simp only [List.mem_singleton] at hs'; subst hs'; exact hks)) rfl ?_
  rintro v4 w4 ⟨rfl, hE4⟩
  have hX := hX.ext hE4
  have hD := hD.ext hE4
  have hB2 := hB2.ext hE4
  have hB3 := hB3.ext hE4
  have hS8 := hS8.ext hE4
  refine p1 (x_assign (by conv => lhs; whnf)) ?_
  refine r_nil ?_
  refine t_n ?_
  refine c_block ?_
  refine c_seq ?_
  refine r_plain ?_
  refine p1 (x_move (by conv => lhs; whnf)) ?_
  refine p1 (x_neq rfl rfl) ?_
  refine p1 (x_assign (by conv => lhs; whnf)) ?_
  refine r_nil ?_
  refine t_n ?_
  first | refine c_dec rfl (fun hc10 => ?_) (fun hc10 => ?_) | refine c_if rfl (fun hc10 => ?_) (fun hc10 => ?_)
  · try simp only [decide_eq_true_eq, decide_eq_false_iff_not, Bool.not_eq_true, Bool.not_eq_false, Bool.not_eq_eq_eq_not, Bool.not_true, Bool.not_false, Int.not_lt, Int.not_le] at hc10
    have hp : removeD D k = (D, lookD D [k]) := if_pos hc10
    refine c_seq ?_
    refine r_plain ?_
    refine p1 (x_move (by conv => lhs; whnf)) ?_
    refine p1 (x_assign (by conv => lhs; whnf)) ?_
    refine r_nil ?_
    refine t_n ?_
    refine c_ret ?_
    refine b_r ?_
    refine t_r ?_
    refine end1 rfl (by conv => lhs; whnf) ?_
    first
      | exact ⟨by rw [hp], by rw [hp]; exact hD.grown w, ModS.ofExt hX⟩
      | exact ⟨by rw [hp], by rw [hp]; exact hD2.wide hXs, (ModS.ofExt hX).trans hM2 (fun _ _ h => h)⟩
  · try simp only [decide_eq_true_eq, decide_eq_false_iff_not, Bool.not_eq_true, Bool.not_eq_false, Bool.not_eq_eq_eq_not, Bool.not_true, Bool.not_false, Int.not_lt, Int.not_le] at hc10
    refine c_seq ?_
    refine r_plain ?_
    refine p1 (x_load1 un23 rfl (hB2.cell (rfl))) ?_
    refine p1 (x_load1 un9 rfl (hB3.cell (rfl))) ?_
    refine o_call Try.func42 fn42 fb42 (disk_there g S D _ hD k) rfl ?_
    rintro v5 w5 ⟨rfl, hE5⟩
    have hX := hX.ext hE5
    have hD := hD.ext hE5
    have hB2 := hB2.ext hE5
    have hB3 := hB3.ext hE5
    have hS8 := hS8.ext hE5
    first | refine p1 (x_notd rfl) ?_ | refine p1 (x_not rfl) ?_
    refine p1 (x_assign (by conv => lhs; whnf)) ?_
    refine r_nil ?_
    refine t_n ?_
    first | refine c_dec rfl (fun hc14 => ?_) (fun hc14 => ?_) | refine c_if rfl (fun hc14 => ?_) (fun hc14 => ?_)
    · try simp only [decide_eq_true_eq, decide_eq_false_iff_not, Bool.not_eq_true, Bool.not_eq_false, Bool.not_eq_eq_eq_not, Bool.not_true, Bool.not_false, Int.not_lt, Int.not_le] at hc14
      have hk : ascF D.l k = none := by simpa using hc14
      have hp : removeD D k = (D, 22) := by unfold removeD; rw [if_neg hc10, if_pos hk]
      refine c_seq ?_
      refine r_plain ?_
      refine p1 (x_assign (by conv => lhs; whnf)) ?_
      refine r_nil ?_
      refine t_n ?_
      refine c_ret ?_
      refine b_r ?_
      refine t_r ?_
      refine end1 rfl (by conv => lhs; whnf) ?_
      first
        | exact ⟨by rw [hp], by rw [hp]; exact hD.grown w, ModS.ofExt hX⟩
        | exact ⟨by rw [hp], by rw [hp]; exact hD2.wide hXs, (ModS.ofExt hX).trans hM2 (fun _ _ h => h)⟩
    · try simp only [decide_eq_true_eq, decide_eq_false_iff_not, Bool.not_eq_true, Bool.not_eq_false, Bool.not_eq_eq_eq_not, Bool.not_true, Bool.not_false, Int.not_lt, Int.not_le] at hc14
      have hk : ¬ ascF D.l k = none := by simpa using hc14
      have hp : removeD D k = stepD D (insA D.l k none) true false := by unfold removeD; rw [if_neg hc10, if_neg hk]
      refine c_skip ?_
      refine b_n ?_
      refine t_n ?_
      refine c_seq ?_
      refine r_plain ?_
      refine p1 (x_load1 un23 rfl (hB2.cell (rfl))) ?_
      refine p1 (x_makeFunc (fs := []) (cs := [.pointer (some ⟨g2, 0, none⟩), .pointer (some ⟨g3, 0, none⟩)]) rfl rfl) ?_
      have hXs := hX.size
      refine o_call Try.func46 fn46 fb46 (disk_step g S D _ hD hok hst hle 49 _ Try.func49 fn49 fb49 [.pointer (some ⟨g2, 0, none⟩), .pointer (some ⟨g3, 0, none⟩)] (insA D.l k none) true false (fun w1 hE1 => disk_Remove_do g S D _ (hD.ext hE1) hok k hk g2 g3 (hB2.ext hE1) (hB3.ext hE1))) rfl ?_
      rintro v6 w6 ⟨rfl, hD2, hM2⟩
      refine p1 (x_assign (by conv => lhs; whnf)) ?_
      refine r_nil ?_
      refine t_n ?_
      refine c_ret ?_
      refine end1 rfl (by conv => lhs; whnf) ?_
      first
        | exact ⟨by rw [hp], by rw [hp]; exact hD.grown w, ModS.ofExt hX⟩
        | exact ⟨by rw [hp], by rw [hp]; exact hD2.wide hXs, (ModS.ofExt hX).trans hM2 (fun _ _ h => h)⟩
theorem disk_Rename (g : Nat) (S : Nat → Prop) (D : DS) (w : World) (hD : Dsk S w g D) (hok : DOk D) (hst : D.steps < 4611686018427387904) (hle : D.left ≤ 9223372036854775807) (old now : ByteArray) (hos : old.size ≤ 9223372036854775807) (hns : now.size ≤ 9223372036854775807) :
    Ret Try.prog 24 [.pointer (some ⟨g, 0, none⟩), .string old, .string now] w (fun v w' => v = .int .i64 (renameD D old now).2 ∧ Dsk (grow S w w') w' g (renameD D old now).1 ∧ ModS S ED w w') := by
  have hX := Ext.refl w
  refine enter 25 _ Try.func24 rfl rfl (Nat.le_of_ble_eq_true rfl) rfl ?_
  refine c_seq ?_
  refine r_plain ?_
  refine o_box1 (by conv => lhs; whnf) rfl ?_
  intro w1 g3 hN3
  have hE1 := hN3.ext
  have hX := hX.ext hE1
  have hD := hD.ext hE1
  have hB3 := hN3.blk
  refine o_box1 (by conv => lhs; whnf) rfl ?_
  intro w2 g4 hN4
  have hE2 := hN4.ext
  have hX := hX.ext hE2
  have hD := hD.ext hE2
  have hB3 := hB3.ext hE2
  have hB4 := hN4.blk
  refine o_box1 (by conv => lhs; whnf) rfl ?_
  intro w3 g5 hN5
  have hE3 := hN5.ext
  have hX := hX.ext hE3
  have hD := hD.ext hE3
  have hB3 := hB3.ext hE3
  have hB4 := hB4.ext hE3
  have hB5 := hN5.blk
  refine p1 (x_assign (by conv => lhs; whnf)) ?_
  refine r_nil ?_
  refine t_n ?_
  refine c_seq ?_
  refine c_seq ?_
  refine r_plain ?_
  refine p1 (x_load1 un23 rfl (hB3.cell (rfl))) ?_
  refine p1 (x_load1 un9 rfl (hB4.cell (rfl))) ?_
  refine p1 (x_load1 un9 rfl (hB5.cell (rfl))) ?_
  refine o_buildSlice u51 inf9 rfl (by decide) (fun base hb => fill_kn [.string old, .string now] (by intro v hv'; simp only [List.mem_cons, List.not_mem_nil, or_false] at hv'; rcases hv' with rfl | rfl <;> rfl) base hb) ?_
  intro w4 g11 hN11
  have hE4 := hN11.ext
  have hX := hX.ext hE4
  have hD := hD.ext hE4
  have hB3 := hB3.ext hE4
  have hB4 := hB4.ext hE4
  have hB5 := hB5.ext hE4
  have hS11 : Sl kStr 9 0 w4 (some ⟨g11, 0, none⟩) 2 2 [old, now] := (own_lit (B0 := 0) [old, now] hN11 (Nat.zero_le _) (by simp)).sl
  refine o_call Try.func41 fn41 fb41 (disk_look g S D _ hD [old, now] 0 _ _ _ hS11 (by intro s hs'; simp only [List.mem_cons, List.not_mem_nil, or_false] at hs'; rcases hs' with rfl | rfl <;> assumption)) rfl ?_
  rintro v5 w5 ⟨rfl, hE5⟩
  have hX := hX.ext hE5
  have hD := hD.ext hE5
  have hB3 := hB3.ext hE5
  have hB4 := hB4.ext hE5
  have hB5 := hB5.ext hE5
  have hS11 := hS11.ext hE5
  refine p1 (x_assign (by conv => lhs; whnf)) ?_
  refine r_nil ?_
  refine t_n ?_
  refine c_block ?_
  refine c_seq ?_
  refine r_plain ?_
  refine p1 (x_move (by conv => lhs; whnf)) ?_
  refine p1 (x_neq rfl rfl) ?_
  refine p1 (x_assign (by conv => lhs; whnf)) ?_
  refine r_nil ?_
  refine t_n ?_
  first | refine c_dec rfl (fun hc13 => ?_) (fun hc13 => ?_) | refine c_if rfl (fun hc13 => ?_) (fun hc13 => ?_)
  · try simp only [decide_eq_true_eq, decide_eq_false_iff_not, Bool.not_eq_true, Bool.not_eq_false, Bool.not_eq_eq_eq_not, Bool.not_true, Bool.not_false, Int.not_lt, Int.not_le] at hc13
    have hp : renameD D old now = (D, lookD D [old, now]) := if_pos hc13
    refine c_seq ?_
    refine r_plain ?_
    refine p1 (x_move (by conv => lhs; whnf)) ?_
    refine p1 (x_assign (by conv => lhs; whnf)) ?_
    refine r_nil ?_
    refine t_n ?_
    refine c_ret ?_
    refine b_r ?_
    refine t_r ?_
    refine end1 rfl (by conv => lhs; whnf) ?_
    first
      | exact ⟨by rw [hp], by rw [hp]; exact hD.grown w, ModS.ofExt hX⟩
      | exact ⟨by rw [hp], by rw [hp]; exact hD2.wide hXs, (ModS.ofExt hX).trans hM2 (fun _ _ h => h)⟩
  · try simp only [decide_eq_true_eq, decide_eq_false_iff_not, Bool.not_eq_true, Bool.not_eq_false, Bool.not_eq_eq_eq_not, Bool.not_true, Bool.not_false, Int.not_lt, Int.not_le] at hc13
    refine c_seq ?_
    refine r_plain ?_
    refine p1 (x_load1 un23 rfl (hB3.cell (rfl))) ?_
    refine p1 (x_load1 un9 rfl (hB4.cell (rfl))) ?_
    refine o_call Try.func42 fn42 fb42 (disk_there g S D _ hD old) rfl ?_
    rintro v6 w6 ⟨rfl, hE6⟩
    have hX := hX.ext hE6
    have hD := hD.ext hE6
    have hB3 := hB3.ext hE6
    have hB4 := hB4.ext hE6
    have hB5 := hB5.ext hE6
    have hS11 := hS11.ext hE6
    first | refine p1 (x_notd rfl) ?_ | refine p1 (x_not rfl) ?_
    refine p1 (x_assign (by conv => lhs; whnf)) ?_
    refine r_nil ?_
    refine t_n ?_
    first | refine c_dec rfl (fun hc17 => ?_) (fun hc17 => ?_) | refine c_if rfl (fun hc17 => ?_) (fun hc17 => ?_)
    · try simp only [decide_eq_true_eq, decide_eq_false_iff_not, Bool.not_eq_true, Bool.not_eq_false, Bool.not_eq_eq_eq_not, Bool.not_true, Bool.not_false, Int.not_lt, Int.not_le] at hc17
      have hk : ascF D.l old = none := by simpa using hc17
      have hp : renameD D old now = (D, 22) := by unfold renameD; rw [if_neg hc13, if_pos hk]
      refine c_seq ?_
      refine r_plain ?_
      refine p1 (x_assign (by conv => lhs; whnf)) ?_
      refine r_nil ?_
      refine t_n ?_
      refine c_ret ?_
      refine b_r ?_
      refine t_r ?_
      refine end1 rfl (by conv => lhs; whnf) ?_
      first
        | exact ⟨by rw [hp], by rw [hp]; exact hD.grown w, ModS.ofExt hX⟩
        | exact ⟨by rw [hp], by rw [hp]; exact hD2.wide hXs, (ModS.ofExt hX).trans hM2 (fun _ _ h => h)⟩
    · try simp only [decide_eq_true_eq, decide_eq_false_iff_not, Bool.not_eq_true, Bool.not_eq_false, Bool.not_eq_eq_eq_not, Bool.not_true, Bool.not_false, Int.not_lt, Int.not_le] at hc17
      have hk : ¬ ascF D.l old = none := by simpa using hc17
      have hp : renameD D old now = stepD D (renL D.l old now (getF D old)) true false := by unfold renameD; rw [if_neg hc13, if_neg hk]
      refine c_skip ?_
      refine b_n ?_
      refine t_n ?_
      refine c_seq ?_
      refine r_plain ?_
      refine p1 (x_load1 un23 rfl (hB3.cell (rfl))) ?_
      refine p1 (x_makeFunc (fs := []) (cs := [.pointer (some ⟨g4, 0, none⟩), .pointer (some ⟨g5, 0, none⟩), .pointer (some ⟨g3, 0, none⟩)]) rfl rfl) ?_
      have hXs := hX.size
      refine o_call Try.func46 fn46 fb46 (disk_step g S D _ hD hok hst hle 51 _ Try.func51 fn51 fb51 [.pointer (some ⟨g4, 0, none⟩), .pointer (some ⟨g5, 0, none⟩), .pointer (some ⟨g3, 0, none⟩)] (renL D.l old now (getF D old)) true false (fun w1 hE1 => disk_Rename_do g S D _ (hD.ext hE1) hok old now hk g4 g5 g3 (hB4.ext hE1) (hB5.ext hE1) (hB3.ext hE1))) rfl ?_
      rintro v7 w7 ⟨rfl, hD2, hM2⟩
      refine p1 (x_assign (by conv => lhs; whnf)) ?_
      refine r_nil ?_
      refine t_n ?_
      refine c_ret ?_
      refine end1 rfl (by conv => lhs; whnf) ?_
      first
        | exact ⟨by rw [hp], by rw [hp]; exact hD.grown w, ModS.ofExt hX⟩
        | exact ⟨by rw [hp], by rw [hp]; exact hD2.wide hXs, (ModS.ofExt hX).trans hM2 (fun _ _ h => h)⟩
theorem disk_Append (g : Nat) (S : Nat → Prop) (D : DS) (w : World) (hD : Dsk S w g D) (hok : DOk D) (hst : D.steps < 4611686018427387904) (hle : D.left ≤ 9223372036854775807) (k : ByteArray) (hks : k.size ≤ 9223372036854775807) (e B : Nat) (p : Option Addr) (n c : Nat) (ys : List UInt8) (hl : Sl kByte e B w p n c ys) :
    Ret Try.prog 19 [.pointer (some ⟨g, 0, none⟩), .string k, .slice p n c] w (fun v w' => v = .int .i64 (appendD D k ys).2 ∧ Dsk (grow S w w') w' g (appendD D k ys).1 ∧ ModS S ED w w') := by
  have hX := Ext.refl w
  refine enter 37 _ Try.func19 rfl rfl (Nat.le_of_ble_eq_true rfl) rfl ?_
  refine c_seq ?_
  refine r_plain ?_
  refine o_box1 (by conv => lhs; whnf) rfl ?_
  intro w1 g3 hN3
  have hE1 := hN3.ext
  have hX := hX.ext hE1
  have hD := hD.ext hE1
  have hl := hl.ext hE1
  have hB3 := hN3.blk
  refine o_box1 (by conv => lhs; whnf) rfl ?_
  intro w2 g4 hN4
  have hE2 := hN4.ext
  have hX := hX.ext hE2
  have hD := hD.ext hE2
  have hl := hl.ext hE2
  have hB3 := hB3.ext hE2
  have hB4 := hN4.blk
  refine o_box1 (by conv => lhs; whnf) rfl ?_
  intro w3 g5 hN5
  have hE3 := hN5.ext
  have hX := hX.ext hE3
  have hD := hD.ext hE3
  have hl := hl.ext hE3
  have hB3 := hB3.ext hE3
  have hB4 := hB4.ext hE3
  have hB5 := hN5.blk
  refine p1 (x_assign (by conv => lhs; whnf)) ?_
  refine r_nil ?_
  refine t_n ?_
  refine c_seq ?_
  refine c_seq ?_
  refine r_plain ?_
  refine p1 (x_load1 un23 rfl (hB3.cell (rfl))) ?_
  refine p1 (x_load1 un9 rfl (hB4.cell (rfl))) ?_
  refine o_buildSlice u51 inf9 rfl (by decide) (fun base hb => fill_one (by rfl) base hb) ?_
  intro w4 g10 hN10
  have hE4 := hN10.ext
  have hX := hX.ext hE4
  have hD := hD.ext hE4
  have hl := hl.ext hE4
  have hB3 := hB3.ext hE4
  have hB4 := hB4.ext hE4
  have hB5 := hB5.ext hE4
  have hS10 : Sl kStr 9 0 w4 (some ⟨g10, 0, none⟩) 1 1 [k] := (own_lit (B0 := 0) [k] hN10 (Nat.zero_le _) (by simp)).sl
  refine o_call Try.func41 fn41 fb41 (disk_look g S D _ hD [k] 0 _ _ _ hS10 (by intro s hs'; simp only [List.mem_singleton] at hs'; subst hs'; exact hks)) rfl ?_
  rintro v5 w5 ⟨rfl, hE5⟩
  have hX := hX.ext hE5
  have hD := hD.ext hE5
  have hl := hl.ext hE5
  have hB3 := hB3.ext hE5
  have hB4 := hB4.ext hE5
  have hB5 := hB5.ext hE5
  have hS10 := hS10.ext hE5
  refine p1 (x_assign (by conv => lhs; whnf)) ?_
  refine r_nil ?_
  refine t_n ?_
  refine c_block ?_
  refine c_seq ?_
  refine r_plain ?_
  refine p1 (x_move (by conv => lhs; whnf)) ?_
  refine p1 (x_neq rfl rfl) ?_
  refine p1 (x_assign (by conv => lhs; whnf)) ?_
  refine r_nil ?_
  refine t_n ?_
  first | refine c_dec rfl (fun hc12 => ?_) (fun hc12 => ?_) | refine c_if rfl (fun hc12 => ?_) (fun hc12 => ?_)
  · try simp only [decide_eq_true_eq, decide_eq_false_iff_not, Bool.not_eq_true, Bool.not_eq_false, Bool.not_eq_eq_eq_not, Bool.not_true, Bool.not_false, Int.not_lt, Int.not_le] at hc12
    have hp : appendD D k ys = (D, lookD D [k]) := if_pos hc12
    refine c_seq ?_
    refine r_plain ?_
    refine p1 (x_move (by conv => lhs; whnf)) ?_
    refine p1 (x_assign (by conv => lhs; whnf)) ?_
    refine r_nil ?_
    refine t_n ?_
    refine c_ret ?_
    refine b_r ?_
    refine t_r ?_
    refine end1 rfl (by conv => lhs; whnf) ?_
    first
      | exact ⟨by rw [hp], by rw [hp]; exact hD.grown w, ModS.ofExt hX⟩
      | exact ⟨by rw [hp], by rw [hp]; exact hD2.wide hXs, (ModS.ofExt hX).trans hM2 (fun _ _ h => h)⟩
  · try simp only [decide_eq_true_eq, decide_eq_false_iff_not, Bool.not_eq_true, Bool.not_eq_false, Bool.not_eq_eq_eq_not, Bool.not_true, Bool.not_false, Int.not_lt, Int.not_le] at hc12
    refine c_seq ?_
    refine r_plain ?_
    refine p1 (x_load1 un23 rfl (hB3.cell (rfl))) ?_
    refine p1 (x_load1 un9 rfl (hB4.cell (rfl))) ?_
    refine o_call Try.func42 fn42 fb42 (disk_there g S D _ hD k) rfl ?_
    rintro v6 w6 ⟨rfl, hE6⟩
    have hX := hX.ext hE6
    have hD := hD.ext hE6
    have hl := hl.ext hE6
    have hB3 := hB3.ext hE6
    have hB4 := hB4.ext hE6
    have hB5 := hB5.ext hE6
    have hS10 := hS10.ext hE6
    first | refine p1 (x_notd rfl) ?_ | refine p1 (x_not rfl) ?_
    refine p1 (x_assign (by conv => lhs; whnf)) ?_
    refine r_nil ?_
    refine t_n ?_
    first | refine c_dec rfl (fun hc16 => ?_) (fun hc16 => ?_) | refine c_if rfl (fun hc16 => ?_) (fun hc16 => ?_)
    · try simp only [decide_eq_true_eq, decide_eq_false_iff_not, Bool.not_eq_true, Bool.not_eq_false, Bool.not_eq_eq_eq_not, Bool.not_true, Bool.not_false, Int.not_lt, Int.not_le] at hc16
      have hk : ascF D.l k = none := by simpa using hc16
      have hp : appendD D k ys = (D, 22) := by unfold appendD; rw [if_neg hc12, if_pos hk]
      refine c_seq ?_
      refine r_plain ?_
      refine p1 (x_assign (by conv => lhs; whnf)) ?_
      refine r_nil ?_
      refine t_n ?_
      refine c_ret ?_
      refine b_r ?_
      refine t_r ?_
      refine end1 rfl (by conv => lhs; whnf) ?_
      first
        | exact ⟨by rw [hp], by rw [hp]; exact hD.grown w, ModS.ofExt hX⟩
        | exact ⟨by rw [hp], by rw [hp]; exact hD2.wide hXs, (ModS.ofExt hX).trans hM2 (fun _ _ h => h)⟩
    · try simp only [decide_eq_true_eq, decide_eq_false_iff_not, Bool.not_eq_true, Bool.not_eq_false, Bool.not_eq_eq_eq_not, Bool.not_true, Bool.not_false, Int.not_lt, Int.not_le] at hc16
      have hk : ¬ ascF D.l k = none := by simpa using hc16
      have hlen := hl.len
      have hlc := hl.cap
      have hlf := hl.fit
      have hroom := hok.room
      have hmost := hok.most
      refine c_seq ?_
      refine r_still mixed (by kernel_rfl) ?_
      intro w7 hE7
      have hX := hX.ext hE7
      have hD := hD.ext hE7
      have hl := hl.ext hE7
      have hB3 := hB3.ext hE7
      have hB4 := hB4.ext hE7
      have hB5 := hB5.ext hE7
      have hS10 := hS10.ext hE7
      obtain ⟨r, μ, hB, hM, hSg, hSr, hF⟩ := hD.ex
      refine s1 (x_load1 un31 rfl (hB5.cell (rfl))) ?_
      refine s1 (x_len_slice u31 rfl) ?_
      refine s1 (x_load1 un23 rfl (hB3.cell (rfl))) ?_
      refine s1 (x_nilCheck rfl) ?_
      refine s1 (x_fieldAddr fo66_0 sz3 rfl) ?_
      refine s1 (x_load1 un3 rfl (hB.cell (rfl))) ?_
      refine s1 (x_load1 un23 rfl (hB3.cell (rfl))) ?_
      refine s1 (x_nilCheck rfl) ?_
      refine s1 (x_fieldAddr fo66_1 sz3 rfl) ?_
      refine s1 (x_load1 un3 rfl (hB.cell (rfl))) ?_
      refine s1 (x_sub rfl rfl (fits_i64 (by omega) (by omega))) ?_
      refine s1 (x_gtr rfl rfl) ?_
      refine s1 (x_assign (by conv => lhs; whnf)) ?_
      refine s_nil ?_
      refine t_n ?_
      first | refine c_dec rfl (fun hc21 => ?_) (fun hc21 => ?_) | refine c_if rfl (fun hc21 => ?_) (fun hc21 => ?_)
      · try simp only [decide_eq_true_eq, decide_eq_false_iff_not, Bool.not_eq_true, Bool.not_eq_false, Bool.not_eq_eq_eq_not, Bool.not_true, Bool.not_false, Int.not_lt, Int.not_le] at hc21
        have hp : appendD D k ys = (D, 21) := by unfold appendD; rw [if_neg hc12, if_neg hk, if_pos (by rw [hlen]; omega)]
        refine c_seq ?_
        refine r_plain ?_
        refine p1 (x_assign (by conv => lhs; whnf)) ?_
        refine r_nil ?_
        refine t_n ?_
        refine c_ret ?_
        refine b_r ?_
        refine t_r ?_
        refine end1 rfl (by conv => lhs; whnf) ?_
        first
          | exact ⟨by rw [hp], by rw [hp]; exact hD.grown w, ModS.ofExt hX⟩
          | exact ⟨by rw [hp], by rw [hp]; exact hD2.wide hXs, (ModS.ofExt hX).trans hM2 (fun _ _ h => h)⟩
      · try simp only [decide_eq_true_eq, decide_eq_false_iff_not, Bool.not_eq_true, Bool.not_eq_false, Bool.not_eq_eq_eq_not, Bool.not_true, Bool.not_false, Int.not_lt, Int.not_le] at hc21
        have hp : appendD D k ys = stepD D (insA D.l k (some ((getF D k).1 ++ ys, (getF D k).2))) true true := by unfold appendD; rw [if_neg hc12, if_neg hk, if_neg (by rw [hlen]; omega)]
        refine c_skip ?_
        refine b_n ?_
        refine t_n ?_
        refine c_seq ?_
        refine r_plain ?_
        refine p1 (x_load1 un23 rfl (hB3.cell (rfl))) ?_
        refine p1 (x_makeFunc (fs := []) (cs := [.pointer (some ⟨g3, 0, none⟩), .pointer (some ⟨g4, 0, none⟩), .pointer (some ⟨g5, 0, none⟩)]) rfl rfl) ?_
        have hXs := hX.size
        refine o_call Try.func46 fn46 fb46 (disk_step g S D _ hD hok hst hle 48 _ Try.func48 fn48 fb48 [.pointer (some ⟨g3, 0, none⟩), .pointer (some ⟨g4, 0, none⟩), .pointer (some ⟨g5, 0, none⟩)] (insA D.l k (some ((getF D k).1 ++ ys, (getF D k).2))) true true (fun w1 hE1 => disk_Append_do g S D _ (hD.ext hE1) hok k hk e B p n c ys (hl.ext hE1) (by omega) g3 g4 g5 (hB3.ext hE1) (hB4.ext hE1) (hB5.ext hE1))) rfl ?_
        rintro v8 w8 ⟨rfl, hD2, hM2⟩
        refine p1 (x_assign (by conv => lhs; whnf)) ?_
        refine r_nil ?_
        refine t_n ?_
        refine c_ret ?_
        refine end1 rfl (by conv => lhs; whnf) ?_
        first
          | exact ⟨by rw [hp], by rw [hp]; exact hD.grown w, ModS.ofExt hX⟩
          | exact ⟨by rw [hp], by rw [hp]; exact hD2.wide hXs, (ModS.ofExt hX).trans hM2 (fun _ _ h => h)⟩
theorem disk_Cut (g : Nat) (S : Nat → Prop) (D : DS) (w : World) (hD : Dsk S w g D) (hok : DOk D) (hst : D.steps < 4611686018427387904) (hle : D.left ≤ 9223372036854775807) (k : ByteArray) (hks : k.size ≤ 9223372036854775807) (n : Int) (hn1 : -9223372036854775808 ≤ n) (hn2 : n ≤ 9223372036854775807) :
    Ret Try.prog 25 [.pointer (some ⟨g, 0, none⟩), .string k, .int .i64 n] w (fun v w' => v = .int .i64 (cutD D k n).2 ∧ Dsk (grow S w w') w' g (cutD D k n).1 ∧ ModS S ED w w') := by
  have hX := Ext.refl w
  refine enter 39 _ Try.func25 rfl rfl (Nat.le_of_ble_eq_true rfl) rfl ?_
  refine c_seq ?_
  refine r_plain ?_
  refine o_box1 (by conv => lhs; whnf) rfl ?_
  intro w1 g3 hN3
  have hE1 := hN3.ext
  have hX := hX.ext hE1
  have hD := hD.ext hE1
  have hB3 := hN3.blk
  refine o_box1 (by conv => lhs; whnf) rfl ?_
  intro w2 g4 hN4
  have hE2 := hN4.ext
  have hX := hX.ext hE2
  have hD := hD.ext hE2
  have hB3 := hB3.ext hE2
  have hB4 := hN4.blk
  refine o_box1 (by conv => lhs; whnf) rfl ?_
  intro w3 g5 hN5
  have hE3 := hN5.ext
  have hX := hX.ext hE3
  have hD := hD.ext hE3
  have hB3 := hB3.ext hE3
  have hB4 := hB4.ext hE3
  have hB5 := hN5.blk
  refine p1 (x_assign (by conv => lhs; whnf)) ?_
  refine r_nil ?_
  refine t_n ?_
  refine c_seq ?_
  refine c_seq ?_
  refine r_plain ?_
  refine p1 (x_load1 un23 rfl (hB3.cell (rfl))) ?_
  refine p1 (x_load1 un9 rfl (hB4.cell (rfl))) ?_
  refine o_buildSlice u51 inf9 rfl (by decide) (fun base hb => fill_one (by rfl) base hb) ?_
  intro w4 g10 hN10
  have hE4 := hN10.ext
  have hX := hX.ext hE4
  have hD := hD.ext hE4
  have hB3 := hB3.ext hE4
  have hB4 := hB4.ext hE4
  have hB5 := hB5.ext hE4
  have hS10 : Sl kStr 9 0 w4 (some ⟨g10, 0, none⟩) 1 1 [k] := (own_lit (B0 := 0) [k] hN10 (Nat.zero_le _) (by simp)).sl
  refine o_call Try.func41 fn41 fb41 (disk_look g S D _ hD [k] 0 _ _ _ hS10 (by intro s hs'; simp only [List.mem_singleton] at hs'; subst hs'; exact hks)) rfl ?_
  rintro v5 w5 ⟨rfl, hE5⟩
  have hX := hX.ext hE5
  have hD := hD.ext hE5
  have hB3 := hB3.ext hE5
  have hB4 := hB4.ext hE5
  have hB5 := hB5.ext hE5
  have hS10 := hS10.ext hE5
  refine p1 (x_assign (by conv => lhs; whnf)) ?_
  refine r_nil ?_
  refine t_n ?_
  refine c_block ?_
  refine c_seq ?_
  refine r_plain ?_
  refine p1 (x_move (by conv => lhs; whnf)) ?_
  refine p1 (x_neq rfl rfl) ?_
  refine p1 (x_assign (by conv => lhs; whnf)) ?_
  refine r_nil ?_
  refine t_n ?_
  first | refine c_dec rfl (fun hc12 => ?_) (fun hc12 => ?_) | refine c_if rfl (fun hc12 => ?_) (fun hc12 => ?_)
  · try simp only [decide_eq_true_eq, decide_eq_false_iff_not, Bool.not_eq_true, Bool.not_eq_false, Bool.not_eq_eq_eq_not, Bool.not_true, Bool.not_false, Int.not_lt, Int.not_le] at hc12
    have hp : cutD D k n = (D, lookD D [k]) := if_pos hc12
    refine c_seq ?_
    refine r_plain ?_
    refine p1 (x_move (by conv => lhs; whnf)) ?_
    refine p1 (x_assign (by conv => lhs; whnf)) ?_
    refine r_nil ?_
    refine t_n ?_
    refine c_ret ?_
    refine b_r ?_
    refine t_r ?_
    refine end1 rfl (by conv => lhs; whnf) ?_
    first
      | exact ⟨by rw [hp], by rw [hp]; exact hD.grown w, ModS.ofExt hX⟩
      | exact ⟨by rw [hp], by rw [hp]; exact hD2.wide hXs, (ModS.ofExt hX).trans hM2 (fun _ _ h => h)⟩
  · try simp only [decide_eq_true_eq, decide_eq_false_iff_not, Bool.not_eq_true, Bool.not_eq_false, Bool.not_eq_eq_eq_not, Bool.not_true, Bool.not_false, Int.not_lt, Int.not_le] at hc12
    refine c_seq ?_
    refine r_plain ?_
    refine p1 (x_load1 un23 rfl (hB3.cell (rfl))) ?_
    refine p1 (x_load1 un9 rfl (hB4.cell (rfl))) ?_
    refine o_call Try.func42 fn42 fb42 (disk_there g S D _ hD k) rfl ?_
    rintro v6 w6 ⟨rfl, hE6⟩
    have hX := hX.ext hE6
    have hD := hD.ext hE6
    have hB3 := hB3.ext hE6
    have hB4 := hB4.ext hE6
    have hB5 := hB5.ext hE6
    have hS10 := hS10.ext hE6
    first | refine p1 (x_notd rfl) ?_ | refine p1 (x_not rfl) ?_
    refine p1 (x_assign (by conv => lhs; whnf)) ?_
    refine r_nil ?_
    refine t_n ?_
    first | refine c_dec rfl (fun hc16 => ?_) (fun hc16 => ?_) | refine c_if rfl (fun hc16 => ?_) (fun hc16 => ?_)
    · try simp only [decide_eq_true_eq, decide_eq_false_iff_not, Bool.not_eq_true, Bool.not_eq_false, Bool.not_eq_eq_eq_not, Bool.not_true, Bool.not_false, Int.not_lt, Int.not_le] at hc16
      have hk : ascF D.l k = none := by simpa using hc16
      have hp : cutD D k n = (D, 22) := by unfold cutD; rw [if_neg hc12, if_pos hk]
      refine c_seq ?_
      refine r_plain ?_
      refine p1 (x_assign (by conv => lhs; whnf)) ?_
      refine r_nil ?_
      refine t_n ?_
      refine c_ret ?_
      refine b_r ?_
      refine t_r ?_
      refine end1 rfl (by conv => lhs; whnf) ?_
      first
        | exact ⟨by rw [hp], by rw [hp]; exact hD.grown w, ModS.ofExt hX⟩
        | exact ⟨by rw [hp], by rw [hp]; exact hD2.wide hXs, (ModS.ofExt hX).trans hM2 (fun _ _ h => h)⟩
    · try simp only [decide_eq_true_eq, decide_eq_false_iff_not, Bool.not_eq_true, Bool.not_eq_false, Bool.not_eq_eq_eq_not, Bool.not_true, Bool.not_false, Int.not_lt, Int.not_le] at hc16
      have hk : ¬ ascF D.l k = none := by simpa using hc16
      refine c_seq ?_
      have hWr6 := Ext.refl w6
      refine c_cut (ι := Unit) [21, 22, 23, 24, 25, 26, 27, 28, 29, 30, 31, 32, 33, 34, 35] (fun _ => [(21, .bool (decide (n < 0 ∨ ((getF D k).1.length : Int) < n)))]) (fun _ w' => Ext w6 w') ?_ ?_
      · skip
        refine r_still mixed (by kernel_rfl) ?_
        intro w8 hE8
        have hX := hX.ext hE8
        have hD := hD.ext hE8
        have hB3 := hB3.ext hE8
        have hB4 := hB4.ext hE8
        have hB5 := hB5.ext hE8
        have hS10 := hS10.ext hE8
        have hWr6 := hWr6.ext hE8
        obtain ⟨r, μ, hB, hM, hSg, hSr, hF⟩ := hD.ex
        refine s1 (x_load1 un3 rfl (hB5.cell (rfl))) ?_
        refine s1 (x_lss rfl rfl) ?_
        refine s1b (x_move (by conv => lhs; whnf)) (fun hb6_2 => ?_) (fun hb6_2 => ?_)
        · try simp only [decide_eq_true_eq, decide_eq_false_iff_not, Bool.not_eq_true, Bool.not_eq_false, Bool.not_eq_eq_eq_not, Bool.not_true, Bool.not_false, Int.not_lt, Int.not_le] at hb6_2
          refine sg0 24 rfl (by first | exact .inl rfl | exact .inr rfl) ?_
          refine sg0 24 rfl (by first | exact .inl rfl | exact .inr rfl) ?_
          refine sg0 24 rfl (by first | exact .inl rfl | exact .inr rfl) ?_
          refine sg0 24 rfl (by first | exact .inl rfl | exact .inr rfl) ?_
          refine sg0 24 rfl (by first | exact .inl rfl | exact .inr rfl) ?_
          refine sg0 24 rfl (by first | exact .inl rfl | exact .inr rfl) ?_
          obtain ⟨⟨p0, n0, c0, s0⟩, hr0⟩ : ∃ x : Raw, x = (μ k).getD raw0 := ⟨_, rfl⟩
          obtain ⟨hF0, hs0⟩ := hF.get k
          rw [← hr0] at hF0 hs0
          simp only at hF0 hs0
          have hlen0 := hF0.len
          refine sg0 24 rfl (by first | exact .inl rfl | exact .inr rfl) ?_
          refine sg0 24 rfl (by first | exact .inl rfl | exact .inr rfl) ?_
          refine sg0 24 rfl (by first | exact .inl rfl | exact .inr rfl) ?_
          refine sg0 24 rfl (by first | exact .inl rfl | exact .inr rfl) ?_
          refine s1 (x_pick_t rfl (by conv => lhs; whnf)) ?_
          refine s1 (x_assign (by conv => lhs; whnf)) ?_
          refine s_nil ?_
          refine t_n (At.mk () (by repeat (first | exact Agr.refl _ _ | exact Agr.hav _ _ _ | refine Agr.upd rfl ?_ | refine Agr.updR rfl ?_ | refine Agr.updL ?_ _ rfl | refine Agr.hav' rfl ?_)) ⟨congrArg Value.bool (by first | rfl | (unfold getF ascF; exact (decide_eq_true (by omega)).symm) | (unfold getF ascF; exact decide_eq_decide.2 (by omega)) | (unfold getF ascF; exact (decide_eq_false (by omega)).symm)), trivial⟩ hWr6)
        · try simp only [decide_eq_true_eq, decide_eq_false_iff_not, Bool.not_eq_true, Bool.not_eq_false, Bool.not_eq_eq_eq_not, Bool.not_true, Bool.not_false, Int.not_lt, Int.not_le] at hb6_2
          refine sg1 24 rfl rfl (x_load1 un3 rfl (hB5.cell (rfl))) ?_
          refine sg1 24 rfl rfl (x_load1 un23 rfl (hB3.cell (rfl))) ?_
          refine sg1 24 rfl rfl (x_nilCheck rfl) ?_
          refine sg1 24 rfl rfl (x_fieldAddr fo66_2 sz64 rfl) ?_
          refine sg1 24 rfl rfl (x_load1 un64 rfl (hB.cell (rfl))) ?_
          refine sg1 24 rfl rfl (x_load1 un9 rfl (hB4.cell (rfl))) ?_
          obtain ⟨⟨p0, n0, c0, s0⟩, hr0⟩ : ∃ x : Raw, x = (μ k).getD raw0 := ⟨_, rfl⟩
          obtain ⟨hF0, hs0⟩ := hF.get k
          rw [← hr0] at hF0 hs0
          simp only at hF0 hs0
          have hlen0 := hF0.len
          refine sg1 24 rfl rfl (((lookF u64 zr76 (keyOk_str u9) hM k rfl rfl).1).cast (by rw [← hr0]; rfl : _ = Value.agg #[.slice p0 n0 c0, .int .i64 (s0 : Int)])) ?_
          refine sg1 24 rfl rfl (x_field1 fo76_0 un31 rfl rfl) ?_
          refine sg1 24 rfl rfl (x_len_slice u31 rfl) ?_
          refine sg1 24 rfl rfl (x_gtr rfl rfl) ?_
          refine s1 (x_pick_f rfl (by conv => lhs; whnf)) ?_
          refine s1 (x_assign (by conv => lhs; whnf)) ?_
          refine s_nil ?_
          refine t_n (At.mk () (by repeat (first | exact Agr.refl _ _ | exact Agr.hav _ _ _ | refine Agr.upd rfl ?_ | refine Agr.updR rfl ?_ | refine Agr.updL ?_ _ rfl | refine Agr.hav' rfl ?_)) ⟨congrArg Value.bool (by first | rfl | (unfold getF ascF; exact (decide_eq_true (by omega)).symm) | (unfold getF ascF; exact decide_eq_decide.2 (by omega)) | (unfold getF ascF; exact (decide_eq_false (by omega)).symm)), trivial⟩ hWr6)
      · rintro _ Gr6 w7 hE7
        have hX := hX.ext hE7
        have hD := hD.ext hE7
        have hB3 := hB3.ext hE7
        have hB4 := hB4.ext hE7
        have hB5 := hB5.ext hE7
        have hS10 := hS10.ext hE7
        refine t_n ?_
        first | refine c_dec rfl (fun hc21 => ?_) (fun hc21 => ?_) | refine c_if rfl (fun hc21 => ?_) (fun hc21 => ?_)
        · try simp only [decide_eq_true_eq, decide_eq_false_iff_not, Bool.not_eq_true, Bool.not_eq_false, Bool.not_eq_eq_eq_not, Bool.not_true, Bool.not_false, Int.not_lt, Int.not_le] at hc21
          have hp : cutD D k n = (D, 2) := by unfold cutD; rw [if_neg hc12, if_neg hk, if_pos hc21]
          refine c_seq ?_
          refine r_plain ?_
          refine p1 (x_assign (by conv => lhs; whnf)) ?_
          refine r_nil ?_
          refine t_n ?_
          refine c_ret ?_
          refine b_r ?_
          refine t_r ?_
          refine end1 rfl (by conv => lhs; whnf) ?_
          first
            | exact ⟨by rw [hp], by rw [hp]; exact hD.grown w, ModS.ofExt hX⟩
            | exact ⟨by rw [hp], by rw [hp]; exact hD2.wide hXs, (ModS.ofExt hX).trans hM2 (fun _ _ h => h)⟩
        · try simp only [decide_eq_true_eq, decide_eq_false_iff_not, Bool.not_eq_true, Bool.not_eq_false, Bool.not_eq_eq_eq_not, Bool.not_true, Bool.not_false, Int.not_lt, Int.not_le] at hc21
          have hp : cutD D k n = stepD D (insA D.l k (some ((getF D k).1.take n.toNat, n.toNat))) true false := by unfold cutD; rw [if_neg hc12, if_neg hk, if_neg hc21]
          have hB5 := by rw [show Value.int .i64 n = Value.int .i64 ((n.toNat : Nat) : Int) from congrArg _ (by omega)] at hB5; exact hB5
          refine c_skip ?_
          refine b_n ?_
          refine t_n ?_
          refine c_seq ?_
          refine r_plain ?_
          refine p1 (x_load1 un23 rfl (hB3.cell (rfl))) ?_
          refine p1 (x_makeFunc (fs := []) (cs := [.pointer (some ⟨g3, 0, none⟩), .pointer (some ⟨g4, 0, none⟩), .pointer (some ⟨g5, 0, none⟩)]) rfl rfl) ?_
          have hXs := hX.size
          refine o_call Try.func46 fn46 fb46 (disk_step g S D _ hD hok hst hle 52 _ Try.func52 fn52 fb52 [.pointer (some ⟨g3, 0, none⟩), .pointer (some ⟨g4, 0, none⟩), .pointer (some ⟨g5, 0, none⟩)] (insA D.l k (some ((getF D k).1.take n.toNat, n.toNat))) true false (fun w1 hE1 => disk_Cut_do g S D _ (hD.ext hE1) hok k hk n.toNat (by omega) g3 g4 g5 (hB3.ext hE1) (hB4.ext hE1) (hB5.ext hE1))) rfl ?_
          rintro v9 w9 ⟨rfl, hD2, hM2⟩
          refine p1 (x_assign (by conv => lhs; whnf)) ?_
          refine r_nil ?_
          refine t_n ?_
          refine c_ret ?_
          refine end1 rfl (by conv => lhs; whnf) ?_
          first
            | exact ⟨by rw [hp], by rw [hp]; exact hD.grown w, ModS.ofExt hX⟩
            | exact ⟨by rw [hp], by rw [hp]; exact hD2.wide hXs, (ModS.ofExt hX).trans hM2 (fun _ _ h => h)⟩
theorem disk_Fail (g : Nat) (S : Nat → Prop) (D : DS) (w : World) (hD : Dsk S w g D) (hok : DOk D) (hst : D.steps < 4611686018427387904) (hle : D.left ≤ 9223372036854775807) (n : Int) (hn1 : -9223372036854775808 ≤ n) (hn2 : n ≤ 9223372036854775807) (dn : Bool) :
    Ret Try.prog 18 [.pointer (some ⟨g, 0, none⟩), .int .i64 n, .bool dn] w (fun v w' => v = .int .i64 (failD D n dn).2 ∧ Dsk (grow S w w') w' g (failD D n dn).1 ∧ ModS S ED w w') := by
  have hX := Ext.refl w
  refine enter 25 _ Try.func18 rfl rfl (Nat.le_of_ble_eq_true rfl) rfl ?_
  refine c_seq ?_
  refine r_plain ?_
  refine p1 (x_assign (by conv => lhs; whnf)) ?_
  refine r_nil ?_
  refine t_n ?_
  refine c_seq ?_
  refine c_seq ?_
  refine r_plain ?_
  refine p1 (x_move (by conv => lhs; whnf)) ?_
  refine o_call Try.func41 fn41 fb41 (disk_look g S D _ hD [] 0 none 0 0 (Sl.nil _ _ _ _ _ _ (by omega)) (by intro s hs'; cases hs')) rfl ?_
  rintro v1 w1 ⟨rfl, hE1⟩
  have hX := hX.ext hE1
  have hD := hD.ext hE1
  refine p1 (x_assign (by conv => lhs; whnf)) ?_
  refine r_nil ?_
  refine t_n ?_
  refine c_block ?_
  refine c_seq ?_
  refine r_plain ?_
  refine p1 (x_move (by conv => lhs; whnf)) ?_
  refine p1 (x_neq rfl rfl) ?_
  refine p1 (x_assign (by conv => lhs; whnf)) ?_
  refine r_nil ?_
  refine t_n ?_
  first | refine c_dec rfl (fun hc10 => ?_) (fun hc10 => ?_) | refine c_if rfl (fun hc10 => ?_) (fun hc10 => ?_)
  · try simp only [decide_eq_true_eq, decide_eq_false_iff_not, Bool.not_eq_true, Bool.not_eq_false, Bool.not_eq_eq_eq_not, Bool.not_true, Bool.not_false, Int.not_lt, Int.not_le] at hc10
    have hd : D.down = true := by cases e : D.down with | true => rfl | false => exact absurd (by unfold lookD; simp [e] : lookD D [] = 0) hc10
    have hl20 : lookD D [] = 20 := by unfold lookD; simp [hd]
    have hp : failD D n dn = (D, lookD D []) := by unfold failD; rw [if_pos hd, hl20]
    refine c_seq ?_
    refine r_plain ?_
    refine p1 (x_move (by conv => lhs; whnf)) ?_
    refine p1 (x_assign (by conv => lhs; whnf)) ?_
    refine r_nil ?_
    refine t_n ?_
    refine c_ret ?_
    refine b_r ?_
    refine t_r ?_
    refine end1 rfl (by conv => lhs; whnf) ?_
    first
      | exact ⟨by rw [hp], by rw [hp]; exact hD.grown w, ModS.ofExt hX⟩
      | exact ⟨by rw [hp], by rw [hp]; exact hD2.wide hXs, (ModS.ofExt hX).trans hM2 (fun _ _ h => h)⟩
      | exact ⟨by rw [hp], by rw [hp]; exact Dsk.of (D := { D with left := n, done := dn }) hB hM hSg hSr hF same_open, hX⟩
  · try simp only [decide_eq_true_eq, decide_eq_false_iff_not, Bool.not_eq_true, Bool.not_eq_false, Bool.not_eq_eq_eq_not, Bool.not_true, Bool.not_false, Int.not_lt, Int.not_le] at hc10
    have hd : ¬ D.down = true := fun e => absurd (by unfold lookD; simp [e] : lookD D [] = 20) (by omega)
    refine c_seq ?_
    refine r_plain ?_
    refine p1 (x_move (by conv => lhs; whnf)) ?_
    refine p1 (x_lss rfl rfl) ?_
    refine p1 (x_assign (by conv => lhs; whnf)) ?_
    refine r_nil ?_
    refine t_n ?_
    first | refine c_dec rfl (fun hc14 => ?_) (fun hc14 => ?_) | refine c_if rfl (fun hc14 => ?_) (fun hc14 => ?_)
    · try simp only [decide_eq_true_eq, decide_eq_false_iff_not, Bool.not_eq_true, Bool.not_eq_false, Bool.not_eq_eq_eq_not, Bool.not_true, Bool.not_false, Int.not_lt, Int.not_le] at hc14
      have hp : failD D n dn = (D, 2) := by unfold failD; rw [if_neg hd, if_pos hc14]
      refine c_seq ?_
      refine r_plain ?_
      refine p1 (x_assign (by conv => lhs; whnf)) ?_
      refine r_nil ?_
      refine t_n ?_
      refine c_ret ?_
      refine b_r ?_
      refine t_r ?_
      refine end1 rfl (by conv => lhs; whnf) ?_
      first
        | exact ⟨by rw [hp], by rw [hp]; exact hD.grown w, ModS.ofExt hX⟩
        | exact ⟨by rw [hp], by rw [hp]; exact hD2.wide hXs, (ModS.ofExt hX).trans hM2 (fun _ _ h => h)⟩
        | exact ⟨by rw [hp], by rw [hp]; exact Dsk.of (D := { D with left := n, done := dn }) hB hM hSg hSr hF same_open, hX⟩
    · try simp only [decide_eq_true_eq, decide_eq_false_iff_not, Bool.not_eq_true, Bool.not_eq_false, Bool.not_eq_eq_eq_not, Bool.not_true, Bool.not_false, Int.not_lt, Int.not_le] at hc14
      have hp : failD D n dn = ({ D with left := n, done := dn }, 0) := by unfold failD; rw [if_neg hd, if_neg (by omega)]
      refine c_skip ?_
      refine b_n ?_
      refine t_n ?_
      refine c_seq ?_
      obtain ⟨r, μ, hB, hM, hSg, hSr, hF⟩ := hD.ex
      have hXe := hX.size
      have hX := ModS.ofExt (S := S) (E := ED) hX
      refine r_plain ?_
      refine p1 (x_move (by conv => lhs; whnf)) ?_
      refine p1 (x_move (by conv => lhs; whnf)) ?_
      refine p1 (x_move (by conv => lhs; whnf)) ?_
      refine p1 (x_move (by conv => lhs; whnf)) ?_
      refine p1 (x_nilCheck rfl) ?_
      refine p1 (x_fieldAddr fo66_4 sz3 rfl) ?_
      refine o_store1 rfl (by conv => lhs; whnf) rfl rfl sz3 hB (by simp) ?_
      intro w2 hP2
      have hB := hP2.blk
      simp only [List.setIfInBounds_toArray, List.set_cons_zero, List.set_cons_succ] at hB
      have hX := hX.put hP2 ⟨.inl hSg, by decide⟩
      have hM := hM.mod (hP2.mod 0 (Nat.zero_le _)) (Nat.zero_le _) (by decide)
      have hF := hF.one hP2.one (by decide)
      refine p1 (x_nilCheck rfl) ?_
      refine p1 (x_fieldAddr fo66_5 sz4 rfl) ?_
      refine o_store1 rfl (by conv => lhs; whnf) rfl rfl sz4 hB (by simp) ?_
      intro w3 hP3
      have hX := hX.put hP3 (⟨.inl hSg, by decide⟩)
      have hB := hP3.blk
      simp only [List.setIfInBounds_toArray, List.set_cons_zero, List.set_cons_succ] at hB
      have hM := hM.mod (hP3.mod 0 (Nat.zero_le _)) (Nat.zero_le _) (by decide)
      have hF := hF.one hP3.one (by decide)
      refine r_nil ?_
      refine t_n ?_
      refine c_seq ?_
      refine r_plain ?_
      refine p1 (x_assign (by conv => lhs; whnf)) ?_
      refine r_nil ?_
      refine t_n ?_
      refine c_ret ?_
      refine end1 rfl (by conv => lhs; whnf) ?_
      first
        | exact ⟨by rw [hp], by rw [hp]; exact hD.grown w, ModS.ofExt hX⟩
        | exact ⟨by rw [hp], by rw [hp]; exact hD2.wide hXs, (ModS.ofExt hX).trans hM2 (fun _ _ h => h)⟩
        | exact ⟨by rw [hp], by rw [hp]; exact Dsk.of (D := { D with left := n, done := dn }) hB hM hSg hSr hF same_open, hX⟩
end Go.Proofs.Eng
end
section
set_option linter.unusedVariables false
set_option linter.unusedSimpArgs false
namespace Go.Proofs.Eng
open Go.RowKit
open Go.Proofs Go.Shelf
open Extern.Stop (cell)
/-! ### slices.Sort of names -/
theorem bl_lt : ∀ (a b : List UInt8), Op.bytesLess a b = decide (a < b)
  | _, [] => by simp [Op.bytesLess, List.not_lt_nil]
  | [], _ :: _ => by simp [Op.bytesLess]
  | a :: x, b :: y => by
    unfold Op.bytesLess
    rw [bl_lt x y, Bool.eq_iff_iff]
    simp only [Bool.or_eq_true, Bool.and_eq_true, decide_eq_true_eq, beq_iff_eq, List.cons_lt_cons_iff]
theorem tl_ofL (l : List UInt8) : (ByteArray.mk l.toArray).toList = l := by
  rw [ByteArray.toList_eq]
def ofL (l : List UInt8) : ByteArray := ⟨l.toArray⟩
theorem own_of_sortS {e : TypeId} {B B0 : Nat} {w : World} {g n c : Nat} {xs : List ByteArray} (h : Own kStr e B B0 w (some ⟨g, 0, none⟩) n c xs) (hn : 0 < n) (m : Nat) (d' : List (List UInt8)) (hd : d'.length = n) (os : Array Obj) :
    Own kStr e B B0 (Sort.grow (Sort.putRow encStr (Sort.ahead w m) g 0 d'.toArray) os) (some ⟨g, 0, none⟩) n c (d'.map ofL) ∧ Mod B0 e w (Sort.grow (Sort.putRow encStr (Sort.ahead w m) g 0 d'.toArray) os) := by
  obtain ⟨g', cur, css, e1, h2, h3, h4, h5, h6, ha, hlf, ht⟩ := h.block hn
  injection e1 with e1; injection e1 with e1; subst e1
  have hlt := h3.lt
  have hsz : (Sort.putRow encStr (Sort.ahead w m) g 0 d'.toArray).heap.size = w.heap.size := by rw [Sort.size_putRow]; rfl
  have hcell : ∀ k, k < w.heap.size → (Sort.grow (Sort.putRow encStr (Sort.ahead w m) g 0 d'.toArray) os).heap[k]? = (Sort.putRow encStr (Sort.ahead w m) g 0 d'.toArray).heap[k]? := fun k hk => Sort.heap_grow_old _ os (by rw [hsz]; exact hk)
  have hother : ∀ k, k ≠ g → (Sort.putRow encStr (Sort.ahead w m) g 0 d'.toArray).heap[k]? = w.heap[k]? := fun k hk => by
    simp only [Sort.putRow, Sort.mapBlock, Sort.ahead, Array.getElem?_modify]
    rw [if_neg (fun e => hk e.symm)]
  have hgb : (Sort.putRow encStr (Sort.ahead w m) g 0 d'.toArray).heap[g]? = some (.cells (Sort.putCells encStr 0 d'.toArray cur) e (0, 0)) := by
    simp only [Sort.putRow, Sort.mapBlock, Sort.ahead, Array.getElem?_modify]
    rw [if_pos trivial]
    have : w.heap[g]? = some (.cells cur e (0, 0)) := h3
    rw [this]; rfl
  have hb : Blk (Sort.grow (Sort.putRow encStr (Sort.ahead w m) g 0 d'.toArray) os) g (Sort.putCells encStr 0 d'.toArray cur) e := (hcell g hlt).trans hgb
  have hm : Mod B0 e w (Sort.grow (Sort.putRow encStr (Sort.ahead w m) g 0 d'.toArray) os) := by
    refine ⟨?_, fun k hk ho => ?_, fun k hk => ?_, ?_, rfl, rfl, rfl⟩
    · rw [Sort.size_grow, hsz]; omega
    · have hne : k ≠ g := by
        intro ek; subst ek
        rcases ho with ho | ho
        · omega
        · exact ho h3.ty
      exact (hcell k hk).trans (hother k hne)
    · by_cases ek : k = g
      · subst ek; rw [hb.ty, h3.ty]
      · exact ty_of_heap ((hcell k hk).trans (hother k ek))
    · show w.drawn ≤ w.drawn + m; omega
  have hz : kStr.sz = 1 := rfl
  refine ⟨Own.remade h2 hb h4 h5 (by rw [hz] at h6 ⊢; simp [Sort.putCells, h6]) (by simp [hd]) (pure_all B _ (d'.map ofL)) ?_, hm⟩
  rw [hz, Nat.mul_one]
  rw [hz, Nat.mul_one] at h6
  apply List.ext_getElem?
  intro j
  rw [List.getElem?_take]
  have hfl : ((d'.map ofL).map fun s => [Value.string s]).flatten = d'.map encStr := by
    rw [List.map_map]
    clear hd hsz hcell hother hgb hb hm
    induction d' with
    | nil => rfl
    | cons x l ih => simp only [List.map_cons, List.flatten_cons, ih]; rfl
  rw [hfl]
  by_cases hj : j < n
  · rw [if_pos hj, Array.getElem?_toList]
    have hjc : j < cur.size := by omega
    simp only [Sort.putCells, Array.getElem?_mapIdx, Array.getElem?_eq_getElem hjc, Option.map_some]
    rw [if_pos ⟨Nat.zero_le _, by simp; omega⟩, Nat.sub_zero, List.getElem?_map, List.getElem?_eq_getElem (show j < d'.length by omega)]
    rw [getElem!_pos d'.toArray j (by simp; omega)]
    simp
  · rw [if_neg hj, List.getElem?_eq_none (by simp; omega)]
theorem holds_of_ownS {e : TypeId} {B B0 : Nat} {w : World} {g n c : Nat} {xs : List ByteArray} (h : Own kStr e B B0 w (some ⟨g, 0, none⟩) n c xs) (hn : 0 < n) : Sort.Holds encStr w g 0 (xs.map (·.toList)).toArray := by
  obtain ⟨g', cur, css, e1, h2, h3, h4, h5, h6, ha, hlf, ht⟩ := h.block hn
  injection e1 with e1; injection e1 with e1; subst e1
  have hlen := h.len
  intro j hj
  have hj' : j < xs.length := by simpa using hj
  refine ⟨?_, frozen_of_row w g _ cur e h3⟩
  have := h.sl.strAt j (by omega)
  refine (show w.cell? ⟨g, 0 + j, none⟩ = _ from this).trans ?_
  rw [getElem!_pos _ j hj]
  have e2 : (xs.map (·.toList)).toArray[j] = (xs[j]).toList := by simp
  rw [e2, List.getD_eq_getElem?_getD, List.getElem?_eq_getElem hj', Option.getD_some]
  have : encStr (xs[j]).toList = Value.string (ofL (xs[j]).toList) := rfl
  rw [this]
  exact congrArg (fun s => some (Value.string s)) (ba_toList_inj (tl_ofL _).symm)
theorem ofL_toList (s : ByteArray) : ofL s.toList = s := ba_toList_inj (tl_ofL _)
theorem slices_Sort_str (xs : List ByteArray) (B0 : Nat) (p : Option Addr) (n c : Nat) (w : World) (hO : Own kStr 9 0 B0 w p n c xs) (hs : n ≤ 4194304000) (hnd : xs.Nodup) :
    Ret Try.prog 53 [.slice p n c] w (fun v w' => ∃ ys, Own kStr 9 0 B0 w' p n c ys ∧ ys.Perm xs ∧ ys.Pairwise (fun a b => lssB a b = true) ∧ Mod B0 9 w w') := by
  rcases Nat.eq_zero_or_pos n with h0 | h0
  · subst h0
    have hx0 : xs = [] := List.eq_nil_of_length_eq_zero hO.len
    subst hx0
    refine ⟨Calls.mono (AnyM.slices_Sort_string_none Try.laysSlM6_f53 p c w) ?_⟩
    rintro e w' ⟨rfl, rfl⟩
    exact ⟨_, rfl, [], hO, .refl _, .nil, .refl _ _ _⟩
  · obtain ⟨g, cur, css, e1, h2, h3, _⟩ := hO.block h0
    subst e1
    have hlen := hO.len
    have hc := Try.slices_Sort_string g 0 c (xs.map (·.toList)) w (holds_of_ownS hO h0) h3.lt (by simp; omega)
    have hsz : (xs.map (·.toList)).length = n := by simpa using hlen
    rw [hsz] at hc
    refine ⟨Calls.mono hc ?_⟩
    rintro e w' ⟨rfl, m, os, rfl⟩
    have hpp := List.mergeSort_perm (xs.map (·.toList)) (fun x y => decide (x ≤ y))
    have hd := hpp.length_eq.trans hsz
    obtain ⟨ho', hm'⟩ := own_of_sortS hO h0 m _ hd os
    have hperm : (((xs.map (·.toList)).mergeSort fun x y => decide (x ≤ y)).map ofL).Perm xs := by
      have := hpp.map ofL
      rw [List.map_map] at this
      have e3 : xs.map (ofL ∘ fun x => x.toList) = xs := by
        conv => rhs; rw [← List.map_id xs]
        exact List.map_congr_left fun s _ => ofL_toList s
      rwa [e3] at this
    refine ⟨_, rfl, _, ho', hperm, ?_, hm'⟩
    have hso : ((xs.map (·.toList)).mergeSort fun x y => decide (x ≤ y)).Pairwise (fun x y => x ≤ y) := by
      have := List.pairwise_mergeSort (le := fun x y : List UInt8 => decide (x ≤ y)) (fun a b c h1 h2 => by simp only [decide_eq_true_eq] at *; exact List.le_trans h1 h2) (fun a b => by simp only [Bool.or_eq_true, decide_eq_true_eq]; exact List.le_total a b) (xs.map (·.toList))
      exact this.imp fun h => by simpa using h
    have hnd2 : (((xs.map (·.toList)).mergeSort fun x y => decide (x ≤ y)).map ofL).Nodup := hperm.nodup_iff.2 hnd
    rw [List.pairwise_map]
    have hnd3 := List.pairwise_map.1 hnd2
    refine (hso.and hnd3).imp fun {x y} ⟨h1, h2⟩ => ?_
    show Op.bytesLess (ofL x).toList (ofL y).toList = true
    unfold ofL
    rw [tl_ofL, tl_ofL]
    rcases bl_total x y with h | h | h
    · exact absurd (congrArg ofL h) h2
    · exact h
    · rw [bl_lt] at h
      exact absurd (of_decide_eq_true h) (List.not_lt.2 h1)
end Go.Proofs.Eng
end
section
set_option linter.unusedVariables false
set_option linter.unusedSimpArgs false
set_option maxRecDepth 100000
set_option maxHeartbeats 4000000
namespace Go.Proofs.Eng
open Go.RowKit
open Extern.Stop (cell)
theorem fb43 : Try.f43.body.isNone = false := by kernel_rfl
theorem fb53 : Try.f53.body.isNone = false := by kernel_rfl
theorem fn43 : (Try.f43.name == "runtime.NumGoroutine") = false := by kernel_rfl
theorem fn53 : (Try.f53.name == "runtime.NumGoroutine") = false := by kernel_rfl
theorem pl66 : placed Try.prog 66 = some (.agg #[.int .i64 0, .int .i64 0, .map none, .int .i64 0, .int .i64 0, .bool false, .bool false], [(0, 1), (1, 1), (2, 1), (3, 1), (4, 1), (5, 1), (6, 1)]) := by kernel_rfl
end Go.Proofs.Eng
end
section
set_option linter.unusedVariables false
set_option linter.unusedSimpArgs false
set_option maxRecDepth 100000
set_option maxHeartbeats 4000000
namespace Go.Proofs.Eng
open Go.RowKit
open Extern.Stop (cell)
theorem slices_Clone_byte (xs : List UInt8) (e B : Nat) (p : Option Addr) (n c : Nat) (w : World) (hl : Sl kByte e B w p n c xs) (hs : n ≤ 4194304000) :
    Ret Try.prog 43 [.slice p n c] w (fun v w' => (∃ q c', v = .slice q n c' ∧ Own kByte 5 0 w.heap.size w' q n c' xs) ∧ Ext w w') := by
  have hX := Ext.refl w
  refine enter 8 _ Try.func43 rfl rfl (Nat.le_of_ble_eq_true rfl) rfl ?_
  refine c_seq ?_
  refine r_plain ?_
  refine p1 (x_assign (by conv => lhs; whnf)) ?_
  refine r_nil ?_
  refine t_n ?_
  refine c_seq ?_
  refine c_seq ?_
  refine r_plain ?_
  refine p1 (x_move (by conv => lhs; whnf)) ?_
  refine p1 (x_eql_slnil u31 rfl rfl) ?_
  refine r_nil ?_
  refine t_n ?_
  first | refine c_dec rfl (fun hc4 => ?_) (fun hc4 => ?_) | refine c_if rfl (fun hc4 => ?_) (fun hc4 => ?_)
  · try simp only [decide_eq_true_eq, decide_eq_false_iff_not, Bool.not_eq_true, Bool.not_eq_false, Bool.not_eq_eq_eq_not, Bool.not_true, Bool.not_false, Int.not_lt, Int.not_le] at hc4
    have hn : n = 0 := by
      rcases Nat.eq_zero_or_pos n with h | h
      · exact h
      · have := hl.adr kByte_pos h; rw [hc4] at this; cases this
    have hx0 : xs = [] := List.eq_nil_of_length_eq_zero (by rw [hl.len, hn])
    have hp : Own kByte 5 0 w.heap.size w none 0 0 xs := by rw [hx0]; exact Own.nil _ _ _ _ _
    refine c_seq ?_
    refine r_plain ?_
    refine p1 (x_assign (by conv => lhs; whnf)) ?_
    refine r_nil ?_
    refine t_n ?_
    refine c_ret ?_
    refine t_r ?_
    refine end1 rfl (by conv => lhs; whnf) ?_
    first | (subst hn; exact ⟨⟨none, 0, rfl, hp⟩, hX⟩) | exact ⟨⟨_, _, by rw [Nat.zero_add], by rw [List.nil_append, Nat.zero_add] at hO; exact hO⟩, hX⟩
  · try simp only [decide_eq_true_eq, decide_eq_false_iff_not, Bool.not_eq_true, Bool.not_eq_false, Bool.not_eq_eq_eq_not, Bool.not_true, Bool.not_false, Int.not_lt, Int.not_le] at hc4
    refine c_skip ?_
    refine t_n ?_
    refine c_seq ?_
    refine r_plain ?_
    refine o_buildSlice u31 inf5 rfl (by decide) (fun base hb => by have h0 : base = #[] := Array.eq_empty_of_size_eq_zero (by simpa using hb); subst h0; rfl) ?_
    intro w1 g5 hN5
    have hE1 := hN5.ext
    have hX := hX.ext hE1
    have hO : Own kByte 5 0 w.heap.size w1 (some ⟨g5, 0, none⟩) 0 0 [] := Own.made kByte 5 0 _ hN5 [] [] 0 0 rfl trivial (by have := hX.size; have := hN5.g_eq; have := hN5.ext.size; omega) (by omega) (by omega) (by rfl) (by simp)
    refine p1 (x_move (by conv => lhs; whnf)) ?_
    have hB0 := hX.size
    have hl2 := hl.ext hX
    refine o_append (d := kByte) (xs) u31 inf5 rfl kByte_pos rfl rfl hO (src_pure u31 hl2 (by decide)) hl.len (byte_all _ _ _) (rfl) (by omega) (by omega) (by omega) (by omega) (by decide) ?_
    intro p7 c7 w2 hO hM2
    have hX := hX.mod hM2 (Nat.le_refl _)
    refine p1 (x_assign (by conv => lhs; whnf)) ?_
    refine r_nil ?_
    refine t_n ?_
    refine c_ret ?_
    refine end1 rfl (by conv => lhs; whnf) ?_
    first | (subst hn; exact ⟨⟨none, 0, rfl, hp⟩, hX⟩) | exact ⟨⟨_, _, by rw [Nat.zero_add], by rw [List.nil_append, Nat.zero_add] at hO; exact hO⟩, hX⟩
theorem disk_Used (g : Nat) (S : Nat → Prop) (D : DS) (w : World) (hD : Dsk S w g D) :
    Ret Try.prog 29 [.pointer (some ⟨g, 0, none⟩)] w (fun v w' => v = .int .i64 ((usedL D.l : Nat) : Int) ∧ Ext w w') := by
  obtain ⟨r, μ, hB, hM, hSg, hSr, hF⟩ := hD.ex
  have hX := Ext.refl w
  refine enter 9 _ Try.func29 rfl rfl (Nat.le_of_ble_eq_true rfl) rfl ?_
  refine c_seq ?_
  refine r_plain ?_
  refine p1 (x_assign (by conv => lhs; whnf)) ?_
  refine r_nil ?_
  refine t_n ?_
  refine c_seq ?_
  refine c_seq ?_
  refine r_plain ?_
  refine p1 (x_move (by conv => lhs; whnf)) ?_
  refine p1 ((x_eql_ptrnil u23 rfl rfl).cast (congrArg _ (decide_eq_false (by simp)))) ?_
  refine r_nil ?_
  refine t_n ?_
  refine c_f rfl ?_
  refine c_skip ?_
  refine t_n ?_
  refine c_seq ?_
  refine r_plain ?_
  refine p1 (x_move (by conv => lhs; whnf)) ?_
  refine p1 (x_nilCheck rfl) ?_
  refine p1 (x_fieldAddr fo66_1 sz3 rfl) ?_
  refine p1 (x_load1 un3 rfl (hB.cell (rfl))) ?_
  refine p1 (x_assign (by conv => lhs; whnf)) ?_
  refine r_nil ?_
  refine t_n ?_
  refine c_ret ?_
  refine end1 rfl (by conv => lhs; whnf) ?_
  exact ⟨rfl, hX⟩
theorem disk_Steps (g : Nat) (S : Nat → Prop) (D : DS) (w : World) (hD : Dsk S w g D) :
    Ret Try.prog 22 [.pointer (some ⟨g, 0, none⟩)] w (fun v w' => v = .int .i64 (D.steps : Int) ∧ Ext w w') := by
  obtain ⟨r, μ, hB, hM, hSg, hSr, hF⟩ := hD.ex
  have hX := Ext.refl w
  refine enter 9 _ Try.func22 rfl rfl (Nat.le_of_ble_eq_true rfl) rfl ?_
  refine c_seq ?_
  refine r_plain ?_
  refine p1 (x_assign (by conv => lhs; whnf)) ?_
  refine r_nil ?_
  refine t_n ?_
  refine c_seq ?_
  refine c_seq ?_
  refine r_plain ?_
  refine p1 (x_move (by conv => lhs; whnf)) ?_
  refine p1 ((x_eql_ptrnil u23 rfl rfl).cast (congrArg _ (decide_eq_false (by simp)))) ?_
  refine r_nil ?_
  refine t_n ?_
  refine c_f rfl ?_
  refine c_skip ?_
  refine t_n ?_
  refine c_seq ?_
  refine r_plain ?_
  refine p1 (x_move (by conv => lhs; whnf)) ?_
  refine p1 (x_nilCheck rfl) ?_
  refine p1 (x_fieldAddr fo66_3 sz3 rfl) ?_
  refine p1 (x_load1 un3 rfl (hB.cell (rfl))) ?_
  refine p1 (x_assign (by conv => lhs; whnf)) ?_
  refine r_nil ?_
  refine t_n ?_
  refine c_ret ?_
  refine end1 rfl (by conv => lhs; whnf) ?_
  exact ⟨rfl, hX⟩
theorem disk_Down (g : Nat) (S : Nat → Prop) (D : DS) (w : World) (hD : Dsk S w g D) :
    Ret Try.prog 21 [.pointer (some ⟨g, 0, none⟩)] w (fun v w' => v = .bool D.down ∧ Ext w w') := by
  obtain ⟨r, μ, hB, hM, hSg, hSr, hF⟩ := hD.ex
  have hX := Ext.refl w
  refine enter 11 _ Try.func21 rfl rfl (Nat.le_of_ble_eq_true rfl) rfl ?_
  refine c_seq ?_
  refine r_plain ?_
  refine p1 (x_assign (by conv => lhs; whnf)) ?_
  refine r_nil ?_
  refine t_n ?_
  refine c_seq ?_
  refine r_plain ?_
  refine p1 (x_move (by conv => lhs; whnf)) ?_
  refine p1 ((x_neq_ptrnil u23 rfl rfl).cast (congrArg _ (decide_eq_true (by simp)))) ?_
  refine p1 (x_move (by conv => lhs; whnf)) ?_
  refine Eng.g1 5 rfl rfl (x_move (by conv => lhs; whnf)) ?_
  refine Eng.g1 5 rfl rfl (x_nilCheck rfl) ?_
  refine Eng.g1 5 rfl rfl (x_fieldAddr fo66_6 sz4 rfl) ?_
  refine Eng.g1 5 rfl rfl (x_load1 un4 rfl (hB.cell (rfl))) ?_
  refine p1 (x_pick_t rfl (by conv => lhs; whnf)) ?_
  refine p1 (x_assign (by conv => lhs; whnf)) ?_
  refine r_nil ?_
  refine t_n ?_
  refine c_ret ?_
  refine end1 rfl (by conv => lhs; whnf) ?_
  exact ⟨rfl, hX⟩
theorem disk_New (most : Int) (w : World) :
    Ret Try.prog 11 [.int .i64 most] w (fun v w' => (∃ g, v = .pointer (some ⟨g, 0, none⟩) ∧ Dsk (grow (fun _ => False) w w') w' g (newD most)) ∧ Ext w w') := by
  have hX := Ext.refl w
  refine enter 9 _ Try.func11 rfl rfl (Nat.le_of_ble_eq_true rfl) rfl ?_
  refine c_seq ?_
  refine r_plain ?_
  refine p1 (x_assign (by conv => lhs; whnf)) ?_
  refine r_nil ?_
  refine t_n ?_
  refine c_seq ?_
  refine r_plain ?_
  refine p1 (x_move (by conv => lhs; whnf)) ?_
  refine p1 ((x_min rfl rfl).cast (congrArg (Value.int .i64) (by split <;> omega : _ = min most 16777216))) ?_
  refine p1 ((x_max rfl rfl).cast (congrArg (Value.int .i64) (by split <;> omega : _ = max 0 (min most 16777216)))) ?_
  have hXs := hX.size
  refine o_makeMap0 (κ := ByteArray) (ν := Raw) ?_
  intro w1 g6 hE1 hK6
  have hX := hX.ext hE1
  have hM := hK6 kkStr vFile 0 w.heap.size (hXs)
  refine p1 (x_buildN pl66 rfl rfl rfl) ?_
  have hXs5 := hX.size
  refine o_boxA (by conv => lhs; whnf) ?_
  intro w2 g8 hN8
  have hE2 := hN8.ext
  have hX := hX.ext hE2
  have hM := hM.ext hE2
  have hB8 := hN8.blk
  refine p1 (x_assign (by conv => lhs; whnf)) ?_
  refine r_nil ?_
  refine t_n ?_
  refine c_ret ?_
  refine end1 rfl (by conv => lhs; whnf) ?_
  exact ⟨⟨g8, rfl, new_dsk hB8 hM (by rw [hN8.g_eq]; exact hXs5) hX⟩, hX⟩
theorem disk_Read (g : Nat) (S : Nat → Prop) (D : DS) (w : World) (hD : Dsk S w g D) (hok : DOk D) (k : ByteArray) (hks : k.size ≤ 9223372036854775807) :
    Ret Try.prog 14 [.pointer (some ⟨g, 0, none⟩), .string k] w (fun v w' => (∃ q n' c', v = .tuple #[.slice q n' c', .int .i64 (readD D k).2] ∧ Own kByte 5 0 w.heap.size w' q n' c' (readD D k).1) ∧ Ext w w') := by
  have hX := Ext.refl w
  refine enter 28 _ Try.func14 rfl rfl (Nat.le_of_ble_eq_true rfl) rfl ?_
  refine c_seq ?_
  refine r_plain ?_
  refine p1 (x_assign (by conv => lhs; whnf)) ?_
  refine p1 (x_assign (by conv => lhs; whnf)) ?_
  refine r_nil ?_
  refine t_n ?_
  refine c_seq ?_
  refine c_seq ?_
  refine r_plain ?_
  refine p1 (x_move (by conv => lhs; whnf)) ?_
  refine p1 (x_move (by conv => lhs; whnf)) ?_
  refine o_buildSlice u51 inf9 rfl (by decide) (fun base hb => fill_one (by rfl) base hb) ?_
  intro w1 g9 hN9
  have hE1 := hN9.ext
  have hX := hX.ext hE1
  have hD := hD.ext hE1
  have hS9 : Sl kStr 9 0 w1 (some ⟨g9, 0, none⟩) 1 1 [k] := (own_lit (B0 := 0) [k] hN9 (Nat.zero_le _) (by simp)).sl
  refine o_call Try.func41 fn41 fb41 (disk_look g S D _ hD [k] 0 _ _ _ hS9 (by intro s hs'; simp only [List.mem_singleton] at hs'; subst hs'; exact hks)) rfl ?_
  rintro v2 w2 ⟨rfl, hE2⟩
  have hX := hX.ext hE2
  have hD := hD.ext hE2
  have hS9 := hS9.ext hE2
  refine p1 (x_assign (by conv => lhs; whnf)) ?_
  refine r_nil ?_
  refine t_n ?_
  refine c_block ?_
  refine c_seq ?_
  refine r_plain ?_
  refine p1 (x_move (by conv => lhs; whnf)) ?_
  refine p1 (x_neq rfl rfl) ?_
  refine p1 (x_assign (by conv => lhs; whnf)) ?_
  refine r_nil ?_
  refine t_n ?_
  first | refine c_dec rfl (fun hc11 => ?_) (fun hc11 => ?_) | refine c_if rfl (fun hc11 => ?_) (fun hc11 => ?_)
  · try simp only [decide_eq_true_eq, decide_eq_false_iff_not, Bool.not_eq_true, Bool.not_eq_false, Bool.not_eq_eq_eq_not, Bool.not_true, Bool.not_false, Int.not_lt, Int.not_le] at hc11
    have hp : readD D k = ([], lookD D [k]) := if_pos hc11
    refine c_seq ?_
    refine r_plain ?_
    refine p1 (x_move (by conv => lhs; whnf)) ?_
    refine p1 (x_assign (by conv => lhs; whnf)) ?_
    refine p1 (x_assign (by conv => lhs; whnf)) ?_
    refine r_nil ?_
    refine t_n ?_
    refine c_ret ?_
    refine b_r ?_
    refine t_r ?_
    refine end2 rfl (by conv => lhs; whnf) (by conv => lhs; whnf) ?_
    first
      | exact ⟨⟨none, 0, 0, by rw [hp], by rw [hp]; exact Own.nil _ _ _ _ _⟩, hX⟩
      | exact ⟨⟨_, _, _, by rw [hp], by rw [hp]; exact hO⟩, hX⟩
  · try simp only [decide_eq_true_eq, decide_eq_false_iff_not, Bool.not_eq_true, Bool.not_eq_false, Bool.not_eq_eq_eq_not, Bool.not_true, Bool.not_false, Int.not_lt, Int.not_le] at hc11
    refine c_seq ?_
    refine r_plain ?_
    refine p1 (x_move (by conv => lhs; whnf)) ?_
    refine p1 (x_move (by conv => lhs; whnf)) ?_
    refine o_call Try.func42 fn42 fb42 (disk_there g S D _ hD k) rfl ?_
    rintro v3 w3 ⟨rfl, hE3⟩
    have hX := hX.ext hE3
    have hD := hD.ext hE3
    have hS9 := hS9.ext hE3
    first | refine p1 (x_notd rfl) ?_ | refine p1 (x_not rfl) ?_
    refine p1 (x_assign (by conv => lhs; whnf)) ?_
    refine r_nil ?_
    refine t_n ?_
    first | refine c_dec rfl (fun hc15 => ?_) (fun hc15 => ?_) | refine c_if rfl (fun hc15 => ?_) (fun hc15 => ?_)
    · try simp only [decide_eq_true_eq, decide_eq_false_iff_not, Bool.not_eq_true, Bool.not_eq_false, Bool.not_eq_eq_eq_not, Bool.not_true, Bool.not_false, Int.not_lt, Int.not_le] at hc15
      have hk : ascF D.l k = none := by simpa using hc15
      have hp : readD D k = ([], 22) := by unfold readD; rw [if_neg hc11, if_pos hk]
      refine c_seq ?_
      refine r_plain ?_
      refine p1 (x_assign (by conv => lhs; whnf)) ?_
      refine p1 (x_assign (by conv => lhs; whnf)) ?_
      refine r_nil ?_
      refine t_n ?_
      refine c_ret ?_
      refine b_r ?_
      refine t_r ?_
      refine end2 rfl (by conv => lhs; whnf) (by conv => lhs; whnf) ?_
      first
        | exact ⟨⟨none, 0, 0, by rw [hp], by rw [hp]; exact Own.nil _ _ _ _ _⟩, hX⟩
        | exact ⟨⟨_, _, _, by rw [hp], by rw [hp]; exact hO⟩, hX⟩
    · try simp only [decide_eq_true_eq, decide_eq_false_iff_not, Bool.not_eq_true, Bool.not_eq_false, Bool.not_eq_eq_eq_not, Bool.not_true, Bool.not_false, Int.not_lt, Int.not_le] at hc15
      have hk : ¬ ascF D.l k = none := by simpa using hc15
      have hp : readD D k = ((getF D k).1, 0) := by unfold readD; rw [if_neg hc11, if_neg hk]
      refine c_skip ?_
      refine b_n ?_
      refine t_n ?_
      refine c_seq ?_
      obtain ⟨r, μ, hB, hM, hSg, hSr, hF⟩ := hD.ex
      have hXs := hX.size
      refine r_plain ?_
      refine p1 (x_move (by conv => lhs; whnf)) ?_
      refine p1 (x_nilCheck rfl) ?_
      refine p1 (x_fieldAddr fo66_2 sz64 rfl) ?_
      refine p1 (x_load1 un64 rfl (hB.cell (rfl))) ?_
      refine p1 (x_move (by conv => lhs; whnf)) ?_
      obtain ⟨⟨p0, n0, c0, s0⟩, hr0⟩ : ∃ x : Raw, x = (μ k).getD raw0 := ⟨_, rfl⟩
      obtain ⟨hF0, hs0⟩ := hF.get k
      rw [← hr0] at hF0 hs0
      simp only at hF0 hs0
      have hgl := (getF_le hok k).1
      have hroom := hok.room
      have hmost := hok.most
      have hlen0 := hF0.len
      unfold getF ascF at hgl
      refine p1 (((lookF u64 zr76 (keyOk_str u9) hM k rfl rfl).1).cast (by rw [← hr0]; rfl : _ = Value.agg #[.slice p0 n0 c0, .int .i64 (s0 : Int)])) ?_
      refine p1 (x_field1 fo76_0 un31 rfl rfl) ?_
      refine o_call Try.func43 fn43 fb43 (slices_Clone_byte _ _ _ _ _ _ _ hF0.sl (by omega)) rfl ?_
      rintro v4 w4 ⟨⟨q7, c7, rfl, hO⟩, hE4⟩
      have hX := hX.ext hE4
      have hD := hD.ext hE4
      have hS9 := hS9.ext hE4
      have hO := hO.lower hXs
      refine p1 (x_assign (by conv => lhs; whnf)) ?_
      refine p1 (x_assign (by conv => lhs; whnf)) ?_
      refine r_nil ?_
      refine t_n ?_
      refine c_ret ?_
      refine end2 rfl (by conv => lhs; whnf) (by conv => lhs; whnf) ?_
      first
        | exact ⟨⟨none, 0, 0, by rw [hp], by rw [hp]; exact Own.nil _ _ _ _ _⟩, hX⟩
        | exact ⟨⟨_, _, _, by rw [hp], by rw [hp]; exact hO⟩, hX⟩
theorem disk_ListU (g r : Nat) (S : Nat → Prop) (v0 v1 v3 v4 v5 v6 : Value) (l : List Fl) (μ : ByteArray → Option Raw) (w : World) (hB : Blk w g #[v0, v1, .map (some r), v3, v4, v5, v6] tDisk) (hM : Mp kkStr vFile 0 0 w r μ) (hF : Fls S w μ l) (hri : RiseNA l) (hfew : l.length ≤ 64) :
    Ret Try.prog 28 [.pointer (some ⟨g, 0, none⟩)] w (fun v w' => (∃ q c, v = .slice q l.length c ∧ Own kStr 9 0 w.heap.size w' q l.length c (l.map (·.1))) ∧ Ext w w') := by
  have hX := Ext.refl w
  refine enter 29 _ Try.func28 rfl rfl (Nat.le_of_ble_eq_true rfl) rfl ?_
  refine c_seq ?_
  refine r_plain ?_
  refine p1 (x_assign (by conv => lhs; whnf)) ?_
  refine r_nil ?_
  refine t_n ?_
  refine c_seq ?_
  refine c_seq ?_
  refine r_plain ?_
  refine p1 (x_move (by conv => lhs; whnf)) ?_
  refine p1 ((x_eql_ptrnil u23 rfl rfl).cast (congrArg _ (decide_eq_false (by simp)))) ?_
  refine r_nil ?_
  refine t_n ?_
  refine c_f rfl ?_
  refine c_skip ?_
  refine t_n ?_
  refine c_seq ?_
  have hXs := hX.size
  refine r_plain ?_
  refine p1 (x_move (by conv => lhs; whnf)) ?_
  refine p1 (x_nilCheck rfl) ?_
  refine p1 (x_fieldAddr fo66_2 sz64 rfl) ?_
  refine p1 (x_load1 un64 rfl (hB.cell (rfl))) ?_
  refine p1 (x_len_mapF u64 hM hF hri rfl) ?_
  refine o_make u51 inf9 rfl rfl (by omega) (by omega) (by omega) (by omega) ?_
  intro w1 g12 hN12
  have hE1 := hN12.ext
  have hX := hX.ext hE1
  have hB := hB.ext hE1
  have hM := hM.ext hE1
  have hO : Own kStr 9 0 w.heap.size w1 (some ⟨g12, 0, none⟩) 0 l.length [] := Own.made kStr 9 0 _ hN12 [] [] 0 _ rfl trivial hXs (by omega) (by omega) (made_size _ _) (by simp)
  refine p1 (x_assign (by conv => lhs; whnf)) ?_
  refine r_nil ?_
  refine t_n ?_
  refine c_seq ?_
  refine c_seq ?_
  refine r_plain ?_
  refine p1 (x_move (by conv => lhs; whnf)) ?_
  refine p1 (x_nilCheck rfl) ?_
  refine p1 (x_fieldAddr fo66_2 sz64 rfl) ?_
  refine p1 (x_load1 un64 rfl (hB.cell (rfl))) ?_
  have hXs := hX.size
  refine o_range u64 rfl hM ?_
  intro w2 it17 hE2 hit17 hK17
  have hX := hX.ext hE2
  have hB := hB.ext hE2
  have hM := hM.ext hE2
  have hO := hO.ext hE2
  have hR := hK17 w.heap.size (hXs)
  refine r_nil ?_
  refine t_n ?_
  refine c_block ?_
  have hks : ∀ vs : List ByteArray, vs.Nodup → (∀ z ∈ vs, μ z ≠ none) → vs.length ≤ l.length := fun vs h1 h2 => by have := nodup_leN h1 (ks := l.map (·.1)) (fun z hz => asc_someA.1 (fun e => h2 z hz ((hF.iff z).2 e))); rwa [List.length_map] at this
  refine c_loop (ι := List ByteArray × Option Addr × Nat × Nat) [3, 4, 18, 19, 20, 21, 22, 23, 24, 25] (fun (vs, q3, m3, c3) => [(3, .slice q3 m3 c3)]) (fun (vs, q3, m3, c3) w' => Ext w w' ∧ (Rg kkStr vFile 0 w.heap.size w' r it17 μ vs ∧ Own kStr 9 0 w.heap.size w' q3 m3 c3 vs)) (fun (vs, q3, m3, c3) => l.length - vs.length) (([], some ⟨g12, 0, none⟩, 0, l.length)) ⟨rfl, trivial⟩ ⟨hX, ⟨hR, hO⟩⟩ ?_
  rintro ⟨vs, q3, m3, c3⟩ GL0 w3 ⟨hE3, hR, hO⟩
  have hX := hE3
  have hml := hO.len
  have hvl := hks vs hR.nd hR.sub
  refine c_seq ?_
  refine r_plain ?_
  refine o_next rfl hR (Nat.zero_le _) (by decide) (fun hdone18 => ?_) (fun w4 a18 b18 v18 hna18 hmu18 hR hM4 => ?_)
  · skip
    refine p1 (x_extract rfl rfl) ?_
    refine r_nil ?_
    refine t_n ?_
    refine c_seq ?_
    refine c_f rfl ?_
    have hall : ∀ z, z ∈ vs ↔ z ∈ l.map (·.1) := fun z => ⟨fun hz => asc_someA.1 fun e => hR.sub z hz ((hF.iff z).2 e), fun hz => hdone18 z fun e => asc_someA.2 hz ((hF.iff z).1 e)⟩
    refine c_exit ?_
    refine t_e ?_
    refine t_e ?_
    refine b_hit ?_
    refine t_n ?_
    refine c_seq ?_
    have hnd := hR.nd
    refine r_plain ?_
    refine p1 (x_move (by conv => lhs; whnf)) ?_
    refine o_call Try.func53 fn53 fb53 (slices_Sort_str vs w.heap.size _ _ _ _ hO (by omega) hR.nd) rfl ?_
    rintro v5 w5 ⟨ys, hO, hpm, hso, hM5⟩
    have hX := hX.mod hM5 (Nat.le_refl _)
    have hR := hR.mod hM5 (Nat.zero_le _) (by decide)
    refine r_nil ?_
    refine t_n ?_
    refine c_seq ?_
    refine r_plain ?_
    refine p1 (x_move (by conv => lhs; whnf)) ?_
    refine p1 (x_assign (by conv => lhs; whnf)) ?_
    refine r_nil ?_
    refine t_n ?_
    refine c_ret ?_
    refine end1 rfl (by conv => lhs; whnf) ?_
    have hyy : ys = l.map (·.1) := names_ext hso (List.pairwise_map.2 hri) fun z => (hpm.mem_iff).trans (hall z)
    have hml := hO.len
    rw [hyy, List.length_map] at hml
    subst hml
    exact ⟨⟨_, _, rfl, by rw [← hyy]; exact hO⟩, hX⟩
  · skip
    have hX := hX.mod hM4 (Nat.le_refl _)
    have hO := hO.mod hM4 (Nat.zero_le _) (by decide)
    have hvl2 := hks _ hR.nd hR.sub
    simp only [List.length_append, List.length_cons, List.length_nil] at hvl2
    refine p1 (x_extract rfl rfl) ?_
    refine r_nil ?_
    refine t_n ?_
    refine c_seq ?_
    refine c_t rfl ?_
    refine c_skip ?_
    refine t_n ?_
    refine c_block ?_
    refine c_seq ?_
    obtain ⟨b20, v20, hb20, hv20, hen20⟩ := hR.entry
    refine r_plain ?_
    refine p1 (hen20 rfl) ?_
    refine p1 (x_extract rfl rfl) ?_
    refine p1 (x_assign (by conv => lhs; whnf)) ?_
    refine r_nil ?_
    refine t_n ?_
    refine r_plain ?_
    refine p1 (x_move (by conv => lhs; whnf)) ?_
    refine p1 (x_move (by conv => lhs; whnf)) ?_
    refine o_buildSlice u51 inf9 rfl (by decide) (fun base hb => fill_one (by rfl) base hb) ?_
    intro w6 g24 hN24
    have hE6 := hN24.ext
    have hX := hX.ext hE6
    have hO := hO.ext hE6
    have hR := hR.ext hE6
    have hJ : Own kStr 9 0 0 w6 (some ⟨g24, 0, none⟩) 1 1 [a18] := own_lit [a18] hN24 (Nat.zero_le _) (by simp)
    have hB1 := hX.size
    refine o_append (d := kStr) ([a18]) u51 inf9 rfl kStr_pos rfl rfl hO (src_pure u51 hJ.sl (by decide)) rfl (pure_all _ _ _) (rfl) (by omega) (by omega) (by omega) (by omega) (by decide) ?_
    intro p25 c25 w7 hO hM7
    have hX := hX.mod hM7 (Nat.le_refl _)
    have hR := hR.mod hM7 (Nat.zero_le _) (by decide)
    refine p1 (x_assign (by conv => lhs; whnf)) ?_
    refine r_nil ?_
    refine b_n ?_
    refine t_n (At.mk ((vs ++ [a18], p25, m3 + 1, c25)) (by repeat (first | exact Agr.refl _ _ | exact Agr.hav _ _ _ | refine Agr.upd rfl ?_ | refine Agr.updR rfl ?_ | refine Agr.updL ?_ _ rfl | refine Agr.hav' rfl ?_)) ⟨rfl, trivial⟩ ?_)
    exact ⟨⟨hX, ⟨hR, hO⟩⟩, by show l.length - (vs ++ [a18]).length < l.length - vs.length; simp only [List.length_append, List.length_cons, List.length_nil]; omega⟩
theorem disk_List (g : Nat) (S : Nat → Prop) (D : DS) (w : World) (hD : Dsk S w g D) (hok : DOk D) :
    Ret Try.prog 28 [.pointer (some ⟨g, 0, none⟩)] w (fun v w' => (∃ q c, v = .slice q D.l.length c ∧ Own kStr 9 0 w.heap.size w' q D.l.length c (D.l.map (·.1))) ∧ Ext w w') := by
  obtain ⟨r, μ, hB, hM, hSg, hSr, hF⟩ := hD.ex
  exact disk_ListU g r S _ _ _ _ _ _ D.l μ w hB hM hF hok.rise hok.few
end Go.Proofs.Eng
end
section
set_option linter.unusedVariables false
set_option linter.unusedSimpArgs false
set_option maxRecDepth 100000
set_option maxHeartbeats 4000000
namespace Go.Proofs.Eng
open Go.RowKit
open Extern.Stop (cell)
theorem fb28 : Try.f28.body.isNone = false := by kernel_rfl
theorem fn28 : (Try.f28.name == "runtime.NumGoroutine") = false := by kernel_rfl
theorem u3 : Try.prog.underlying 3 = some (.int .i64) := by kernel_rfl
theorem un5 : (Try.prog.underlying 5).map TypeDesc.isRow = some false := by kernel_rfl
theorem us5 : (Try.prog.underlying 5).isSome = true := by kernel_rfl
end Go.Proofs.Eng
end
section
set_option linter.unusedVariables false
set_option linter.unusedSimpArgs false
set_option maxRecDepth 100000
set_option maxHeartbeats 4000000
namespace Go.Proofs.Eng
open Go.RowKit
open Extern.Stop (cell)
theorem disk_Start (g : Nat) (S : Nat → Prop) (D : DS) (w : World) (hD : Dsk S w g D) (hok : DOk D) (st : List UInt8) (p : Option Addr) (n c : Nat) (hst : Out S w p n c st) :
    Ret Try.prog 26 [.pointer (some ⟨g, 0, none⟩), .slice p n c] w (fun v w' => Dsk (grow S w w') w' g (startD D st) ∧ ModS S ED w w') := by
  obtain ⟨r, μ, hB, hM, hSg, hSr, hF⟩ := hD.ex
  have hW1 := Nat.le_refl w.heap.size
  have hX := ModS.refl S ED w
  refine enter 124 _ Try.func26 rfl rfl (Nat.le_of_ble_eq_true rfl) rfl ?_
  refine c_seq ?_
  refine c_seq ?_
  refine r_plain ?_
  refine p1 (x_move (by conv => lhs; whnf)) ?_
  refine p1 ((x_eql_ptrnil u23 rfl rfl).cast (congrArg _ (decide_eq_false (by simp)))) ?_
  refine r_nil ?_
  refine t_n ?_
  refine c_f rfl ?_
  refine c_skip ?_
  refine t_n ?_
  refine c_seq ?_
  refine r_plain ?_
  refine p1 (x_move (by conv => lhs; whnf)) ?_
  refine p1 (x_nilCheck rfl) ?_
  refine p1 (x_fieldAddr fo66_1 sz3 rfl) ?_
  refine o_store1 rfl (by conv => lhs; whnf) rfl rfl sz3 hB (by simp) ?_
  intro w1 hP1
  have hX := hX.put hP1 (⟨.inl hSg, by decide⟩)
  have hB := hP1.blk
  simp only [List.setIfInBounds_toArray, List.set_cons_zero, List.set_cons_succ] at hB
  have hM := hM.mod (hP1.mod 0 (Nat.zero_le _)) (Nat.zero_le _) (by decide)
  have hF := hF.one hP1.one (by decide)
  refine r_nil ?_
  refine t_n ?_
  refine c_seq ?_
  refine c_seq ?_
  refine r_plain ?_
  refine p1 (x_move (by conv => lhs; whnf)) ?_
  refine o_call Try.func28 fn28 fb28 (disk_ListU g r S _ _ _ _ _ _ D.l μ _ hB hM hF hok.rise hok.few) rfl ?_
  rintro v2 w2 ⟨⟨qn, cn, rfl, hN⟩, hE2⟩
  have hX := hX.ext hE2
  have hB := hB.ext hE2
  have hM := hM.ext hE2
  have hF := hF.ext hE2
  have hN := hN.sl
  refine p1 (x_len_slice u51 rfl) ?_
  refine p1 (x_move (by conv => lhs; whnf)) ?_
  refine r_nil ?_
  refine t_n ?_
  refine c_block ?_
  have hfew := hok.few
  have hroom := hok.room
  have hmost := hok.most
  have hn1 := hst.cap
  have hn2 := hst.fit
  refine c_loop (ι := Nat × (ByteArray → Option Raw) × Option Addr × Nat × Nat) [1, 5, 6, 7, 8, 9, 10, 11, 20, 21, 22, 23, 24, 25, 26, 27, 28, 29, 30, 31, 32, 33, 34, 35, 36, 37, 38, 39, 40, 41, 42, 43, 44, 45, 46, 47, 48, 49, 50, 51, 52, 53, 54, 55, 56, 57, 58, 59, 60, 61, 62, 63, 64, 65, 66, 67, 68, 69, 70, 71, 72, 73, 74, 75, 76, 77, 78, 79, 80, 81, 82, 83, 84, 85, 86, 87, 88, 89, 90, 91, 92, 93, 94, 95, 96, 97, 98, 99, 100, 101, 102, 103, 104, 105, 106, 107, 108, 109, 110, 111, 112, 113, 114] (fun (k, μ1, pst, nst, cst) => [(1, .slice pst nst cst), (20, .int .i64 (k : Int))]) (fun (k, μ1, pst, nst, cst) w' => ModS S ED w w' ∧ (k ≤ D.l.length ∧ Blk w' g #[.int .i64 (D.most : Int), .int .i64 ((usedL (wakeL (D.l.take k) st).1 : Nat) : Int), .map (some r), .int .i64 (D.steps : Int), .int .i64 D.left, .bool D.done, .bool D.down] tDisk ∧ Mp kkStr vFile 0 0 w' r μ1 ∧ Fls (fun j => S j ∨ w.heap.size ≤ j) w' μ1 (midL D.l k st) ∧ Sl kStr 9 0 w' qn D.l.length cn (D.l.map (·.1)) ∧ Out S w pst nst cst (wakeL (D.l.take k) st).2)) (fun (k, μ1, pst, nst, cst) => D.l.length - k) ((0, μ, p, n, c)) ⟨rfl, rfl, trivial⟩ ⟨hX, ⟨Nat.zero_le _, hB, hM, hF.mono (fun _ _ h => .inl h), hN, hst⟩⟩ ?_
  rintro ⟨k, μ1, pst, nst, cst⟩ GL0 w3 ⟨hE3, hk, hB, hM, hF, hN, hst1⟩
  have hX := hE3
  refine c_seq ?_
  refine r_plain ?_
  refine p1 (x_lss rfl rfl) ?_
  refine r_nil ?_
  refine t_n ?_
  refine c_seq ?_
  first | refine c_dec rfl (fun hc21 => ?_) (fun hc21 => ?_) | refine c_if rfl (fun hc21 => ?_) (fun hc21 => ?_)
  · try simp only [decide_eq_true_eq, decide_eq_false_iff_not, Bool.not_eq_true, Bool.not_eq_false, Bool.not_eq_eq_eq_not, Bool.not_true, Bool.not_false, Int.not_lt, Int.not_le] at hc21
    refine c_skip ?_
    refine t_n ?_
    refine c_seq ?_
    refine c_block ?_
    refine c_seq ?_
    refine r_plain ?_
    refine p1 (x_ixs0 u51 sz9 rfl rfl (hN.adr kStr_pos (by omega)) (by omega)) ?_
    obtain ⟨xf, hx⟩ : ∃ x, D.l.getD k default = x := ⟨_, rfl⟩
    have hkl : k < D.l.length := by omega
    have hnm : (D.l.map (·.1)).getD k ByteArray.empty = xf.1 := by rw [← hx, List.getD_eq_getElem?_getD, List.getElem?_map, List.getD_eq_getElem?_getD, List.getElem?_eq_getElem hkl]; rfl
    have hxm : xf ∈ D.l := by rw [← hx, List.getD_eq_getElem?_getD, List.getElem?_eq_getElem hkl]; exact List.getElem_mem _
    have hsafe := hok.safe xf hxm
    obtain ⟨hmid, hasc, hins, hst2, hus⟩ := mid_step hkl st xf hx hok.rise
    have hxu : xf.2.1.length ≤ usedL D.l := by have := getF_le hok xf.1; have e := asc_of_memA hok.rise hxm; unfold getF ascF at this; rw [e] at this; exact this.1
    refine p1 ((x_load1 un9 rfl (hN.strAt _ (by omega))).cast (by rw [hnm])) ?_
    refine p1 (x_assign (by conv => lhs; whnf)) ?_
    refine r_nil ?_
    refine t_n ?_
    refine c_seq ?_
    refine r_plain ?_
    refine p1 (x_move (by conv => lhs; whnf)) ?_
    refine p1 (x_nilCheck rfl) ?_
    refine p1 (x_fieldAddr fo66_2 sz64 rfl) ?_
    refine p1 (x_load1 un64 rfl (hB.cell (rfl))) ?_
    refine p1 (x_move (by conv => lhs; whnf)) ?_
    obtain ⟨⟨p0, n0, c0, s0⟩, hr0⟩ : ∃ x : Raw, x = (μ1 xf.1).getD raw0 := ⟨_, rfl⟩
    obtain ⟨hF0, hs0⟩ := hF.get xf.1
    rw [← hr0] at hF0 hs0
    simp only at hF0 hs0
    rw [hasc] at hF0 hs0
    simp only [Option.getD_some] at hF0 hs0
    subst hs0
    have hlen0 := hF0.len
    have hcap0 := hF0.cap
    refine p1 (((lookF u64 zr76 (keyOk_str u9) hM xf.1 rfl rfl).1).cast (by rw [← hr0]; rfl : _ = Value.agg #[.slice p0 n0 c0, .int .i64 (xf.2.2 : Int)])) ?_
    have hXs := hX.size
    refine o_alloc zr76 ?_
    intro w4 g6 hN6
    have hE4 := hN6.ext
    have hX := hX.ext hE4
    have hB := hB.ext hE4
    have hM := hM.ext hE4
    have hF := hF.ext hE4
    have hN := hN.ext hE4
    have hB6 := hN6.blk
    have hF0 := hF0.ext hN6.ext
    refine o_storeAll rfl (by conv => lhs; whnf) (by simp [Value.oneCell']) (by exact sz76) hB6 (by rfl) ?_
    intro w5 hP5
    have hX := hX.put hP5 (⟨.inr (by rw [hN6.g_eq]; exact hXs), by decide⟩)
    have hB := hB.one hP5.one (by decide)
    have hM := hM.mod (hP5.mod 0 (Nat.zero_le _)) (Nat.zero_le _) (by decide)
    have hF := hF.one hP5.one (by decide)
    have hN := hN.oneT hP5.one (by decide)
    have hB6 := hP5.blk
    refine r_nil ?_
    refine t_n ?_
    refine c_seq ?_
    refine r_plain ?_
    have hF0 := (hF.get xf.1).1
    rw [hasc, ← hr0] at hF0
    simp only [Option.getD_some] at hF0
    refine p1 (x_fieldAddr fo76_0 sz31 rfl) ?_
    refine p1 (x_load1 un31 rfl (hB6.cell (rfl))) ?_
    refine p1 (x_fieldAddr fo76_1 sz3 rfl) ?_
    refine p1 (x_load1 un3 rfl (hB6.cell (rfl))) ?_
    refine p1 (x_slice_hN u31 sz5 rfl rfl (by omega)) ?_
    obtain ⟨B0, hB0⟩ : ∃ B0, B0 = w5.heap.size := ⟨_, rfl⟩
    have hBp := hB
    have hMp := hM
    have hFp := hF
    have hNp := hN
    have hB0s : w.heap.size ≤ B0 := by rw [hB0]; exact hX.size
    have hlo : ∀ j, p0 = some ⟨j, 0, none⟩ → j < B0 := fun j hj => by rw [hB0]; exact (hF0.inS hj).2
    refine o_call Try.func43 fn43 fb43 (slices_Clone_byte _ _ _ _ _ _ _ (hF0.take xf.2.2 (by omega)).sl (by omega)) rfl ?_
    rintro v6 w6 ⟨⟨qk, ck, rfl, hO⟩, hE6⟩
    have hX := hX.ext hE6
    have hB := hB.ext hE6
    have hM := hM.ext hE6
    have hF := hF.ext hE6
    have hN := hN.ext hE6
    have hB6 := hB6.ext hE6
    rw [← hB0] at hO
    have hK := FB.ofOwn (S := fun j => B0 ≤ j) hO (fun _ _ h => h)
    have hMC := Mod.ofExt (B := B0) (t := 5) hE6
    have hF0 := hF0.ext hE6
    refine p1 (x_assign (by conv => lhs; whnf)) ?_
    refine r_nil ?_
    refine t_n ?_
    refine c_seq ?_
    refine r_plain ?_
    refine p1 (x_move (by conv => lhs; whnf)) ?_
    refine p1 (x_len_slice u31 rfl) ?_
    refine p1 (x_assign (by conv => lhs; whnf)) ?_
    refine r_nil ?_
    refine t_n ?_
    refine c_seq ?_
    refine c_seq ?_
    refine r_plain ?_
    refine p1 (x_fieldAddr fo76_1 sz3 rfl) ?_
    refine p1 (x_load1 un3 rfl (hB6.cell (rfl))) ?_
    refine p1 (x_assign (by conv => lhs; whnf)) ?_
    refine r_nil ?_
    refine t_n ?_
    refine c_block ?_
    refine c_loop (ι := Nat × Nat × Nat × List UInt8 × Option Addr × Nat × List UInt8 × Option Addr × Nat × Nat) [1, 7, 8, 9, 10, 11, 40, 41, 42, 43, 44, 45, 46, 47, 48, 49, 50, 51, 52, 53, 54, 55, 56, 57, 58, 59, 60, 61, 62, 63, 64, 65, 66, 67, 68, 69, 70, 71, 72, 73, 74, 75, 76, 77, 78, 79, 80, 81, 82, 83, 84, 85, 86, 87, 88, 89, 90, 91, 92, 93, 94, 95] (fun (fu, a, m, kept, qk, ck, st1, pst, nst, cst) => [(1, .slice pst nst cst), (7, .slice qk a ck), (8, .int .i64 (m : Int)), (9, .int .i64 (a : Int))]) (fun (fu, a, m, kept, qk, ck, st1, pst, nst, cst) w' => ModS S ED w w' ∧ (Mod B0 5 w5 w' ∧ FB (fun j => B0 ≤ j) w' qk a ck kept ∧ Blk w' g6 #[.slice p0 n0 c0, .int .i64 (xf.2.2 : Int)] 76 ∧ FB (fun j => S j ∨ w.heap.size ≤ j) w' p0 n0 c0 xf.2.1 ∧ a ≤ xf.2.1.length ∧ m ≤ a ∧ xf.2.1.length - a < fu ∧ pieces xf.2.1 fu a m kept st1 = wakeR xf.2 (wakeL (D.l.take k) st).2 ∧ Out S w pst nst cst st1)) (fun (fu, a, m, kept, qk, ck, st1, pst, nst, cst) => xf.2.1.length - a) ((xf.2.1.length + 1, xf.2.2, xf.2.2, xf.2.1.take xf.2.2, qk, ck, (wakeL (D.l.take k) st).2, pst, nst, cst)) ⟨rfl, rfl, rfl, rfl, trivial⟩ ⟨hX, ⟨hMC, hK, hB6, hF0, hsafe, Nat.le_refl _, by omega, rfl, hst1⟩⟩ ?_
    rintro ⟨fu, a, m, kept, qk, ck, st1, pst, nst, cst⟩ GL2 w7 ⟨hE7, hMC, hK, hB6, hF0, ha, hm, hfu, hpe, hst1⟩
    have hX := hE7
    have hsl := hst1.len
    have hsc := hst1.cap
    have hsf := hst1.fit
    have hkl2 := hK.len
    have hkc := hK.cap
    refine c_seq ?_
    refine c_seq ?_
    refine r_plain ?_
    refine p1 (x_move (by conv => lhs; whnf)) ?_
    refine p1 (x_fieldAddr fo76_0 sz31 rfl) ?_
    refine p1 (x_load1 un31 rfl (hB6.cell (rfl))) ?_
    refine p1 (x_len_slice u31 rfl) ?_
    refine p1 (x_lss rfl rfl) ?_
    refine r_nil ?_
    refine t_n ?_
    first | refine c_dec rfl (fun hc44 => ?_) (fun hc44 => ?_) | refine c_if rfl (fun hc44 => ?_) (fun hc44 => ?_)
    · try simp only [decide_eq_true_eq, decide_eq_false_iff_not, Bool.not_eq_true, Bool.not_eq_false, Bool.not_eq_eq_eq_not, Bool.not_true, Bool.not_false, Int.not_lt, Int.not_le] at hc44
      have hlt : a < xf.2.1.length := by omega
      obtain ⟨hE1_, hE2_⟩ := pieceE_gt hlt
      obtain ⟨fu2, hfu2, hpe2⟩ := pieces_step (n := m) (kept := kept) (st := st1) hlt hfu
      refine c_skip ?_
      refine t_n ?_
      refine c_block ?_
      refine c_seq ?_
      refine r_plain ?_
      refine p1 (x_move (by conv => lhs; whnf)) ?_
      refine p1 (x_move (by conv => lhs; whnf)) ?_
      refine p1 (x_rem rfl rfl (by omega) (by omega)) ?_
      refine p1 (x_sub rfl rfl (fits_i64 (by omega) (by omega))) ?_
      refine p1 (x_add rfl rfl (fits_i64 (by omega) (by omega))) ?_
      refine p1 (x_fieldAddr fo76_0 sz31 rfl) ?_
      refine p1 (x_load1 un31 rfl (hB6.cell (rfl))) ?_
      refine p1 (x_len_slice u31 rfl) ?_
      refine p1 ((x_min rfl rfl).cast (congrArg (Value.int .i64) (by unfold pieceE; split <;> omega : _ = ((pieceE xf.2.1 a : Nat) : Int)))) ?_
      refine p1 (x_assign (by conv => lhs; whnf)) ?_
      refine r_nil ?_
      refine t_n ?_
      refine c_seq ?_
      refine r_plain ?_
      refine p1 (x_assign (by conv => lhs; whnf)) ?_
      refine r_nil ?_
      refine t_n ?_
      refine c_seq ?_
      refine c_seq ?_
      refine r_plain ?_
      refine p1 (x_move (by conv => lhs; whnf)) ?_
      refine p1 (x_len_slice u31 rfl) ?_
      refine p1 (x_gtr rfl rfl) ?_
      refine r_nil ?_
      refine t_n ?_
      first | refine c_dec rfl (fun hc56 => ?_) (fun hc56 => ?_) | refine c_if rfl (fun hc56 => ?_) (fun hc56 => ?_)
      · try simp only [decide_eq_true_eq, decide_eq_false_iff_not, Bool.not_eq_true, Bool.not_eq_false, Bool.not_eq_eq_eq_not, Bool.not_true, Bool.not_false, Int.not_lt, Int.not_le] at hc56
        obtain ⟨sb, st3, hs1⟩ : ∃ s t, st1 = s :: t := by cases st1 with | nil => exact absurd hsl (by simp only [List.length_nil]; omega) | cons s t => exact ⟨s, t, rfl⟩
        have hs8 := sb.toNat_lt
        have hsB := (hst1.modS hX).sl
        have htl := hst1.tail (by omega)
        have hby : ((st1.getD (0 : Int).toNat 0).toNat : Int) = (sb.toNat : Int) := by rw [hs1]; rfl
        refine c_seq ?_
        refine r_plain ?_
        refine p1 (x_move (by conv => lhs; whnf)) ?_
        refine p1 (x_ixs u31 sz5 rfl rfl (hsB.adr kByte_pos (by omega)) (by omega) (by omega)) ?_
        refine p1 ((x_load1 un5 rfl (hsB.byteAtI 0 (by omega) (by omega))).cast (congrArg (Value.int .u8) hby)) ?_
        refine p1 (x_convf u3 us5 rfl (fits_i64 (by omega) (by omega))) ?_
        refine p1 (x_move (by conv => lhs; whnf)) ?_
        refine p1 (x_move (by conv => lhs; whnf)) ?_
        refine p1 (x_sub rfl rfl (fits_i64 (by omega) (by omega))) ?_
        refine p1 (x_add rfl rfl (fits_i64 (by omega) (by omega))) ?_
        refine p1 ((x_rem rfl rfl (by omega) (by omega)).cast (congrArg (Value.int .i64) (by rw [show (pieceE xf.2.1 a : Int) - (a : Int) + 1 = ((pieceE xf.2.1 a - a + 1 : Nat) : Int) from by omega, ← Int.natCast_emod] : _ = ((sb.toNat % (pieceE xf.2.1 a - a + 1) : Nat) : Int)))) ?_
        refine p1 (x_assign (by conv => lhs; whnf)) ?_
        refine r_nil ?_
        refine t_n ?_
        refine c_seq ?_
        refine c_seq ?_
        refine r_plain ?_
        refine p1 (x_move (by conv => lhs; whnf)) ?_
        refine p1 (x_ixs u31 sz5 rfl rfl (hsB.adr kByte_pos (by omega)) (by omega) (by omega)) ?_
        refine p1 ((x_load1 un5 rfl (hsB.byteAtI 0 (by omega) (by omega))).cast (congrArg (Value.int .u8) hby)) ?_
        refine p1 (x_eql rfl rfl) ?_
        refine r_nil ?_
        refine t_n ?_
        first | refine c_dec rfl (fun hc69 => ?_) (fun hc69 => ?_) | refine c_if rfl (fun hc69 => ?_) (fun hc69 => ?_)
        · try simp only [decide_eq_true_eq, decide_eq_false_iff_not, Bool.not_eq_true, Bool.not_eq_false, Bool.not_eq_eq_eq_not, Bool.not_true, Bool.not_false, Int.not_lt, Int.not_le] at hc69
          have hpt : pieceT xf.2.1 a st1 = pieceE xf.2.1 a - a := by rw [hs1]; exact if_pos (UInt8.toNat_inj.1 (show sb.toNat = 255 by omega))
          refine r_plain ?_
          refine p1 (x_move (by conv => lhs; whnf)) ?_
          refine p1 (x_move (by conv => lhs; whnf)) ?_
          refine p1 ((x_sub rfl rfl (fits_i64 (by omega) (by omega))).cast (congrArg (Value.int .i64) (by omega : _ = ((pieceE xf.2.1 a - a : Nat) : Int)))) ?_
          refine p1 (x_assign (by conv => lhs; whnf)) ?_
          refine r_nil ?_
          refine t_n ?_
          refine r_plain ?_
          refine p1 (x_move (by conv => lhs; whnf)) ?_
          refine p1 (x_slice_l u31 sz5 rfl rfl (by omega) (by omega)) ?_
          refine p1 (x_assign (by conv => lhs; whnf)) ?_
          refine r_nil ?_
          refine t_n ?_
          refine c_seq ?_
          have hTle := pieceT_le xf.2.1 a st1
          refine r_plain ?_
          refine p1 (x_move (by conv => lhs; whnf)) ?_
          refine p1 (x_fieldAddr fo76_0 sz31 rfl) ?_
          refine p1 (x_load1 un31 rfl (hB6.cell (rfl))) ?_
          refine p1 (x_move (by conv => lhs; whnf)) ?_
          refine p1 (x_move (by conv => lhs; whnf)) ?_
          refine p1 (x_move (by conv => lhs; whnf)) ?_
          refine p1 ((x_add rfl rfl (fits_i64 (by omega) (by omega))).cast (congrArg (Value.int .i64) (by rw [hpt]; omega : _ = ((a + pieceT xf.2.1 a st1 : Nat) : Int)))) ?_
          refine p1 ((x_slice_lh u31 sz5 rfl rfl rfl (by omega) (by omega) (by omega)).cast (by simp only [Int.toNat_natCast, Nat.add_sub_cancel_left] : _ = Value.slice (adw p0 c0 a 1) (pieceT xf.2.1 a st1) (c0 - a))) ?_
          have hsrc : Sl kByte 5 0 w7 (adw p0 c0 a 1) (pieceT xf.2.1 a st1) (c0 - a) ((xf.2.1.drop a).take (pieceT xf.2.1 a st1)) := (hF0.sl.dropI a (by omega)).take _ (by omega)
          have hBX : ∀ j, B0 ≤ j → w.heap.size ≤ j := fun j h => Nat.le_trans hB0s h
          have hBc := hMC.size
          refine o_appendF ((xf.2.1.drop a).take (pieceT xf.2.1 a st1)) u31 inf5 rfl rfl hK (by rw [← flat_single]; exact src_pure u31 hsrc (by decide)) hsrc.len (by omega) ?_
          intro pz cz w8 hK1 hpp hO2 hKo
          have hMa : Mod B0 5 w7 w8 := hO2.mod hK
          have hMC := hMC.trans hMa
          have hX := hX.mod hMa hB0s
          have hB6 := hB6.mod hMa (by decide)
          have hF0 := hF0.modB hMa hlo
          have hK := hK1.mono (S' := fun j => B0 ≤ j) (fun _ _ h => h.elim id fun h => Nat.le_trans (by rw [hB0]; exact hBc) h)
          skip
          refine p1 (x_assign (by conv => lhs; whnf)) ?_
          refine r_nil ?_
          refine t_n ?_
          refine c_seq ?_
          refine c_seq ?_
          refine r_plain ?_
          refine p1 (x_move (by conv => lhs; whnf)) ?_
          refine p1 (x_gtr rfl rfl) ?_
          refine r_nil ?_
          refine t_n ?_
          first | refine c_dec rfl (fun hc85 => ?_) (fun hc85 => ?_) | refine c_if rfl (fun hc85 => ?_) (fun hc85 => ?_)
          · try simp only [decide_eq_true_eq, decide_eq_false_iff_not, Bool.not_eq_true, Bool.not_eq_false, Bool.not_eq_eq_eq_not, Bool.not_true, Bool.not_false, Int.not_lt, Int.not_le] at hc85
            have hif : (if 0 < pieceT xf.2.1 a st1 then a + pieceT xf.2.1 a st1 else m) = a + pieceT xf.2.1 a st1 := if_pos (by rw [hpt]; omega)
            refine r_plain ?_
            refine p1 (x_move (by conv => lhs; whnf)) ?_
            refine p1 (x_move (by conv => lhs; whnf)) ?_
            refine p1 ((x_add rfl rfl (fits_i64 (by omega) (by omega))).cast (congrArg (Value.int .i64) (by rw [hpt]; omega : _ = ((a + pieceT xf.2.1 a st1 : Nat) : Int)))) ?_
            refine p1 (x_assign (by conv => lhs; whnf)) ?_
            refine r_nil ?_
            refine t_n ?_
            refine c_seq ?_
            refine r_plain ?_
            refine p1 (x_move (by conv => lhs; whnf)) ?_
            refine p1 (x_move (by conv => lhs; whnf)) ?_
            refine p1 (x_move (by conv => lhs; whnf)) ?_
            refine p1 (x_len_slice u31 rfl) ?_
            refine p1 ((x_sub rfl rfl (fits_i64 (by omega) (by omega))).cast (congrArg (Value.int .i64) (by omega : _ = ((pieceE xf.2.1 a - (a + pieceT xf.2.1 a st1) : Nat) : Int)))) ?_
            have hBc := hMC.size
            refine o_appendZ u31 u3 inf5 rfl rfl hK (by omega) ?_
            intro pz2 cz2 w9 hK1 hpp2 hO3 hKo2
            have hMa : Mod B0 5 w8 w9 := hO3.mod hK
            have hMC := hMC.trans hMa
            have hX := hX.mod hMa hB0s
            have hB6 := hB6.mod hMa (by decide)
            have hF0 := hF0.modB hMa hlo
            have hK := hK1.mono (S' := fun j => B0 ≤ j) (fun _ _ h => h.elim id fun h => Nat.le_trans (by rw [hB0]; exact hBc) h)
            have hsz : a + pieceT xf.2.1 a st1 + (pieceE xf.2.1 a - (a + pieceT xf.2.1 a st1)) = pieceE xf.2.1 a := by omega
            rw [hsz] at hK
            refine Lst.cast (congrArg (fun z => fr _ (upd _ _ (Value.slice pz2 z cz2))) hsz.symm) ?_
            refine p1 (x_assign (by conv => lhs; whnf)) ?_
            refine r_nil ?_
            refine t_n ?_
            refine r_plain ?_
            refine p1 (x_move (by conv => lhs; whnf)) ?_
            refine p1 (x_assign (by conv => lhs; whnf)) ?_
            refine r_nil ?_
            refine b_n ?_
            rw [hpe2, hif] at hpe
            first
              | exact t_n (At.mk ((fu2, pieceE xf.2.1 a, a + pieceT xf.2.1 a st1, _, pz2, cz2, st1.tail, adw pst cst 1 1, nst - 1, cst - 1)) (by repeat (first | exact Agr.refl _ _ | exact Agr.hav _ _ _ | refine Agr.upd rfl ?_ | refine Agr.updR rfl ?_ | refine Agr.updL ?_ _ rfl | refine Agr.hav' rfl ?_)) ⟨rfl, rfl, rfl, rfl, trivial⟩ ⟨⟨hX, ⟨hMC, hK, hB6, hF0, hE2_, by omega, hfu2, hpe, htl⟩⟩, by first | (dsimp only; omega) | ((show _ < _); omega)⟩)
              | exact t_n (At.mk ((fu2, pieceE xf.2.1 a, a + pieceT xf.2.1 a st1, _, pz2, cz2, st1.tail, pst, nst, cst)) (by repeat (first | exact Agr.refl _ _ | exact Agr.hav _ _ _ | refine Agr.upd rfl ?_ | refine Agr.updR rfl ?_ | refine Agr.updL ?_ _ rfl | refine Agr.hav' rfl ?_)) ⟨rfl, rfl, rfl, rfl, trivial⟩ ⟨⟨hX, ⟨hMC, hK, hB6, hF0, hE2_, by omega, hfu2, hpe, by rw [htl]; exact hst1⟩⟩, by first | (dsimp only; omega) | ((show _ < _); omega)⟩)
              | exact t_n (At.mk ((fu2, pieceE xf.2.1 a, m, _, pz2, cz2, st1.tail, adw pst cst 1 1, nst - 1, cst - 1)) (by repeat (first | exact Agr.refl _ _ | exact Agr.hav _ _ _ | refine Agr.upd rfl ?_ | refine Agr.updR rfl ?_ | refine Agr.updL ?_ _ rfl | refine Agr.hav' rfl ?_)) ⟨rfl, rfl, rfl, rfl, trivial⟩ ⟨⟨hX, ⟨hMC, hK, hB6, hF0, hE2_, by omega, hfu2, hpe, htl⟩⟩, by first | (dsimp only; omega) | ((show _ < _); omega)⟩)
              | exact t_n (At.mk ((fu2, pieceE xf.2.1 a, m, _, pz2, cz2, st1.tail, pst, nst, cst)) (by repeat (first | exact Agr.refl _ _ | exact Agr.hav _ _ _ | refine Agr.upd rfl ?_ | refine Agr.updR rfl ?_ | refine Agr.updL ?_ _ rfl | refine Agr.hav' rfl ?_)) ⟨rfl, rfl, rfl, rfl, trivial⟩ ⟨⟨hX, ⟨hMC, hK, hB6, hF0, hE2_, by omega, hfu2, hpe, by rw [htl]; exact hst1⟩⟩, by first | (dsimp only; omega) | ((show _ < _); omega)⟩)
          · try simp only [decide_eq_true_eq, decide_eq_false_iff_not, Bool.not_eq_true, Bool.not_eq_false, Bool.not_eq_eq_eq_not, Bool.not_true, Bool.not_false, Int.not_lt, Int.not_le] at hc85
            have hif : (if 0 < pieceT xf.2.1 a st1 then a + pieceT xf.2.1 a st1 else m) = m := if_neg (by rw [hpt]; omega)
            refine c_skip ?_
            refine t_n ?_
            refine c_seq ?_
            refine r_plain ?_
            refine p1 (x_move (by conv => lhs; whnf)) ?_
            refine p1 (x_move (by conv => lhs; whnf)) ?_
            refine p1 (x_move (by conv => lhs; whnf)) ?_
            refine p1 (x_len_slice u31 rfl) ?_
            refine p1 ((x_sub rfl rfl (fits_i64 (by omega) (by omega))).cast (congrArg (Value.int .i64) (by omega : _ = ((pieceE xf.2.1 a - (a + pieceT xf.2.1 a st1) : Nat) : Int)))) ?_
            have hBc := hMC.size
            refine o_appendZ u31 u3 inf5 rfl rfl hK (by omega) ?_
            intro pz2 cz2 w10 hK1 hpp2 hO3 hKo2
            have hMa : Mod B0 5 w8 w10 := hO3.mod hK
            have hMC := hMC.trans hMa
            have hX := hX.mod hMa hB0s
            have hB6 := hB6.mod hMa (by decide)
            have hF0 := hF0.modB hMa hlo
            have hK := hK1.mono (S' := fun j => B0 ≤ j) (fun _ _ h => h.elim id fun h => Nat.le_trans (by rw [hB0]; exact hBc) h)
            have hsz : a + pieceT xf.2.1 a st1 + (pieceE xf.2.1 a - (a + pieceT xf.2.1 a st1)) = pieceE xf.2.1 a := by omega
            rw [hsz] at hK
            refine Lst.cast (congrArg (fun z => fr _ (upd _ _ (Value.slice pz2 z cz2))) hsz.symm) ?_
            refine p1 (x_assign (by conv => lhs; whnf)) ?_
            refine r_nil ?_
            refine t_n ?_
            refine r_plain ?_
            refine p1 (x_move (by conv => lhs; whnf)) ?_
            refine p1 (x_assign (by conv => lhs; whnf)) ?_
            refine r_nil ?_
            refine b_n ?_
            rw [hpe2, hif] at hpe
            first
              | exact t_n (At.mk ((fu2, pieceE xf.2.1 a, a + pieceT xf.2.1 a st1, _, pz2, cz2, st1.tail, adw pst cst 1 1, nst - 1, cst - 1)) (by repeat (first | exact Agr.refl _ _ | exact Agr.hav _ _ _ | refine Agr.upd rfl ?_ | refine Agr.updR rfl ?_ | refine Agr.updL ?_ _ rfl | refine Agr.hav' rfl ?_)) ⟨rfl, rfl, rfl, rfl, trivial⟩ ⟨⟨hX, ⟨hMC, hK, hB6, hF0, hE2_, by omega, hfu2, hpe, htl⟩⟩, by first | (dsimp only; omega) | ((show _ < _); omega)⟩)
              | exact t_n (At.mk ((fu2, pieceE xf.2.1 a, a + pieceT xf.2.1 a st1, _, pz2, cz2, st1.tail, pst, nst, cst)) (by repeat (first | exact Agr.refl _ _ | exact Agr.hav _ _ _ | refine Agr.upd rfl ?_ | refine Agr.updR rfl ?_ | refine Agr.updL ?_ _ rfl | refine Agr.hav' rfl ?_)) ⟨rfl, rfl, rfl, rfl, trivial⟩ ⟨⟨hX, ⟨hMC, hK, hB6, hF0, hE2_, by omega, hfu2, hpe, by rw [htl]; exact hst1⟩⟩, by first | (dsimp only; omega) | ((show _ < _); omega)⟩)
              | exact t_n (At.mk ((fu2, pieceE xf.2.1 a, m, _, pz2, cz2, st1.tail, adw pst cst 1 1, nst - 1, cst - 1)) (by repeat (first | exact Agr.refl _ _ | exact Agr.hav _ _ _ | refine Agr.upd rfl ?_ | refine Agr.updR rfl ?_ | refine Agr.updL ?_ _ rfl | refine Agr.hav' rfl ?_)) ⟨rfl, rfl, rfl, rfl, trivial⟩ ⟨⟨hX, ⟨hMC, hK, hB6, hF0, hE2_, by omega, hfu2, hpe, htl⟩⟩, by first | (dsimp only; omega) | ((show _ < _); omega)⟩)
              | exact t_n (At.mk ((fu2, pieceE xf.2.1 a, m, _, pz2, cz2, st1.tail, pst, nst, cst)) (by repeat (first | exact Agr.refl _ _ | exact Agr.hav _ _ _ | refine Agr.upd rfl ?_ | refine Agr.updR rfl ?_ | refine Agr.updL ?_ _ rfl | refine Agr.hav' rfl ?_)) ⟨rfl, rfl, rfl, rfl, trivial⟩ ⟨⟨hX, ⟨hMC, hK, hB6, hF0, hE2_, by omega, hfu2, hpe, by rw [htl]; exact hst1⟩⟩, by first | (dsimp only; omega) | ((show _ < _); omega)⟩)
        · try simp only [decide_eq_true_eq, decide_eq_false_iff_not, Bool.not_eq_true, Bool.not_eq_false, Bool.not_eq_eq_eq_not, Bool.not_true, Bool.not_false, Int.not_lt, Int.not_le] at hc69
          have hpt : pieceT xf.2.1 a st1 = sb.toNat % (pieceE xf.2.1 a - a + 1) := by rw [hs1]; exact if_neg (fun e => hc69 (by rw [e]; rfl))
          refine c_skip ?_
          refine t_n ?_
          refine r_plain ?_
          refine p1 (x_move (by conv => lhs; whnf)) ?_
          refine p1 (x_slice_l u31 sz5 rfl rfl (by omega) (by omega)) ?_
          refine p1 (x_assign (by conv => lhs; whnf)) ?_
          refine r_nil ?_
          refine t_n ?_
          refine c_seq ?_
          have hTle := pieceT_le xf.2.1 a st1
          refine r_plain ?_
          refine p1 (x_move (by conv => lhs; whnf)) ?_
          refine p1 (x_fieldAddr fo76_0 sz31 rfl) ?_
          refine p1 (x_load1 un31 rfl (hB6.cell (rfl))) ?_
          refine p1 (x_move (by conv => lhs; whnf)) ?_
          refine p1 (x_move (by conv => lhs; whnf)) ?_
          refine p1 (x_move (by conv => lhs; whnf)) ?_
          refine p1 ((x_add rfl rfl (fits_i64 (by omega) (by omega))).cast (congrArg (Value.int .i64) (by rw [hpt]; omega : _ = ((a + pieceT xf.2.1 a st1 : Nat) : Int)))) ?_
          refine p1 ((x_slice_lh u31 sz5 rfl rfl rfl (by omega) (by omega) (by omega)).cast (by simp only [Int.toNat_natCast, Nat.add_sub_cancel_left] : _ = Value.slice (adw p0 c0 a 1) (pieceT xf.2.1 a st1) (c0 - a))) ?_
          have hsrc : Sl kByte 5 0 w7 (adw p0 c0 a 1) (pieceT xf.2.1 a st1) (c0 - a) ((xf.2.1.drop a).take (pieceT xf.2.1 a st1)) := (hF0.sl.dropI a (by omega)).take _ (by omega)
          have hBX : ∀ j, B0 ≤ j → w.heap.size ≤ j := fun j h => Nat.le_trans hB0s h
          have hBc := hMC.size
          refine o_appendF ((xf.2.1.drop a).take (pieceT xf.2.1 a st1)) u31 inf5 rfl rfl hK (by rw [← flat_single]; exact src_pure u31 hsrc (by decide)) hsrc.len (by omega) ?_
          intro pz cz w11 hK1 hpp hO2 hKo
          have hMa : Mod B0 5 w7 w11 := hO2.mod hK
          have hMC := hMC.trans hMa
          have hX := hX.mod hMa hB0s
          have hB6 := hB6.mod hMa (by decide)
          have hF0 := hF0.modB hMa hlo
          have hK := hK1.mono (S' := fun j => B0 ≤ j) (fun _ _ h => h.elim id fun h => Nat.le_trans (by rw [hB0]; exact hBc) h)
          skip
          refine p1 (x_assign (by conv => lhs; whnf)) ?_
          refine r_nil ?_
          refine t_n ?_
          refine c_seq ?_
          refine c_seq ?_
          refine r_plain ?_
          refine p1 (x_move (by conv => lhs; whnf)) ?_
          refine p1 (x_gtr rfl rfl) ?_
          refine r_nil ?_
          refine t_n ?_
          first | refine c_dec rfl (fun hc85 => ?_) (fun hc85 => ?_) | refine c_if rfl (fun hc85 => ?_) (fun hc85 => ?_)
          · try simp only [decide_eq_true_eq, decide_eq_false_iff_not, Bool.not_eq_true, Bool.not_eq_false, Bool.not_eq_eq_eq_not, Bool.not_true, Bool.not_false, Int.not_lt, Int.not_le] at hc85
            have hif : (if 0 < pieceT xf.2.1 a st1 then a + pieceT xf.2.1 a st1 else m) = a + pieceT xf.2.1 a st1 := if_pos (by rw [hpt]; omega)
            refine r_plain ?_
            refine p1 (x_move (by conv => lhs; whnf)) ?_
            refine p1 (x_move (by conv => lhs; whnf)) ?_
            refine p1 ((x_add rfl rfl (fits_i64 (by omega) (by omega))).cast (congrArg (Value.int .i64) (by rw [hpt]; omega : _ = ((a + pieceT xf.2.1 a st1 : Nat) : Int)))) ?_
            refine p1 (x_assign (by conv => lhs; whnf)) ?_
            refine r_nil ?_
            refine t_n ?_
            refine c_seq ?_
            refine r_plain ?_
            refine p1 (x_move (by conv => lhs; whnf)) ?_
            refine p1 (x_move (by conv => lhs; whnf)) ?_
            refine p1 (x_move (by conv => lhs; whnf)) ?_
            refine p1 (x_len_slice u31 rfl) ?_
            refine p1 ((x_sub rfl rfl (fits_i64 (by omega) (by omega))).cast (congrArg (Value.int .i64) (by omega : _ = ((pieceE xf.2.1 a - (a + pieceT xf.2.1 a st1) : Nat) : Int)))) ?_
            have hBc := hMC.size
            refine o_appendZ u31 u3 inf5 rfl rfl hK (by omega) ?_
            intro pz2 cz2 w12 hK1 hpp2 hO3 hKo2
            have hMa : Mod B0 5 w11 w12 := hO3.mod hK
            have hMC := hMC.trans hMa
            have hX := hX.mod hMa hB0s
            have hB6 := hB6.mod hMa (by decide)
            have hF0 := hF0.modB hMa hlo
            have hK := hK1.mono (S' := fun j => B0 ≤ j) (fun _ _ h => h.elim id fun h => Nat.le_trans (by rw [hB0]; exact hBc) h)
            have hsz : a + pieceT xf.2.1 a st1 + (pieceE xf.2.1 a - (a + pieceT xf.2.1 a st1)) = pieceE xf.2.1 a := by omega
            rw [hsz] at hK
            refine Lst.cast (congrArg (fun z => fr _ (upd _ _ (Value.slice pz2 z cz2))) hsz.symm) ?_
            refine p1 (x_assign (by conv => lhs; whnf)) ?_
            refine r_nil ?_
            refine t_n ?_
            refine r_plain ?_
            refine p1 (x_move (by conv => lhs; whnf)) ?_
            refine p1 (x_assign (by conv => lhs; whnf)) ?_
            refine r_nil ?_
            refine b_n ?_
            rw [hpe2, hif] at hpe
            first
              | exact t_n (At.mk ((fu2, pieceE xf.2.1 a, a + pieceT xf.2.1 a st1, _, pz2, cz2, st1.tail, adw pst cst 1 1, nst - 1, cst - 1)) (by repeat (first | exact Agr.refl _ _ | exact Agr.hav _ _ _ | refine Agr.upd rfl ?_ | refine Agr.updR rfl ?_ | refine Agr.updL ?_ _ rfl | refine Agr.hav' rfl ?_)) ⟨rfl, rfl, rfl, rfl, trivial⟩ ⟨⟨hX, ⟨hMC, hK, hB6, hF0, hE2_, by omega, hfu2, hpe, htl⟩⟩, by first | (dsimp only; omega) | ((show _ < _); omega)⟩)
              | exact t_n (At.mk ((fu2, pieceE xf.2.1 a, a + pieceT xf.2.1 a st1, _, pz2, cz2, st1.tail, pst, nst, cst)) (by repeat (first | exact Agr.refl _ _ | exact Agr.hav _ _ _ | refine Agr.upd rfl ?_ | refine Agr.updR rfl ?_ | refine Agr.updL ?_ _ rfl | refine Agr.hav' rfl ?_)) ⟨rfl, rfl, rfl, rfl, trivial⟩ ⟨⟨hX, ⟨hMC, hK, hB6, hF0, hE2_, by omega, hfu2, hpe, by rw [htl]; exact hst1⟩⟩, by first | (dsimp only; omega) | ((show _ < _); omega)⟩)
              | exact t_n (At.mk ((fu2, pieceE xf.2.1 a, m, _, pz2, cz2, st1.tail, adw pst cst 1 1, nst - 1, cst - 1)) (by repeat (first | exact Agr.refl _ _ | exact Agr.hav _ _ _ | refine Agr.upd rfl ?_ | refine Agr.updR rfl ?_ | refine Agr.updL ?_ _ rfl | refine Agr.hav' rfl ?_)) ⟨rfl, rfl, rfl, rfl, trivial⟩ ⟨⟨hX, ⟨hMC, hK, hB6, hF0, hE2_, by omega, hfu2, hpe, htl⟩⟩, by first | (dsimp only; omega) | ((show _ < _); omega)⟩)
              | exact t_n (At.mk ((fu2, pieceE xf.2.1 a, m, _, pz2, cz2, st1.tail, pst, nst, cst)) (by repeat (first | exact Agr.refl _ _ | exact Agr.hav _ _ _ | refine Agr.upd rfl ?_ | refine Agr.updR rfl ?_ | refine Agr.updL ?_ _ rfl | refine Agr.hav' rfl ?_)) ⟨rfl, rfl, rfl, rfl, trivial⟩ ⟨⟨hX, ⟨hMC, hK, hB6, hF0, hE2_, by omega, hfu2, hpe, by rw [htl]; exact hst1⟩⟩, by first | (dsimp only; omega) | ((show _ < _); omega)⟩)
          · try simp only [decide_eq_true_eq, decide_eq_false_iff_not, Bool.not_eq_true, Bool.not_eq_false, Bool.not_eq_eq_eq_not, Bool.not_true, Bool.not_false, Int.not_lt, Int.not_le] at hc85
            have hif : (if 0 < pieceT xf.2.1 a st1 then a + pieceT xf.2.1 a st1 else m) = m := if_neg (by rw [hpt]; omega)
            refine c_skip ?_
            refine t_n ?_
            refine c_seq ?_
            refine r_plain ?_
            refine p1 (x_move (by conv => lhs; whnf)) ?_
            refine p1 (x_move (by conv => lhs; whnf)) ?_
            refine p1 (x_move (by conv => lhs; whnf)) ?_
            refine p1 (x_len_slice u31 rfl) ?_
            refine p1 ((x_sub rfl rfl (fits_i64 (by omega) (by omega))).cast (congrArg (Value.int .i64) (by omega : _ = ((pieceE xf.2.1 a - (a + pieceT xf.2.1 a st1) : Nat) : Int)))) ?_
            have hBc := hMC.size
            refine o_appendZ u31 u3 inf5 rfl rfl hK (by omega) ?_
            intro pz2 cz2 w13 hK1 hpp2 hO3 hKo2
            have hMa : Mod B0 5 w11 w13 := hO3.mod hK
            have hMC := hMC.trans hMa
            have hX := hX.mod hMa hB0s
            have hB6 := hB6.mod hMa (by decide)
            have hF0 := hF0.modB hMa hlo
            have hK := hK1.mono (S' := fun j => B0 ≤ j) (fun _ _ h => h.elim id fun h => Nat.le_trans (by rw [hB0]; exact hBc) h)
            have hsz : a + pieceT xf.2.1 a st1 + (pieceE xf.2.1 a - (a + pieceT xf.2.1 a st1)) = pieceE xf.2.1 a := by omega
            rw [hsz] at hK
            refine Lst.cast (congrArg (fun z => fr _ (upd _ _ (Value.slice pz2 z cz2))) hsz.symm) ?_
            refine p1 (x_assign (by conv => lhs; whnf)) ?_
            refine r_nil ?_
            refine t_n ?_
            refine r_plain ?_
            refine p1 (x_move (by conv => lhs; whnf)) ?_
            refine p1 (x_assign (by conv => lhs; whnf)) ?_
            refine r_nil ?_
            refine b_n ?_
            rw [hpe2, hif] at hpe
            first
              | exact t_n (At.mk ((fu2, pieceE xf.2.1 a, a + pieceT xf.2.1 a st1, _, pz2, cz2, st1.tail, adw pst cst 1 1, nst - 1, cst - 1)) (by repeat (first | exact Agr.refl _ _ | exact Agr.hav _ _ _ | refine Agr.upd rfl ?_ | refine Agr.updR rfl ?_ | refine Agr.updL ?_ _ rfl | refine Agr.hav' rfl ?_)) ⟨rfl, rfl, rfl, rfl, trivial⟩ ⟨⟨hX, ⟨hMC, hK, hB6, hF0, hE2_, by omega, hfu2, hpe, htl⟩⟩, by first | (dsimp only; omega) | ((show _ < _); omega)⟩)
              | exact t_n (At.mk ((fu2, pieceE xf.2.1 a, a + pieceT xf.2.1 a st1, _, pz2, cz2, st1.tail, pst, nst, cst)) (by repeat (first | exact Agr.refl _ _ | exact Agr.hav _ _ _ | refine Agr.upd rfl ?_ | refine Agr.updR rfl ?_ | refine Agr.updL ?_ _ rfl | refine Agr.hav' rfl ?_)) ⟨rfl, rfl, rfl, rfl, trivial⟩ ⟨⟨hX, ⟨hMC, hK, hB6, hF0, hE2_, by omega, hfu2, hpe, by rw [htl]; exact hst1⟩⟩, by first | (dsimp only; omega) | ((show _ < _); omega)⟩)
              | exact t_n (At.mk ((fu2, pieceE xf.2.1 a, m, _, pz2, cz2, st1.tail, adw pst cst 1 1, nst - 1, cst - 1)) (by repeat (first | exact Agr.refl _ _ | exact Agr.hav _ _ _ | refine Agr.upd rfl ?_ | refine Agr.updR rfl ?_ | refine Agr.updL ?_ _ rfl | refine Agr.hav' rfl ?_)) ⟨rfl, rfl, rfl, rfl, trivial⟩ ⟨⟨hX, ⟨hMC, hK, hB6, hF0, hE2_, by omega, hfu2, hpe, htl⟩⟩, by first | (dsimp only; omega) | ((show _ < _); omega)⟩)
              | exact t_n (At.mk ((fu2, pieceE xf.2.1 a, m, _, pz2, cz2, st1.tail, pst, nst, cst)) (by repeat (first | exact Agr.refl _ _ | exact Agr.hav _ _ _ | refine Agr.upd rfl ?_ | refine Agr.updR rfl ?_ | refine Agr.updL ?_ _ rfl | refine Agr.hav' rfl ?_)) ⟨rfl, rfl, rfl, rfl, trivial⟩ ⟨⟨hX, ⟨hMC, hK, hB6, hF0, hE2_, by omega, hfu2, hpe, by rw [htl]; exact hst1⟩⟩, by first | (dsimp only; omega) | ((show _ < _); omega)⟩)
      · try simp only [decide_eq_true_eq, decide_eq_false_iff_not, Bool.not_eq_true, Bool.not_eq_false, Bool.not_eq_eq_eq_not, Bool.not_true, Bool.not_false, Int.not_lt, Int.not_le] at hc56
        have hs0 : st1 = [] := List.eq_nil_of_length_eq_zero (by omega)
        have hpt : pieceT xf.2.1 a st1 = 0 := by rw [hs0]; rfl
        have htl : st1.tail = st1 := by rw [hs0]; rfl
        refine c_skip ?_
        refine t_n ?_
        refine c_seq ?_
        have hTle := pieceT_le xf.2.1 a st1
        refine r_plain ?_
        refine p1 (x_move (by conv => lhs; whnf)) ?_
        refine p1 (x_fieldAddr fo76_0 sz31 rfl) ?_
        refine p1 (x_load1 un31 rfl (hB6.cell (rfl))) ?_
        refine p1 (x_move (by conv => lhs; whnf)) ?_
        refine p1 (x_move (by conv => lhs; whnf)) ?_
        refine p1 (x_move (by conv => lhs; whnf)) ?_
        refine p1 ((x_add rfl rfl (fits_i64 (by omega) (by omega))).cast (congrArg (Value.int .i64) (by rw [hpt]; omega : _ = ((a + pieceT xf.2.1 a st1 : Nat) : Int)))) ?_
        refine p1 ((x_slice_lh u31 sz5 rfl rfl rfl (by omega) (by omega) (by omega)).cast (by simp only [Int.toNat_natCast, Nat.add_sub_cancel_left] : _ = Value.slice (adw p0 c0 a 1) (pieceT xf.2.1 a st1) (c0 - a))) ?_
        have hsrc : Sl kByte 5 0 w7 (adw p0 c0 a 1) (pieceT xf.2.1 a st1) (c0 - a) ((xf.2.1.drop a).take (pieceT xf.2.1 a st1)) := (hF0.sl.dropI a (by omega)).take _ (by omega)
        have hBX : ∀ j, B0 ≤ j → w.heap.size ≤ j := fun j h => Nat.le_trans hB0s h
        have hBc := hMC.size
        refine o_appendF ((xf.2.1.drop a).take (pieceT xf.2.1 a st1)) u31 inf5 rfl rfl hK (by rw [← flat_single]; exact src_pure u31 hsrc (by decide)) hsrc.len (by omega) ?_
        intro pz cz w14 hK1 hpp hO2 hKo
        have hMa : Mod B0 5 w7 w14 := hO2.mod hK
        have hMC := hMC.trans hMa
        have hX := hX.mod hMa hB0s
        have hB6 := hB6.mod hMa (by decide)
        have hF0 := hF0.modB hMa hlo
        have hK := hK1.mono (S' := fun j => B0 ≤ j) (fun _ _ h => h.elim id fun h => Nat.le_trans (by rw [hB0]; exact hBc) h)
        skip
        refine p1 (x_assign (by conv => lhs; whnf)) ?_
        refine r_nil ?_
        refine t_n ?_
        refine c_seq ?_
        refine c_seq ?_
        refine r_plain ?_
        refine p1 (x_move (by conv => lhs; whnf)) ?_
        refine p1 (x_gtr rfl rfl) ?_
        refine r_nil ?_
        refine t_n ?_
        first | refine c_dec rfl (fun hc85 => ?_) (fun hc85 => ?_) | refine c_if rfl (fun hc85 => ?_) (fun hc85 => ?_)
        · try simp only [decide_eq_true_eq, decide_eq_false_iff_not, Bool.not_eq_true, Bool.not_eq_false, Bool.not_eq_eq_eq_not, Bool.not_true, Bool.not_false, Int.not_lt, Int.not_le] at hc85
          have hif : (if 0 < pieceT xf.2.1 a st1 then a + pieceT xf.2.1 a st1 else m) = a + pieceT xf.2.1 a st1 := if_pos (by rw [hpt]; omega)
          refine r_plain ?_
          refine p1 (x_move (by conv => lhs; whnf)) ?_
          refine p1 (x_move (by conv => lhs; whnf)) ?_
          refine p1 ((x_add rfl rfl (fits_i64 (by omega) (by omega))).cast (congrArg (Value.int .i64) (by rw [hpt]; omega : _ = ((a + pieceT xf.2.1 a st1 : Nat) : Int)))) ?_
          refine p1 (x_assign (by conv => lhs; whnf)) ?_
          refine r_nil ?_
          refine t_n ?_
          refine c_seq ?_
          refine r_plain ?_
          refine p1 (x_move (by conv => lhs; whnf)) ?_
          refine p1 (x_move (by conv => lhs; whnf)) ?_
          refine p1 (x_move (by conv => lhs; whnf)) ?_
          refine p1 (x_len_slice u31 rfl) ?_
          refine p1 ((x_sub rfl rfl (fits_i64 (by omega) (by omega))).cast (congrArg (Value.int .i64) (by omega : _ = ((pieceE xf.2.1 a - (a + pieceT xf.2.1 a st1) : Nat) : Int)))) ?_
          have hBc := hMC.size
          refine o_appendZ u31 u3 inf5 rfl rfl hK (by omega) ?_
          intro pz2 cz2 w15 hK1 hpp2 hO3 hKo2
          have hMa : Mod B0 5 w14 w15 := hO3.mod hK
          have hMC := hMC.trans hMa
          have hX := hX.mod hMa hB0s
          have hB6 := hB6.mod hMa (by decide)
          have hF0 := hF0.modB hMa hlo
          have hK := hK1.mono (S' := fun j => B0 ≤ j) (fun _ _ h => h.elim id fun h => Nat.le_trans (by rw [hB0]; exact hBc) h)
          have hsz : a + pieceT xf.2.1 a st1 + (pieceE xf.2.1 a - (a + pieceT xf.2.1 a st1)) = pieceE xf.2.1 a := by omega
          rw [hsz] at hK
          refine Lst.cast (congrArg (fun z => fr _ (upd _ _ (Value.slice pz2 z cz2))) hsz.symm) ?_
          refine p1 (x_assign (by conv => lhs; whnf)) ?_
          refine r_nil ?_
          refine t_n ?_
          refine r_plain ?_
          refine p1 (x_move (by conv => lhs; whnf)) ?_
          refine p1 (x_assign (by conv => lhs; whnf)) ?_
          refine r_nil ?_
          refine b_n ?_
          rw [hpe2, hif] at hpe
          first
            | exact t_n (At.mk ((fu2, pieceE xf.2.1 a, a + pieceT xf.2.1 a st1, _, pz2, cz2, st1.tail, adw pst cst 1 1, nst - 1, cst - 1)) (by repeat (first | exact Agr.refl _ _ | exact Agr.hav _ _ _ | refine Agr.upd rfl ?_ | refine Agr.updR rfl ?_ | refine Agr.updL ?_ _ rfl | refine Agr.hav' rfl ?_)) ⟨rfl, rfl, rfl, rfl, trivial⟩ ⟨⟨hX, ⟨hMC, hK, hB6, hF0, hE2_, by omega, hfu2, hpe, htl⟩⟩, by first | (dsimp only; omega) | ((show _ < _); omega)⟩)
            | exact t_n (At.mk ((fu2, pieceE xf.2.1 a, a + pieceT xf.2.1 a st1, _, pz2, cz2, st1.tail, pst, nst, cst)) (by repeat (first | exact Agr.refl _ _ | exact Agr.hav _ _ _ | refine Agr.upd rfl ?_ | refine Agr.updR rfl ?_ | refine Agr.updL ?_ _ rfl | refine Agr.hav' rfl ?_)) ⟨rfl, rfl, rfl, rfl, trivial⟩ ⟨⟨hX, ⟨hMC, hK, hB6, hF0, hE2_, by omega, hfu2, hpe, by rw [htl]; exact hst1⟩⟩, by first | (dsimp only; omega) | ((show _ < _); omega)⟩)
            | exact t_n (At.mk ((fu2, pieceE xf.2.1 a, m, _, pz2, cz2, st1.tail, adw pst cst 1 1, nst - 1, cst - 1)) (by repeat (first | exact Agr.refl _ _ | exact Agr.hav _ _ _ | refine Agr.upd rfl ?_ | refine Agr.updR rfl ?_ | refine Agr.updL ?_ _ rfl | refine Agr.hav' rfl ?_)) ⟨rfl, rfl, rfl, rfl, trivial⟩ ⟨⟨hX, ⟨hMC, hK, hB6, hF0, hE2_, by omega, hfu2, hpe, htl⟩⟩, by first | (dsimp only; omega) | ((show _ < _); omega)⟩)
            | exact t_n (At.mk ((fu2, pieceE xf.2.1 a, m, _, pz2, cz2, st1.tail, pst, nst, cst)) (by repeat (first | exact Agr.refl _ _ | exact Agr.hav _ _ _ | refine Agr.upd rfl ?_ | refine Agr.updR rfl ?_ | refine Agr.updL ?_ _ rfl | refine Agr.hav' rfl ?_)) ⟨rfl, rfl, rfl, rfl, trivial⟩ ⟨⟨hX, ⟨hMC, hK, hB6, hF0, hE2_, by omega, hfu2, hpe, by rw [htl]; exact hst1⟩⟩, by first | (dsimp only; omega) | ((show _ < _); omega)⟩)
        · try simp only [decide_eq_true_eq, decide_eq_false_iff_not, Bool.not_eq_true, Bool.not_eq_false, Bool.not_eq_eq_eq_not, Bool.not_true, Bool.not_false, Int.not_lt, Int.not_le] at hc85
          have hif : (if 0 < pieceT xf.2.1 a st1 then a + pieceT xf.2.1 a st1 else m) = m := if_neg (by rw [hpt]; omega)
          refine c_skip ?_
          refine t_n ?_
          refine c_seq ?_
          refine r_plain ?_
          refine p1 (x_move (by conv => lhs; whnf)) ?_
          refine p1 (x_move (by conv => lhs; whnf)) ?_
          refine p1 (x_move (by conv => lhs; whnf)) ?_
          refine p1 (x_len_slice u31 rfl) ?_
          refine p1 ((x_sub rfl rfl (fits_i64 (by omega) (by omega))).cast (congrArg (Value.int .i64) (by omega : _ = ((pieceE xf.2.1 a - (a + pieceT xf.2.1 a st1) : Nat) : Int)))) ?_
          have hBc := hMC.size
          refine o_appendZ u31 u3 inf5 rfl rfl hK (by omega) ?_
          intro pz2 cz2 w16 hK1 hpp2 hO3 hKo2
          have hMa : Mod B0 5 w14 w16 := hO3.mod hK
          have hMC := hMC.trans hMa
          have hX := hX.mod hMa hB0s
          have hB6 := hB6.mod hMa (by decide)
          have hF0 := hF0.modB hMa hlo
          have hK := hK1.mono (S' := fun j => B0 ≤ j) (fun _ _ h => h.elim id fun h => Nat.le_trans (by rw [hB0]; exact hBc) h)
          have hsz : a + pieceT xf.2.1 a st1 + (pieceE xf.2.1 a - (a + pieceT xf.2.1 a st1)) = pieceE xf.2.1 a := by omega
          rw [hsz] at hK
          refine Lst.cast (congrArg (fun z => fr _ (upd _ _ (Value.slice pz2 z cz2))) hsz.symm) ?_
          refine p1 (x_assign (by conv => lhs; whnf)) ?_
          refine r_nil ?_
          refine t_n ?_
          refine r_plain ?_
          refine p1 (x_move (by conv => lhs; whnf)) ?_
          refine p1 (x_assign (by conv => lhs; whnf)) ?_
          refine r_nil ?_
          refine b_n ?_
          rw [hpe2, hif] at hpe
          first
            | exact t_n (At.mk ((fu2, pieceE xf.2.1 a, a + pieceT xf.2.1 a st1, _, pz2, cz2, st1.tail, adw pst cst 1 1, nst - 1, cst - 1)) (by repeat (first | exact Agr.refl _ _ | exact Agr.hav _ _ _ | refine Agr.upd rfl ?_ | refine Agr.updR rfl ?_ | refine Agr.updL ?_ _ rfl | refine Agr.hav' rfl ?_)) ⟨rfl, rfl, rfl, rfl, trivial⟩ ⟨⟨hX, ⟨hMC, hK, hB6, hF0, hE2_, by omega, hfu2, hpe, htl⟩⟩, by first | (dsimp only; omega) | ((show _ < _); omega)⟩)
            | exact t_n (At.mk ((fu2, pieceE xf.2.1 a, a + pieceT xf.2.1 a st1, _, pz2, cz2, st1.tail, pst, nst, cst)) (by repeat (first | exact Agr.refl _ _ | exact Agr.hav _ _ _ | refine Agr.upd rfl ?_ | refine Agr.updR rfl ?_ | refine Agr.updL ?_ _ rfl | refine Agr.hav' rfl ?_)) ⟨rfl, rfl, rfl, rfl, trivial⟩ ⟨⟨hX, ⟨hMC, hK, hB6, hF0, hE2_, by omega, hfu2, hpe, by rw [htl]; exact hst1⟩⟩, by first | (dsimp only; omega) | ((show _ < _); omega)⟩)
            | exact t_n (At.mk ((fu2, pieceE xf.2.1 a, m, _, pz2, cz2, st1.tail, adw pst cst 1 1, nst - 1, cst - 1)) (by repeat (first | exact Agr.refl _ _ | exact Agr.hav _ _ _ | refine Agr.upd rfl ?_ | refine Agr.updR rfl ?_ | refine Agr.updL ?_ _ rfl | refine Agr.hav' rfl ?_)) ⟨rfl, rfl, rfl, rfl, trivial⟩ ⟨⟨hX, ⟨hMC, hK, hB6, hF0, hE2_, by omega, hfu2, hpe, htl⟩⟩, by first | (dsimp only; omega) | ((show _ < _); omega)⟩)
            | exact t_n (At.mk ((fu2, pieceE xf.2.1 a, m, _, pz2, cz2, st1.tail, pst, nst, cst)) (by repeat (first | exact Agr.refl _ _ | exact Agr.hav _ _ _ | refine Agr.upd rfl ?_ | refine Agr.updR rfl ?_ | refine Agr.updL ?_ _ rfl | refine Agr.hav' rfl ?_)) ⟨rfl, rfl, rfl, rfl, trivial⟩ ⟨⟨hX, ⟨hMC, hK, hB6, hF0, hE2_, by omega, hfu2, hpe, by rw [htl]; exact hst1⟩⟩, by first | (dsimp only; omega) | ((show _ < _); omega)⟩)
    · try simp only [decide_eq_true_eq, decide_eq_false_iff_not, Bool.not_eq_true, Bool.not_eq_false, Bool.not_eq_eq_eq_not, Bool.not_true, Bool.not_false, Int.not_lt, Int.not_le] at hc44
      have hnlt : ¬ a < xf.2.1.length := by omega
      rw [pieces_end hnlt] at hpe
      have hw1 : wakeF xf.2 (wakeL (D.l.take k) st).2 = (kept.take m, m) := by unfold wakeF; rw [← hpe]
      have hw2 : (wakeR xf.2 (wakeL (D.l.take k) st).2).2.2 = st1 := by rw [← hpe]
      rw [hw2] at hst2
      rw [hw1] at hins hus
      refine c_exit ?_
      refine t_e ?_
      refine t_e ?_
      refine b_hit ?_
      refine t_n ?_
      refine c_seq ?_
      refine r_tail 10 mixed (by kernel_rfl) ?_
      intro w17 hE17
      have hX := hX.ext hE17
      have hMC := hMC.ext hE17
      have hK := hK.ext hE17
      have hB6 := hB6.ext hE17
      have hF0 := hF0.ext hE17
      refine s1 (x_move (by conv => lhs; whnf)) ?_
      refine s1 (x_nilCheck rfl) ?_
      refine s1 (x_fieldAddr fo66_2 sz64 rfl) ?_
      refine s1 (x_load1 un64 rfl ((hBp.mod hMC (by decide)).cell rfl)) ?_
      refine s1 (x_move (by conv => lhs; whnf)) ?_
      refine s1 (x_move (by conv => lhs; whnf)) ?_
      refine s1 (x_move (by conv => lhs; whnf)) ?_
      refine s1 (x_slice_hN u31 sz5 rfl rfl (by omega)) ?_
      refine s1 (x_move (by conv => lhs; whnf)) ?_
      refine s1 (x_build2 pl76 (by conv => lhs; whnf) (by conv => lhs; whnf) rfl rfl) ?_
      refine s_nil ?_
      have hB := hBp.mod hMC (by decide)
      have hM := hMp.mod hMC (Nat.zero_le _) (by decide)
      have hF := hFp.modB hMC (by rw [hB0]; exact Nat.le_refl _)
      have hN := hNp.mod hMC (Nat.zero_le _) (by decide)
      have hap := apart_new hFp (hK.take m (by omega)) (B := B0) (fun _ h => h) (by rw [hB0]; exact Nat.le_refl _)
      have hKm := (hK.take m (by omega)).mono (S' := (fun j => S j ∨ w.heap.size ≤ j)) (fun _ _ h => .inr (Nat.le_trans hB0s h))
      have hMt18 := hM.tyOf
      refine o_update1 (a := xf.1) (b := (qk, m, ck, m)) u64 (keyOk_str u9) rfl rfl rfl hM rfl (Nat.zero_le _) (by decide) ?_
      intro w18 hM hMm18 hne18
      have hO18 := One.ofMod hMm18 hMt18 hne18
      have hX := hX.one hO18 ⟨.inl hSr, by decide⟩
      have hB := hB.one hO18 (by decide)
      have hF := hF.one hO18 (by decide)
      have hN := hN.oneT hO18 (by decide)
      have hKm := hKm.one hO18 (by decide)
      have hF := hF.put (rise_names hok.rise (mid_names D.l k st)) xf.1 (qk, m, ck, m) (kept.take m, m) rfl hKm (fun k' y _ hy => hap k' y hy)
      rw [hins] at hF
      refine r_nil ?_
      refine t_n ?_
      refine r_plain ?_
      refine p1 (x_move (by conv => lhs; whnf)) ?_
      refine p1 (x_nilCheck rfl) ?_
      refine p1 (x_fieldAddr fo66_1 sz3 rfl) ?_
      refine p1 (x_load1 un3 rfl (hB.cell (rfl))) ?_
      refine p1 (x_move (by conv => lhs; whnf)) ?_
      have hul := (wakeL_used (l := D.l.take k) (fun y hy => hok.safe y (List.mem_of_mem_take hy)) st).1
      have hul2 := usedL_take D.l k
      refine p1 ((x_add rfl rfl (fits_i64 (by omega) (by omega))).cast (congrArg (Value.int .i64) (by rw [hus]; simp only [List.length_take]; omega : _ = ((usedL (wakeL (D.l.take (k + 1)) st).1 : Nat) : Int)))) ?_
      refine p1 (x_nilCheck rfl) ?_
      refine p1 (x_fieldAddr fo66_1 sz3 rfl) ?_
      refine o_store1 rfl (by conv => lhs; whnf) rfl rfl sz3 hB (by simp) ?_
      intro w19 hP19
      have hX := hX.put hP19 (⟨.inl hSg, by decide⟩)
      have hM := hM.mod (hP19.mod 0 (Nat.zero_le _)) (Nat.zero_le _) (by decide)
      have hF := hF.one hP19.one (by decide)
      have hB := hP19.blk
      simp only [List.setIfInBounds_toArray, List.set_cons_zero, List.set_cons_succ] at hB
      have hN := hN.oneT hP19.one (by decide)
      refine r_nil ?_
      refine b_n ?_
      refine t_n ?_
      refine r_plain ?_
      refine p1 (x_add rfl rfl (fits_i64 (by omega) (by omega))) ?_
      refine p1 (x_move (by conv => lhs; whnf)) ?_
      refine r_nil ?_
      refine t_n (At.mk ((k + 1, mset μ1 xf.1 (some (qk, m, ck, m)), pst, nst, cst)) (by repeat (first | exact Agr.refl _ _ | exact Agr.hav _ _ _ | refine Agr.upd rfl ?_ | refine Agr.updR rfl ?_ | refine Agr.updL ?_ _ rfl | refine Agr.hav' rfl ?_)) ⟨rfl, rfl, trivial⟩ ?_)
      exact ⟨⟨hX, ⟨by omega, hB, hM, hF, hN, by rw [hst2]; exact hst1⟩⟩, by show D.l.length - (k + 1) < D.l.length - k; omega⟩
  · try simp only [decide_eq_true_eq, decide_eq_false_iff_not, Bool.not_eq_true, Bool.not_eq_false, Bool.not_eq_eq_eq_not, Bool.not_true, Bool.not_false, Int.not_lt, Int.not_le] at hc21
    have hke : D.l.length ≤ k := by omega
    rw [mid_end hke] at hF
    rw [List.take_of_length_le hke] at hB
    refine c_exit ?_
    refine t_e ?_
    refine t_e ?_
    refine b_hit ?_
    refine t_n ?_
    refine r_plain ?_
    refine p1 (x_move (by conv => lhs; whnf)) ?_
    refine p1 (x_move (by conv => lhs; whnf)) ?_
    refine p1 (x_move (by conv => lhs; whnf)) ?_
    refine p1 (x_nilCheck rfl) ?_
    refine p1 (x_fieldAddr fo66_6 sz4 rfl) ?_
    refine o_store1 rfl (by conv => lhs; whnf) rfl rfl sz4 hB (by simp) ?_
    intro w20 hP20
    have hX := hX.put hP20 (⟨.inl hSg, by decide⟩)
    have hB := hP20.blk
    simp only [List.setIfInBounds_toArray, List.set_cons_zero, List.set_cons_succ] at hB
    have hM := hM.mod (hP20.mod 0 (Nat.zero_le _)) (Nat.zero_le _) (by decide)
    have hF := hF.one hP20.one (by decide)
    have hN := hN.oneT hP20.one (by decide)
    refine p1 (x_nilCheck rfl) ?_
    refine p1 (x_fieldAddr fo66_4 sz3 rfl) ?_
    refine o_store1 rfl (by conv => lhs; whnf) rfl rfl sz3 hB (by simp) ?_
    intro w21 hP21
    have hX := hX.put hP21 (⟨.inl hSg, by decide⟩)
    have hB := hP21.blk
    simp only [List.setIfInBounds_toArray, List.set_cons_zero, List.set_cons_succ] at hB
    have hM := hM.mod (hP21.mod 0 (Nat.zero_le _)) (Nat.zero_le _) (by decide)
    have hF := hF.one hP21.one (by decide)
    have hN := hN.oneT hP21.one (by decide)
    refine p1 (x_nilCheck rfl) ?_
    refine p1 (x_fieldAddr fo66_5 sz4 rfl) ?_
    refine o_store1 rfl (by conv => lhs; whnf) rfl rfl sz4 hB (by simp) ?_
    intro w22 hP22
    have hX := hX.put hP22 (⟨.inl hSg, by decide⟩)
    have hB := hP22.blk
    simp only [List.setIfInBounds_toArray, List.set_cons_zero, List.set_cons_succ] at hB
    have hM := hM.mod (hP22.mod 0 (Nat.zero_le _)) (Nat.zero_le _) (by decide)
    have hF := hF.one hP22.one (by decide)
    have hN := hN.oneT hP22.one (by decide)
    refine r_nil ?_
    refine end0n rfl ?_
    first
      | exact ⟨Dsk.of (D := startD D st) hB hM hSg (.inl hSr) hF (fun _ _ h => h), hX⟩
end Go.Proofs.Eng
end
section
set_option linter.unusedVariables false
set_option linter.unusedSimpArgs false
set_option maxRecDepth 100000
set_option maxHeartbeats 4000000
namespace Go.Proofs.Eng
open Go.RowKit
open Extern.Stop (cell)
theorem fb11 : Try.f11.body.isNone = false := by kernel_rfl
theorem fb14 : Try.f14.body.isNone = false := by kernel_rfl
theorem fb17 : Try.f17.body.isNone = false := by kernel_rfl
theorem fb19 : Try.f19.body.isNone = false := by kernel_rfl
theorem fb22 : Try.f22.body.isNone = false := by kernel_rfl
theorem fb23 : Try.f23.body.isNone = false := by kernel_rfl
theorem fb26 : Try.f26.body.isNone = false := by kernel_rfl
theorem fn11 : (Try.f11.name == "runtime.NumGoroutine") = false := by kernel_rfl
theorem fn14 : (Try.f14.name == "runtime.NumGoroutine") = false := by kernel_rfl
theorem fn17 : (Try.f17.name == "runtime.NumGoroutine") = false := by kernel_rfl
theorem fn19 : (Try.f19.name == "runtime.NumGoroutine") = false := by kernel_rfl
theorem fn22 : (Try.f22.name == "runtime.NumGoroutine") = false := by kernel_rfl
theorem fn23 : (Try.f23.name == "runtime.NumGoroutine") = false := by kernel_rfl
theorem fn26 : (Try.f26.name == "runtime.NumGoroutine") = false := by kernel_rfl
theorem u5 : Try.prog.underlying 5 = some (.int .u8) := by kernel_rfl
end Go.Proofs.Eng
end
