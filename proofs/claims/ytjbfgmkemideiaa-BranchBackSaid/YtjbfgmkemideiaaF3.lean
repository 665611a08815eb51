import Derived.Test.YtjbfgmkemideiaaF2
set_option linter.unusedVariables false
set_option linter.unusedSimpArgs false
namespace Go.Proofs.Eng
open Go.RowKit
open Extern.Stop (cell)
/-! ### what is new may turn in whatever way -/
theorem Mod.modNew {B B1 : Nat} {t u : TypeId} {w a b : World} (h : Mod B t w a) (m : Mod B1 u a b) (hB : w.heap.size ≤ B1) : Mod B t w b :=
  ⟨Nat.le_trans h.size m.size, fun k hk ho => (m.old k (Nat.lt_of_lt_of_le hk h.size) (.inl (by omega))).trans (h.old k hk ho),
    fun k hk => (m.tys k (Nat.lt_of_lt_of_le hk h.size)).trans (h.tys k hk), Nat.le_trans h.drawn m.drawn, m.os.trans h.os, m.tape.trans h.tape, m.output.trans h.output⟩
theorem Mod.put {B : Nat} {t u : TypeId} {w a b : World} (h : Mod B t w a) {g : Nat} {cs : Array Value} (p : Put a b g cs u) (hg : w.heap.size ≤ g) : Mod B t w b := h.modNew (p.mod g (Nat.le_refl _)) hg
/-- Everything that is there. -/
def below (w : World) : Nat → Prop := fun j => j < w.heap.size
theorem Tbl.now {S : Nat → Prop} {B0 : Nat} {w : World} {g r : Nat} {l : List Br} (h : Tbl S B0 w g r l) : Tbl (below w) B0 w g r l := h.mono fun _ hk _ => hk
theorem Sl.now {S : Nat → Prop} {e : TypeId} {B : Nat} {w : World} {p : Option Addr} {n c : Nat} {l : List Br} (h : Sl (kBr S) e B w p n c l) : Sl (kBr (below w)) e B w p n c l := h.brMono fun _ hk _ => hk
theorem SlS.modB {α : Type} {enc : α → List Value} {e : TypeId} {S : Nat → Prop} {w w' : World} {p : Option Addr} {n c : Nat} {xs : List α} (h : SlS enc e S w p n c xs) {B' : Nat} {t : TypeId} (m : Mod B' t w w') (hS : ∀ j, S j → j < B') : SlS enc e S w' p n c xs :=
  h.keep fun hn => m.old _ (ty_lt (h.ty hn)) (.inl (hS _ (h.fp hn).1))
theorem Mp.brModB {S : Nat → Prop} {B B0 r : Nat} {w w' : World} {μ : ByteArray → Option (List Hash)} (h : Mp kkStr (vHs S) B B0 w r μ) {B' : Nat} {t : TypeId} (m : Mod B' t w w') (hS : ∀ j, S j → j < B') (ht : t ≠ tMap) : Mp kkStr (vHs S) B B0 w' r μ := by
  obtain ⟨es, clock, l, hm, hT⟩ := h.ex
  exact ⟨h.low, es, clock, l, ⟨(m.old r hm.lt (.inr (by rw [hm.ty]; intro e; injection e with e; exact ht e.symm))).trans hm.blk, hm.ents.imp (fun x v hv => by obtain ⟨q, k, c1, e1, e2⟩ := hv; exact ⟨q, k, c1, e1, e2.modB m hS⟩), hm.nd, hm.bnd, hm.bl⟩, hT⟩
theorem Tbl.modB {S : Nat → Prop} {B0 : Nat} {w w' : World} {g r : Nat} {l : List Br} (h : Tbl S B0 w g r l) {B' : Nat} {t : TypeId} (m : Mod B' t w w') (hS : ∀ j, S j → j < B') (ht : t ∉ [124, tMap]) : Tbl S B0 w' g r l :=
  ⟨h.blk.mod m (fun e => ht (by simp [e])), h.map.brModB m hS (fun e => ht (by simp [e])), h.rise, h.few, h.ok⟩
theorem Sl.brPut {S : Nat → Prop} {e : TypeId} {w w' : World} {p : Option Addr} {n c : Nat} {l : List Br} (h : Sl (kBr S) e 0 w p n c l) {g : Nat} {cs : Array Value} {t : TypeId} (m : Put w w' g cs t) (hg : ¬ S g) (he : t ≠ e) : Sl (kBr S) e 0 w' p n c l := by
  obtain ⟨css, ha, hr⟩ := h.row
  have hb : css.flatten ≠ [] → w'.heap[ab p]? = w.heap[ab p]? := fun hne => m.old _ fun q => by
    rcases hr.ok hne with h1 | h1
    · omega
    · rw [q, m.was] at h1; injection h1 with h1; exact he h1
  exact ⟨h.len, h.cap, h.fit, css, All.imp2 (d := kBr S) (d' := kBr S) (fun x cs hk => by obtain ⟨q, m', c1, h1, h2⟩ := hk; exact ⟨q, m', c1, h1, h2.put m hg⟩) ha, hr.row.of_block hb, fun hne => (hr.ok hne).imp id fun e' => (ty_of_heap (hb hne)).trans e'⟩
theorem Sl.brModB {S : Nat → Prop} {e : TypeId} {w w' : World} {p : Option Addr} {n c : Nat} {l : List Br} (h : Sl (kBr S) e 0 w p n c l) {B' : Nat} {t : TypeId} (m : Mod B' t w w') (hS : ∀ j, S j → j < B') (he : t ≠ e) : Sl (kBr S) e 0 w' p n c l := by
  obtain ⟨css, ha, hr⟩ := h.row
  have hb : css.flatten ≠ [] → w'.heap[ab p]? = w.heap[ab p]? := fun hne => m.old _ (hr.row.lt hne) (by
    rcases hr.ok hne with h1 | h1
    · omega
    · right; rw [h1]; intro q; injection q with q; exact he q.symm)
  exact ⟨h.len, h.cap, h.fit, css, All.imp2 (d := kBr S) (d' := kBr S) (fun x cs hk => by obtain ⟨q, m', c1, h1, h2⟩ := hk; exact ⟨q, m', c1, h1, h2.modB m hS⟩) ha, hr.row.of_block hb, fun hne => (hr.ok hne).imp id fun e' => (ty_of_heap (hb hne)).trans e'⟩

/-! ### own heads whose bytes turn -/
/-- A slice of hashes in a block of S, whatever its bytes. -/
structure ShB (S : Nat → Prop) (w : World) (p : Option Addr) (n : Nat) : Prop where
  fit : n ≤ 9223372036854775807
  fp : 0 < n → p = some ⟨ab p, ao p, none⟩ ∧ S (ab p) ∧ ∃ cur, Blk w (ab p) cur 35
  cells : ∀ j, j < n * 32 → ∃ b, w.cell? ⟨ab p, ao p + j, none⟩ = some (cell b)
theorem hcs_flat_get : ∀ (xs : List Hash) (j : Nat), j < xs.length * 32 → ∃ b, (xs.map hcs).flatten[j]? = some (cell b)
  | [], j, h => by simp at h
  | x :: xs, j, h => by
    rw [List.map_cons, List.flatten_cons]
    by_cases hj : j < 32
    · rw [List.getElem?_append_left (by rw [hcs_len]; exact hj)]
      exact ⟨_, hcs_get x j hj⟩
    · rw [List.getElem?_append_right (by rw [hcs_len]; omega), hcs_len]
      exact hcs_flat_get xs (j - 32) (by simp only [List.length_cons] at h; omega)
theorem ty_blk {w : World} {k : Nat} (h : ty w k = some 35) : ∃ cur z, w.heap[k]? = some (.cells cur 35 z) := by
  unfold ty at h
  split at h
  · rename_i c t z hb; injection h with h; subst h; exact ⟨c, z, hb⟩
  · injection h with h; exact absurd h (by decide)
  · injection h with h; exact absurd h (by decide)
  · cases h
theorem ShB.ofOwn {B B0 : Nat} {w : World} {p : Option Addr} {n c : Nat} {xs : List Hash} (h : Own kHash 35 B B0 w p n c xs) : ShB (fun j => B0 ≤ j) w p n := by
  have hs := SlS.ofHash h
  refine ⟨by have := hs.cap; have := hs.fit; omega, fun hn => ?_, fun j hj => ?_⟩
  · obtain ⟨g, cur, css, rfl, h2, h3, _⟩ := h.block hn
    exact ⟨rfl, h2, cur, h3⟩
  · obtain ⟨b, hb⟩ := hcs_flat_get xs j (by rw [hs.len]; exact hj)
    exact ⟨b, hs.row.at_ j _ hb⟩
theorem ShB.keep {S : Nat → Prop} {w w' : World} {p : Option Addr} {n : Nat} (h : ShB S w p n) (hb : ∀ k, (∃ cur, Blk w k cur 35) → w'.heap[k]? = w.heap[k]?) : ShB S w' p n := by
  refine ⟨h.fit, fun hn => ?_, fun j hj => ?_⟩
  · obtain ⟨h1, h2, cur, h3⟩ := h.fp hn
    exact ⟨h1, h2, cur, (hb _ ⟨cur, h3⟩).trans h3⟩
  · have hn : 0 < n := by omega
    obtain ⟨h1, h2, cur, h3⟩ := h.fp hn
    obtain ⟨b, hc⟩ := h.cells j hj
    exact ⟨b, (World.cell?_of_block (w := w) (a := ⟨ab p, ao p + j, none⟩) (hb _ ⟨cur, h3⟩)).trans hc⟩
theorem Blk.set_cell {w w' : World} {g o : Nat} {cs : Array Value} {t : TypeId} {v : Value} (hP : Put w w' g (cs.setIfInBounds o v) t) (hB : Blk w g cs t) (k : Nat) : w'.cell? ⟨g, k, none⟩ = if o = k ∧ o < cs.size then some v else w.cell? ⟨g, k, none⟩ := by
  rw [cell_of_row w' g k _ t (0, 0) hP.blk, cell_of_row w g k cs t (0, 0) hB, Array.getElem?_setIfInBounds]
  by_cases e : o = k
  · subst e
    by_cases h : o < cs.size
    · simp [h]
    · simp [h, Array.getElem?_eq_none (by omega : cs.size ≤ o)]
  · simp [e]
theorem ShB.set {S : Nat → Prop} {w w' : World} {p : Option Addr} {n : Nat} (h : ShB S w p n) {g o : Nat} {cs : Array Value} {b : UInt8} (hB : Blk w g cs 35) (hP : Put w w' g (cs.setIfInBounds o (cell b)) 35) : ShB S w' p n := by
  refine ⟨h.fit, fun hn => ?_, fun j hj => ?_⟩
  · obtain ⟨h1, h2, cur, h3⟩ := h.fp hn
    refine ⟨h1, h2, ?_⟩
    by_cases e : ab p = g
    · rw [e]; exact ⟨_, hP.blk⟩
    · exact ⟨cur, hP.keep h3 e⟩
  · obtain ⟨b', hc⟩ := h.cells j hj
    by_cases e : ab p = g
    · rw [e] at hc ⊢
      rw [Blk.set_cell hP hB]
      split
      · exact ⟨b, rfl⟩
      · exact ⟨b', hc⟩
    · exact ⟨b', (World.cell?_of_block (w := w) (a := ⟨ab p, ao p + j, none⟩) (hP.old _ e)).trans hc⟩
/-- A branch of which the heads' bytes may be anything: how many heads there are. -/
def kSh (S : Nat → Prop) : Kind Nat where
  sz := 2
  E := [35]
  K := fun _ w x cs => ∃ (s : ByteArray) (p : Option Addr) (c : Nat), cs = [.string s, .slice p x c] ∧ ShB S w p x
  len := by rintro _ _ _ _ ⟨s, p, c, rfl, _⟩; rfl
  one := by
    rintro _ _ _ _ ⟨s, p, c, rfl, _⟩ v hv
    simp only [List.mem_cons, List.not_mem_nil, or_false] at hv
    rcases hv with rfl | rfl <;> rfl
  keep := by
    rintro B w w' x cs hs ⟨s, p, c, rfl, h1⟩
    exact ⟨s, p, c, rfl, h1.keep fun k ⟨cur, hb⟩ => hs k hb.lt (.inr ⟨35, by simp, hb.ty⟩)⟩
  mono := fun _ h => h
theorem kSh_pos {S : Nat → Prop} : 0 < (kSh S).sz := Nat.two_pos
theorem ShB.ofSlS {S : Nat → Prop} {w : World} {p : Option Addr} {n c : Nat} {xs : List Hash} (h : SlS hcs 35 S w p n c xs) : ShB S w p n := by
  refine ⟨by have := h.cap; have := h.fit; omega, fun hn => ?_, fun j hj => ?_⟩
  · refine ⟨h.row.ne ?_, (h.fp hn).1, (h.fp hn).2⟩
    rw [flat_len' hcs_len, h.len]; omega
  · obtain ⟨b, hb⟩ := hcs_flat_get xs j (by rw [h.len]; exact hj)
    exact ⟨b, h.row.at_ j _ hb⟩
theorem all_sh {S : Nat → Prop} {w : World} : ∀ {l : List Br} {css : List (List Value)}, (kBr S).All 0 w l css → (kSh S).All 0 w (l.map fun x => x.2.length) css
  | [], [], _ => trivial
  | x :: _, _ :: _, h => by
    obtain ⟨p, n, c, rfl, hs⟩ := h.1
    have e := hs.len
    subst e
    exact ⟨⟨x.1, p, c, rfl, ShB.ofSlS hs⟩, all_sh h.2⟩
  | [], _ :: _, h => h.elim
  | _ :: _, [], h => h.elim
theorem Sl.sh {S : Nat → Prop} {e : TypeId} {w : World} {p : Option Addr} {n c : Nat} {l : List Br} (h : Sl (kBr S) e 0 w p n c l) : Sl (kSh S) e 0 w p n c (l.map fun x => x.2.length) := by
  obtain ⟨css, ha, hr⟩ := h.row
  exact ⟨by rw [List.length_map]; exact h.len, h.cap, h.fit, css, all_sh ha, hr⟩
section
variable {P : Program} {ops : Array Oper} {Q : Exit → Act → World → Prop} {rest : List Oper} {N : Nat} {f : Nat → Value} {w : World}
variable {ty0 : TypeId} {pos : String} {aft : Array Edge} {v : Value} {x y : Operand} {T : TypeId}
/-- One cell of such heads is written. -/
theorem o_storeSh {S : Nat → Prop} {p : Option Addr} {n j : Nat} {b : UInt8} (h : ShB S w p n) (hj : j < n * 32) (hx : ev N f x = .pointer (some ⟨ab p, ao p + j, none⟩)) (hy : ev N f y = .int .u8 b.toNat) (hs : (P.info? T).map (·.size) = some 1)
    (k : ∀ w' cs, Blk w (ab p) cs 35 → Put w w' (ab p) (cs.setIfInBounds (ao p + j) (cell b)) 35 → Lst P ops Q rest (fr N f) w') : Lst P ops Q (⟨none, .store T x y, ty0, pos, aft, none⟩ :: rest) (fr N f) w := by
  obtain ⟨h1, h2, cur, h3⟩ := h.fp (by omega)
  obtain ⟨b', hc⟩ := h.cells j hj
  rw [cell_of_row w (ab p) (ao p + j) cur 35 (0, 0) h3] at hc
  have hlt : ao p + j < cur.size := (Array.getElem?_eq_some_iff.1 hc).1
  exact o_store1 hx hy rfl rfl hs h3 hlt fun w' hP => k w' cur h3 hP
end
theorem Sl.shAt {S : Nat → Prop} {e : TypeId} {B : Nat} {w : World} {p : Option Addr} {n c : Nat} {ks : List Nat} (h : Sl (kSh S) e B w p n c ks) (i : Nat) (hi : i < n) : ∃ q c1, w.cell? ⟨ab p, ao p + i * 2 + 1, none⟩ = some (.slice q (ks.getD i 0) c1) ∧ ShB S w q (ks.getD i 0) := by
  obtain ⟨cs, ⟨s, q, c1, rfl, hs⟩, hr⟩ := h.get 0 i hi
  exact ⟨q, c1, hr 1 _ rfl, hs⟩
theorem Sl.shSet {S : Nat → Prop} {e : TypeId} {w w' : World} {p : Option Addr} {n c : Nat} {ks : List Nat} (h : Sl (kSh S) e 0 w p n c ks) (he : e ≠ 35) {g o : Nat} {cs : Array Value} {b : UInt8} (hB : Blk w g cs 35) (hP : Put w w' g (cs.setIfInBounds o (cell b)) 35) : Sl (kSh S) e 0 w' p n c ks := by
  obtain ⟨css, ha, hr⟩ := h.row
  have hb : css.flatten ≠ [] → w'.heap[ab p]? = w.heap[ab p]? := fun hne => hP.old _ fun q => by
    rcases hr.ok hne with h1 | h1
    · omega
    · rw [q, hP.was] at h1; injection h1 with h1; exact he h1.symm
  refine ⟨h.len, h.cap, h.fit, css, All.imp2 (d := kSh S) (d' := kSh S) (fun x cs' hk => ?_) ha, hr.row.of_block hb, fun hne => (hr.ok hne).imp id fun e' => (ty_of_heap (hb hne)).trans e'⟩
  obtain ⟨s, q, c1, rfl, h1⟩ := hk
  exact ⟨s, q, c1, rfl, h1.set hB hP⟩
theorem Own.away {α : Type} {d : Kind α} {e : TypeId} {B B0 : Nat} {w : World} {p : Option Addr} {n c : Nat} {xs : List α} (h : Own d e B B0 w p n c xs) (hn : 0 < n) : B0 ≤ ab p ∧ ab p < w.heap.size := by
  obtain ⟨g, cur, css, rfl, h2, h3, _⟩ := h.block hn
  exact ⟨h2, h3.lt⟩
section
variable {P : Program} {ops : Array Oper} {Q : Exit → Act → World → Prop} {rest : List Oper} {N : Nat} {f : Nat → Value} {w : World}
variable {ty0 : TypeId} {pos : String} {aft : Array Edge} {v : Value} {x y : Operand} {T : TypeId} {α : Type} {d : Kind α} {e : TypeId} {B B0 : Nat} {p : Option Addr} {n c : Nat} {xs : List α}
/-- One cell of an element of an own slice is written: that block alone turns. -/
theorem o_storeInP {i j : Nat} (z y0 : α) (hx : ev N f x = .pointer (some ⟨ab p, ao p + i * d.sz + j, none⟩)) (hy : ev N f y = v) (h1 : v.cells = #[v]) (hv : v.oneCell' = true) (hO : Own d e B B0 w p n c xs) (hi : i < n) (hj : j < d.sz)
    (ha : ∀ cx, d.K B w (xs.getD i z) cx → d.K B w y0 (cx.set j v)) (hs : (P.info? T).map (·.size) = some 1) (hBB : B ≤ B0) (hE : e ∉ d.E)
    (k : ∀ w' cs, Own d e B B0 w' p n c (xs.set i y0) → Put w w' (ab p) cs e → Lst P ops Q rest (fr N f) w') : Lst P ops Q (⟨none, .store T x y, ty0, pos, aft, none⟩ :: rest) (fr N f) w := by
  obtain ⟨g, cur, css, e1, h2, h3, h4, h5, h6, hA, hlf, ht⟩ := hO.block (by omega)
  have hab : ab p = g := by rw [e1]; rfl
  have hao : ao p = 0 := by rw [e1]; rfl
  have hle : i * d.sz + d.sz ≤ n * d.sz := by rw [← Nat.succ_mul]; exact Nat.mul_le_mul_right _ hi
  have hcs : n * d.sz ≤ c * d.sz := Nat.mul_le_mul_right _ h4
  rw [hab, hao, Nat.zero_add] at hx
  have hlen := hO.len
  have hK := hA.get z (i := i) (by omega)
  refine o_store1 hx hy h1 hv hs h3 (by omega) fun w' hP => ?_
  have e2 : cur.setIfInBounds (i * d.sz + j) v = (cur.toList.take (i * d.sz) ++ (css.getD i []).set j v ++ cur.toList.drop (i * d.sz + d.sz)).toArray := by
    apply Array.toList_inj.1
    rw [Array.toList_setIfInBounds]
    refine set_in (by simp; omega) (fun t u hu => ?_) (d.len hK) hj rfl
    have hf := Kind.flat_get hA.lens hu
    rw [← ht, List.getElem?_take] at hf
    split at hf
    · exact hf
    · cases hf
  have hP' := hP
  rw [e2] at hP
  have := hO.put hi (ha _ hK) hBB hE h3 hab hP
  rw [← hab] at hP'
  exact k w' _ this.1 hP'
end
/-- A call on a table, as the laws give it. -/
abbrev Act' := UInt8 × ByteArray × List Hash
instance : Inhabited Act' := ⟨(0, ByteArray.empty, [])⟩
def kAct : Kind Act' where
  sz := 3
  E := [35]
  K := fun B w x cs => ∃ p n c, cs = [.int .u8 x.1.toNat, .string x.2.1, .slice p n c] ∧ Sl kHash 35 B w p n c x.2.2
  len := by rintro _ _ _ _ ⟨p, n, c, rfl, _⟩; rfl
  one := by
    rintro _ _ _ _ ⟨p, n, c, rfl, _⟩ v hv
    simp only [List.mem_cons, List.not_mem_nil, or_false] at hv
    rcases hv with rfl | rfl | rfl <;> rfl
  keep := fun hs ⟨p, n, c, h1, h2⟩ => ⟨p, n, c, h1, h2.keep hs⟩
  mono := fun hB ⟨p, n, c, h1, h2⟩ => ⟨p, n, c, h1, h2.mono hB⟩
theorem kAct_pos : 0 < kAct.sz := by decide
theorem Sl.actAt {e : TypeId} {B : Nat} {w : World} {p : Option Addr} {n c : Nat} {l : List Act'} (h : Sl kAct e B w p n c l) (i : Nat) (hi : i < n) : ∃ q m c1, w.rangeAt (ab p) (ao p + i * 3) [.int .u8 (l.getD i default).1.toNat, .string (l.getD i default).2.1, .slice q m c1] ∧ Sl kHash 35 B w q m c1 (l.getD i default).2.2 := by
  obtain ⟨cs, ⟨q, m, c1, rfl, hs⟩, hr⟩ := h.get default i hi
  exact ⟨q, m, c1, hr, hs⟩
def nmA : ByteArray := ⟨#[97]⟩
theorem act_mem {l : List Act'} {i n : Nat} (hl : l.length = n) (hi : i < n) : l.getD i default ∈ l := by
  rw [List.getD_eq_getElem?_getD, List.getElem?_eq_getElem (by omega)]
  exact List.getElem_mem _
/-- A call that is refused leaves the branches as they are. -/
theorem brDo_err {l : List Br} {kd : Nat} {k : ByteArray} {hs : List Hash} (h : (brDo l kd k hs).2 ≠ 0) : (brDo l kd k hs).1 = l := by
  unfold brDo brCreate brMove brDelete at h ⊢
  repeat' split
  all_goals first | rfl | (exfalso; simp_all; done)
theorem asc_ins_ne {l : List Br} (hr : RiseN l) {k z : ByteArray} (o : Option (List Hash)) (h : z ≠ k) : asc (ins l k o) z = asc l z := by
  rw [← asc_ins hr k o z]; unfold mset; rw [if_neg h]
theorem asc_do {l : List Br} (hr : RiseN l) {kd : Nat} {k z : ByteArray} {hs : List Hash} (h : z ≠ k) : asc (brDo l kd k hs).1 z = asc l z := by
  unfold brDo brCreate brMove brDelete
  repeat' split
  all_goals first | rfl | exact asc_ins_ne hr _ h
end Go.Proofs.Eng
