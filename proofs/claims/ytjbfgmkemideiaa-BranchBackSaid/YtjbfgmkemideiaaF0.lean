import Derived.Test.YtjbfgmkemideiaaE9
import Derived.Laws.IdiomCopy
import Derived.Laws.MakeOwn
set_option linter.unusedVariables false
set_option linter.unusedSimpArgs false
namespace Go.Proofs.Eng
open Go.RowKit
open Extern.Stop (cell)
section
variable {P : Program} {ops : Array Oper} {Q : Exit → Act → World → Prop} {rest : List Oper} {N : Nat} {f : Nat → Value} {w : World}
variable {ty0 : TypeId} {pos : String} {aft : Array Edge} {x y : Operand} {T T2 : TypeId} {dst : Nat}
/-- 'copy(l[i][:], b[o:])': a hash of an own list is laid over by 32 bytes. -/
theorem o_copyHash {e eb : TypeId} {B B0 Bs : Nat} {p q : Option Addr} {n c l c1 c2 i : Nat} {xs : List Hash} {zs : List UInt8} {es : TypeId} (hh : Hash) (hT : P.underlying T = some (.slice eb)) (hz : (P.info? eb).map (·.size) = some 1)
    (hx : ev N f x = .slice (some ⟨ab p, ao p + i * 32, none⟩) 32 c1) (hy : ev N f y = .slice q l c2) (hO : Own kHash e B B0 w p n c xs) (hi : i < n) (hs : Sl kByte es Bs w q l c2 zs) (hl : 32 ≤ l) (hhz : zs.take 32 = hh.1) (hBB : B ≤ B0)
    (k : ∀ w', Own kHash e B B0 w' p n c (xs.set i hh) → Mod B0 e w w' → Lst P ops Q rest (fr N (upd f dst (.int .i64 32))) w') :
    Lst P ops Q (⟨some dst, .call ⟨.builtin .copy, #[x, y], #[T, T2]⟩, ty0, pos, aft, none⟩ :: rest) (fr N f) w := by
  obtain ⟨g, cur, css, e1, h2, h3, h4, h5, h6, hA, hlf, ht⟩ := hO.block (by omega)
  have hab : ab p = g := by rw [e1]; rfl
  have hao : ao p = 0 := by rw [e1]; rfl
  have hsz : kHash.sz = 32 := rfl
  rw [hsz] at h6
  have hic : (i + 1) * 32 ≤ c * 32 := Nat.mul_le_mul_right _ (by omega)
  have hq := hs.adr kByte_pos (by omega)
  have hcl : (hcs hh).length = 32 := hcs_len hh
  have hzl := hs.len
  have hsrc : ∀ j v, (hcs hh)[j]? = some v → w.cell? ((⟨ab q, ao q, none⟩ : Addr).add j) = some v := by
    intro j v hv
    have hj : j < 32 := by
      rcases Nat.lt_or_ge j 32 with h | h
      · exact h
      · rw [List.getElem?_eq_none (by omega)] at hv; cases hv
    rw [hcs_get hh j hj] at hv
    injection hv with hv
    subst hv
    rw [Addr.add_mid, hs.byteAt j (by omega)]
    have e4 : hh.1.getD j 0 = zs.getD j 0 := by
      rw [← hhz, List.getD_eq_getElem?_getD, List.getD_eq_getElem?_getD, List.getElem?_take, if_pos hj]
    rw [e4]
  have hrun := run_copy_cells (P := P) w T T2 ty0 eb g (i * 32) 32 c1 ⟨ab q, ao q, none⟩ l c2 (hcs hh) hT hz (by rw [hcl]; exact (Nat.min_eq_right hl).symm) hsrc
    (fun j hj => by rw [h3.cell (v := cur[i * 32 + j]'(by omega)) (Array.getElem?_eq_getElem (by omega))]; rfl) (fun j hj => frozen_of_row w g _ cur e h3) (hcs_one hh)
  have hP := put_setCells (hcs hh) h3 (o := i * 32) (by omega)
  have e5 : (cur.toList.take (i * 32) ++ hcs hh ++ cur.toList.drop (i * 32 + (hcs hh).length)).toArray = (cur.toList.take (i * kHash.sz) ++ hcs hh ++ cur.toList.drop (i * kHash.sz + kHash.sz)).toArray := by rw [hcl]; rfl
  rw [e5] at hP
  have hnew := hO.put hi (y := hh) (cy := hcs hh) rfl hBB (by intro h; cases h) h3 hab hP
  refine l1 (w' := w.setCells g (i * 32) (hcs hh)) (v := .int .i64 32) ?_ (k _ hnew.1 hnew.2)
  rw [hab, hao, Nat.zero_add] at hx
  rw [hq] at hy
  simp only [execOp, resolve, invoke, builtin, Sem.run_bind, Sem.run_pure, Result.andThen_ok, List.map_toArray, List.map_cons, List.map_nil, hx, hy, hrun]
  rw [hcl]; rfl
end
/-! ### a list of hashes off bytes -/
def hashAt (b : List UInt8) (o : Nat) : Hash := ⟨(List.range 32).map (fun c => b.getD (o + c) 0), by simp⟩
theorem hashAt_take {b : List UInt8} {o : Nat} (h : o + 32 ≤ b.length) : (b.drop o).take 32 = (hashAt b o).1 := by
  apply List.ext_getElem?
  intro i
  rw [List.getElem?_take]
  by_cases hi : i < 32
  · rw [if_pos hi, List.getElem?_drop]
    simp only [hashAt, List.getElem?_map, List.getElem?_range hi, Option.map_some]
    rw [List.getD_eq_getElem?_getD, List.getElem?_eq_getElem (by omega)]; rfl
  · rw [if_neg hi, List.getElem?_eq_none (by simp [hashAt]; omega)]
/-- .. its first n hashes, from k on. -/
def hashesAt (b : List UInt8) (k n : Nat) : List Hash := (List.range n).map fun i => hashAt b (k + 32 * i)
theorem hashesAt_succ (b : List UInt8) (k n : Nat) : hashesAt b k (n + 1) = hashesAt b k n ++ [hashAt b (k + 32 * n)] := by
  unfold hashesAt; rw [List.range_succ, List.map_append]; rfl
theorem hashesAt_len (b : List UInt8) (k n : Nat) : (hashesAt b k n).length = n := by simp [hashesAt]
section
variable {α : Type} {sz : Nat} {enc : α → List Value} {hl : ∀ x, (enc x).length = sz} {h1 : ∀ x, ∀ v ∈ enc x, v.oneCell' = true}
theorem made_flat (z : α) (hs : 0 < sz) (hl : ∀ x, (enc x).length = sz) (n : Nat) : (madeCells (enc z).toArray (n * sz)).toList = ((List.replicate n z).map enc).flatten := by
  have hzs : (enc z).toArray.size = sz := by simpa using hl z
  apply List.ext_getElem?
  intro j
  by_cases hj : j < n * sz
  · have hi : j / sz < n := Nat.div_lt_of_lt_mul (by rw [Nat.mul_comm]; exact hj)
    have hr : j % sz < sz := Nat.mod_lt _ hs
    have hr' : j % sz < (enc z).length := by rw [hl]; exact hr
    have hf := Kind.flat_get (s := sz) (css := (List.replicate n z).map enc) (fun c hc => by
      obtain ⟨x, _, rfl⟩ := List.mem_map.1 hc
      exact hl x) (i := j / sz) (j := j % sz) (v := (enc z)[j % sz]) (by
        rw [List.getD_eq_getElem?_getD, List.getElem?_map, List.getElem?_replicate, if_pos hi]
        exact List.getElem?_eq_getElem hr')
    have e1 : j / sz * sz + j % sz = j := by have := Nat.div_add_mod j sz; rw [Nat.mul_comm] at this; omega
    rw [e1] at hf
    rw [hf, Array.getElem?_toList]
    have hr2 : j % (enc z).toArray.size < (enc z).toArray.size := by rw [hzs]; exact hr
    simp only [madeCells, Array.getElem?_map]
    rw [Array.getElem?_range, if_pos hj]
    simp only [Option.map_some]
    rw [getElem!_pos (enc z).toArray _ hr2]
    simp [hl]
  · have h2 : (((List.replicate n z).map enc).flatten).length = n * sz := by rw [flat_len' hl]; simp
    rw [List.getElem?_eq_none (by rw [Array.length_toList, size_madeCells]; omega), List.getElem?_eq_none (by omega)]
theorem own_make {e : TypeId} {B0 : Nat} {w w' : World} {g : Nat} (z : α) (n : Nat) (hs : 0 < sz) (hN : New w w' g (madeCells (enc z).toArray (n * sz)) e) (hB : B0 ≤ w.heap.size) (hn : n ≤ 9223372036854775807) : Own (Kind.pure sz enc hl h1) e 0 B0 w' (some ⟨g, 0, none⟩) n n (List.replicate n z) :=
  Own.made _ e 0 B0 hN (List.replicate n z) ((List.replicate n z).map enc) n n (by simp) (pure_all 0 w' _) hB (Nat.le_refl _) hn (size_madeCells _ _) (by
    rw [made_flat z hs hl, List.take_of_length_le (by rw [flat_len' hl]; simp [Kind.pure])])
end
end Go.Proofs.Eng
