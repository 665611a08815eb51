import Derived.Test.YtjbfgmkemideiaaE4
set_option linter.unusedVariables false
set_option linter.unusedSimpArgs false
namespace Go.Proofs.Eng
open Go.RowKit
open Extern.Stop (cell)

/-! ### kinds -/
/-- A kind whose cells are a plain function of the thing. -/
def Kind.pure {α : Type} (sz : Nat) (enc : α → List Value) (hl : ∀ x, (enc x).length = sz) (h1 : ∀ x, ∀ v ∈ enc x, v.oneCell' = true) : Kind α where
  sz := sz
  E := []
  K := fun _ _ x cs => cs = enc x
  len := fun h => by rw [h]; exact hl _
  one := fun h v hv => h1 _ v (by rw [h] at hv; exact hv)
  keep := fun _ h => h
  mono := fun _ h => h
def kByte : Kind UInt8 := .pure 1 (fun b => [cell b]) (fun _ => rfl) (fun _ v hv => by simp at hv; subst hv; rfl)
def kStr : Kind ByteArray := .pure 1 (fun s => [.string s]) (fun _ => rfl) (fun _ v hv => by simp at hv; subst hv; rfl)

abbrev Hash := { l : List UInt8 // l.length = 32 }
instance : Inhabited Hash := ⟨⟨List.replicate 32 0, by simp⟩⟩
def hcs (h : Hash) : List Value := h.1.map cell
def hv (h : Hash) : Array Value := (hcs h).toArray
theorem hcs_len (h : Hash) : (hcs h).length = 32 := by simp [hcs, h.2]
theorem hcs_one (h : Hash) : ∀ v ∈ hcs h, v.oneCell' = true := by
  intro v hv
  unfold hcs at hv
  obtain ⟨_, _, rfl⟩ := List.mem_map.1 hv
  rfl
theorem hcs_sz {P : Program} {T : TypeId} (hs : (P.info? T).map (·.size) = some 32) (h : Hash) : (P.info? T).map (·.size) = some (hcs h).length := by rw [hs, hcs_len]
theorem hv_sz {P : Program} {T : TypeId} (hs : (P.info? T).map (·.size) = some 32) (h : Hash) : (P.info? T).map (·.size) = some (hv h).size := by rw [hs]; simp [hv, hcs_len]
theorem hv_get (h : Hash) (i : Nat) (hi : i < 32) : (hv h)[i]? = some (.int .u8 (h.1.getD i 0).toNat) := by
  have := h.2
  simp [hv, hcs, cell, this, hi]
def kHash : Kind Hash := .pure 32 hcs hcs_len hcs_one

section pureAt
variable {α : Type} {e : TypeId} {B : Nat} {w : World} {p : Option Addr} {n c : Nat}
theorem Sl.hashAt {xs : List Hash} (h : Sl kHash e B w p n c xs) (i : Int) (h0 : 0 ≤ i) (h1 : i < (n : Int)) : w.rangeAt (ab p) (ao p + i.toNat * 32) (hcs (xs.getD i.toNat default)) := by
  obtain ⟨cs, hk, hr⟩ := h.get default i.toNat (by omega)
  have : cs = hcs (xs.getD i.toNat default) := hk
  subst this
  exact hr
theorem Sl.byteAt {xs : List UInt8} (h : Sl kByte e B w p n c xs) (i : Nat) (h1 : i < n) : w.cell? ⟨ab p, ao p + i, none⟩ = some (.int .u8 (xs.getD i 0).toNat) := by
  obtain ⟨cs, hk, hr⟩ := h.get 0 i h1
  have : cs = [cell (xs.getD i 0)] := hk
  subst this
  have := hr 0 _ rfl
  have e1 : kByte.sz = 1 := rfl
  rw [e1] at this
  simpa [cell] using this
theorem Sl.byteAtI {xs : List UInt8} (h : Sl kByte e B w p n c xs) (i : Int) (h0 : 0 ≤ i) (h1 : i < (n : Int)) : w.cell? ⟨ab p, ao p + i.toNat * 1, none⟩ = some (.int .u8 (xs.getD i.toNat 0).toNat) := by
  rw [Nat.mul_one]; exact h.byteAt i.toNat (by omega)
end pureAt
theorem kHash_pos : 0 < kHash.sz := by decide
theorem kByte_pos : 0 < kByte.sz := by decide
theorem kStr_pos : 0 < kStr.sz := by decide

/-- A list of things of a pure kind, flat. -/
theorem pure_all {α : Type} {sz : Nat} {enc : α → List Value} {hl : ∀ x, (enc x).length = sz} {h1 : ∀ x, ∀ v ∈ enc x, v.oneCell' = true} (B : Nat) (w : World) : ∀ xs : List α, (Kind.pure sz enc hl h1).All B w xs (xs.map enc)
  | [] => trivial
  | x :: xs => ⟨rfl, pure_all B w xs⟩
theorem all_pure {α : Type} {sz : Nat} {enc : α → List Value} {hl : ∀ x, (enc x).length = sz} {h1 : ∀ x, ∀ v ∈ enc x, v.oneCell' = true} {B : Nat} {w : World} : ∀ {xs : List α} {css : List (List Value)}, (Kind.pure sz enc hl h1).All B w xs css → css = xs.map enc
  | [], [], _ => rfl
  | _ :: _, _ :: _, h => by rw [List.map_cons, ← all_pure h.2]; have := h.1; simp only [Kind.pure] at this; rw [this]
  | [], _ :: _, h => h.elim
  | _ :: _, [], h => h.elim
theorem byte_all (B : Nat) (w : World) (xs : List UInt8) : kByte.All B w xs (xs.map fun b => [cell b]) := pure_all B w xs
theorem hash_all (B : Nat) (w : World) (xs : List Hash) : kHash.All B w xs (xs.map hcs) := pure_all B w xs
theorem flat_single (xs : List UInt8) : (xs.map fun b => [cell b]).flatten = xs.map cell := by
  induction xs with
  | nil => rfl
  | cons x xs ih => simp [ih]
end Go.Proofs.Eng
