import Derived.Test.YtjbfgmkemideiaaP3
import Derived.Test.YtjbfgmkemideiaaE9
import Derived.Test.YtjbfgmkemideiaaS2
set_option linter.unusedVariables false
set_option linter.unusedSimpArgs false
namespace Go.Proofs.Eng
open Go.RowKit
section
variable {P : Program} {n : Nat} {f : Nat → Value} {w : World} {dst : Option Nat} {ty0 : TypeId} {pos : String} {aft : Array Edge} {gd : Option (Nat × Bool)} {T T' e : TypeId} {x y : Operand} {v : Value}
theorem x_ixval {len : Nat} (hu : P.underlying T = some (.array len e)) (hz : (P.info? e).map (·.size) = some 1) (hne : (P.underlying e).map TypeDesc.isRow = some false) {cs : Array Value} {k : IntKind} {i : Nat} (hx : ev n f x = .agg cs) (hy : ev n f y = .int k (i : Int)) (h1 : i < len) (hv : cs[i]? = some v) :
    Ex P w n f ⟨dst, .index T x y, ty0, pos, aft, gd⟩ v := by
  obtain ⟨ii, hi, hs⟩ := Option.map_eq_some_iff.1 hz
  obtain ⟨d, hd, hr⟩ := Option.map_eq_some_iff.1 hne
  have h2 : (i : Int) < (len : Int) := by omega
  have h0 : (0 : Int) ≤ (i : Int) := by omega
  unfold Ex execOp
  simp only [hx, hy]
  have key : (Instr.index T (.agg cs) (.int k (i : Int))).run P w = .ok v w := by
    simp [Instr.index, asIntOf, Sem.run_bind, run_underlying hu, h1, sizeOf, typeInfo, hi, hs, part, isAgg_f (w := w) hd hr, hv]
  simp only [Sem.run_bind, key, Result.andThen_ok, Sem.run_pure]
theorem x_add_str {s t : ByteArray} (hx : ev n f x = .string s) (hy : ev n f y = .string t) (hl : s.size + t.size ≤ 140737488355328) : Ex P w n f ⟨dst, .binOp .add T x y T', ty0, pos, aft, gd⟩ (.string (s ++ t)) :=
  ex_bin hx hy (guard_str s t) (by simp [binOp, Op.stringOp]; try omega)
end
/-! ### digits -/
def hexS : ByteArray := ⟨#[48, 49, 50, 51, 52, 53, 54, 55, 56, 57, 97, 98, 99, 100, 101, 102]⟩
def hexd (i : Nat) : UInt8 := btAt hexS i
def hex2 (b : UInt8) : List UInt8 := [hexd (b.toNat / 16), hexd (b.toNat % 16)]
def hexs (h : Hash) : List UInt8 := h.1.flatMap hex2
theorem hex_len : ∀ l : List UInt8, (l.flatMap hex2).length = 2 * l.length
  | [] => rfl
  | x :: l => by rw [List.flatMap_cons, List.length_append, hex_len l]; simp [hex2]; omega
theorem hexs_len (h : Hash) : (hexs h).length = 64 := by unfold hexs; rw [hex_len, h.2]
theorem shr4 (b : UInt8) : (b.toNat : Int).fdiv (2 ^ min (4 : Int).toNat IntKind.u8.bits) = ((b.toNat / 16 : Nat) : Int) := by
  show (b.toNat : Int).fdiv 16 = _
  rw [Int.fdiv_eq_ediv_of_nonneg _ (by omega)]
  omega
theorem and15 (b : UInt8) : bitsOf .and .u8 (b.toNat : Int) 15 = ((b.toNat % 16 : Nat) : Int) := by
  have hx : b.toNat < 256 := b.toNat_lt
  unfold bitsOf
  rw [wrap_u8]
  have key : ∀ r : Nat, r < 256 → (((BitVec.ofInt 8 (r : Int) &&& BitVec.ofInt 8 15).toNat : Int) % 256) = ((r % 16 : Nat) : Int) := by decide +kernel
  exact key _ hx
/-- The digits of a list, commas between. -/
def txtB : List Hash → List UInt8
  | [] => []
  | x :: r => hexs x ++ r.flatMap fun y => 44 :: hexs y
theorem txtB_snoc (l : List Hash) (x : Hash) : txtB (l ++ [x]) = if l = [] then hexs x else txtB l ++ (44 :: hexs x) := by
  cases l with
  | nil => simp [txtB]
  | cons y r => simp [txtB]
theorem flat65 : ∀ r : List Hash, (r.flatMap fun y => (44 : UInt8) :: hexs y).length = 65 * r.length
  | [] => rfl
  | x :: r => by rw [List.flatMap_cons, List.length_append, flat65 r]; simp [hexs_len]; omega
theorem txtB_len (l : List Hash) : (txtB l).length ≤ 65 * l.length := by
  cases l with
  | nil => simp [txtB]
  | cons y r => simp only [txtB, List.length_append, hexs_len, flat65, List.length_cons]; omega
def text (xs : List Hash) : ByteArray := if xs = [] then ⟨#[45]⟩ else toStr (txtB xs)
theorem toStr_append (a b : List UInt8) : toStr a ++ toStr b = toStr (a ++ b) := by
  unfold toStr
  apply ByteArray.ext
  simp [ByteArray.data_append]
theorem toStr_size (a : List UInt8) : (toStr a).size = a.length := by simp [toStr, ByteArray.size]
theorem toStr_data (a : List UInt8) : (toStr a).data.toList = a := by simp [toStr]
theorem getD_take_succ0 {l : List UInt8} {k : Nat} (h : k < l.length) : l.take (k + 1) = l.take k ++ [l.getD k 0] := by
  rw [List.take_succ_eq_append_getElem h, List.getD_eq_getElem?_getD, List.getElem?_eq_getElem h]; rfl
end Go.Proofs.Eng
