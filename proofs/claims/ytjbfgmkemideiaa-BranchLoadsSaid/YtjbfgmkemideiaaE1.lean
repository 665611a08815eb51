import Derived.Test.YtjbfgmkemideiaaE0
set_option linter.unusedVariables false
set_option linter.unusedSimpArgs false
namespace Go.Proofs.Eng
open Go.RowKit

section ops
variable {P : Program} {w : World} {n : Nat} {f : Nat → Value} {dst : Option Nat} {ty : TypeId} {pos : String} {aft : Array Edge} {gd : Option (Nat × Bool)}
variable {x y z : Operand} {v u : Value} {k : IntKind} {a b : Int} {T T' : TypeId}

theorem x_move (h : ev n f x = v) : Ex P w n f ⟨dst, .move x, ty, pos, aft, gd⟩ v := by subst h; rfl
theorem x_assign (h : ev n f x = v) : Ex P w n f ⟨dst, .assign x, ty, pos, aft, gd⟩ v := by subst h; rfl
theorem x_pick_t (hc : ev n f x = .bool true) (h : ev n f y = v) : Ex P w n f ⟨dst, .pick x y z, ty, pos, aft, gd⟩ v := by
  subst h; unfold Ex execOp; simp [hc, asBool]
theorem x_pick_f (hc : ev n f x = .bool false) (h : ev n f z = v) : Ex P w n f ⟨dst, .pick x y z, ty, pos, aft, gd⟩ v := by
  subst h; unfold Ex execOp; simp [hc, asBool]

theorem run_value (s : Sem Value) (h : s.run P w = .ok v w) : (do pure (.value (← s)) : Sem Next).run P w = .ok (.value v) w := by
  simp [Sem.run_bind, h]

theorem ex_bin {op : BinOp} {r : Value} (hx : ev n f x = v) (hy : ev n f y = u) (hg : (eqGuard op T x y v u).run P w = .ok () w) (h : (binOp op T v u).run P w = .ok r w) : Ex P w n f ⟨dst, .binOp op T x y T', ty, pos, aft, gd⟩ r := by
  unfold Ex execOp
  subst hx hy
  simp only [Sem.run_bind, hg, h, Result.andThen_ok]
  rfl
theorem guard_int {op : BinOp} (k k' : IntKind) : (eqGuard op T x y (.int k a) (.int k' b)).run P w = .ok () w := by cases op <;> rfl
theorem guard_str {op : BinOp} (s t : ByteArray) : (eqGuard op T x y (.string s) (.string t)).run P w = .ok () w := by cases op <;> rfl
theorem guard_bool {op : BinOp} (s t : Bool) : (eqGuard op T x y (.bool s) (.bool t)).run P w = .ok () w := by cases op <;> rfl
theorem guard_slice {op : BinOp} {p q : Option Addr} {l c l' c' : Nat} : (eqGuard op T x y (.slice p l c) (.slice q l' c')).run P w = .ok () w := by cases op <;> rfl
theorem guard_ptr {op : BinOp} {p q : Option Addr} : (eqGuard op T x y (.pointer p) (.pointer q)).run P w = .ok () w := by cases op <;> rfl
theorem guard_map {op : BinOp} {p q : Option Nat} : (eqGuard op T x y (.map p) (.map q)).run P w = .ok () w := by cases op <;> rfl

-- arithmetic, wrapped
theorem x_addw (hx : ev n f x = .int k a) (hy : ev n f y = .int k b) : Ex P w n f ⟨dst, .binOp .add T x y T', ty, pos, aft, gd⟩ (.int k (k.wrap (a + b))) :=
  ex_bin hx hy (guard_int k k) (by simp [binOp, Op.intArith])
theorem x_subw (hx : ev n f x = .int k a) (hy : ev n f y = .int k b) : Ex P w n f ⟨dst, .binOp .sub T x y T', ty, pos, aft, gd⟩ (.int k (k.wrap (a - b))) :=
  ex_bin hx hy (guard_int k k) (by simp [binOp, Op.intArith])
theorem x_mulw (hx : ev n f x = .int k a) (hy : ev n f y = .int k b) : Ex P w n f ⟨dst, .binOp .mul T x y T', ty, pos, aft, gd⟩ (.int k (k.wrap (a * b))) :=
  ex_bin hx hy (guard_int k k) (by simp [binOp, Op.intArith])

/-- the number fits. -/
def Fits (k : IntKind) (a : Int) : Prop := k.wrap a = a
theorem fits_i64 {a : Int} (h1 : -9223372036854775808 ≤ a) (h2 : a ≤ 9223372036854775807) : Fits .i64 a := by
  unfold Fits IntKind.wrap; simp [IntKind.bits, IntKind.signed, IntKind.max]; omega
theorem fits_u64 {a : Int} (h1 : 0 ≤ a) (h2 : a ≤ 18446744073709551615) : Fits .u64 a := by
  unfold Fits IntKind.wrap; simp [IntKind.bits, IntKind.signed, IntKind.max]; omega
theorem fits_u32 {a : Int} (h1 : 0 ≤ a) (h2 : a ≤ 4294967295) : Fits .u32 a := by
  unfold Fits IntKind.wrap; simp [IntKind.bits, IntKind.signed, IntKind.max]; omega
theorem fits_u8 {a : Int} (h1 : 0 ≤ a) (h2 : a ≤ 255) : Fits .u8 a := by
  unfold Fits IntKind.wrap; simp [IntKind.bits, IntKind.signed, IntKind.max]; omega
theorem fits_i32 {a : Int} (h1 : -2147483648 ≤ a) (h2 : a ≤ 2147483647) : Fits .i32 a := by
  unfold Fits IntKind.wrap; simp [IntKind.bits, IntKind.signed, IntKind.max]; omega
theorem x_add (hx : ev n f x = .int k a) (hy : ev n f y = .int k b) (h : Fits k (a + b)) : Ex P w n f ⟨dst, .binOp .add T x y T', ty, pos, aft, gd⟩ (.int k (a + b)) := by
  have := x_addw (P := P) (w := w) (dst := dst) (T := T) (T' := T') (ty := ty) (pos := pos) (aft := aft) (gd := gd) hx hy
  rwa [h] at this
theorem x_sub (hx : ev n f x = .int k a) (hy : ev n f y = .int k b) (h : Fits k (a - b)) : Ex P w n f ⟨dst, .binOp .sub T x y T', ty, pos, aft, gd⟩ (.int k (a - b)) := by
  have := x_subw (P := P) (w := w) (dst := dst) (T := T) (T' := T') (ty := ty) (pos := pos) (aft := aft) (gd := gd) hx hy
  rwa [h] at this
theorem x_mul (hx : ev n f x = .int k a) (hy : ev n f y = .int k b) (h : Fits k (a * b)) : Ex P w n f ⟨dst, .binOp .mul T x y T', ty, pos, aft, gd⟩ (.int k (a * b)) := by
  have := x_mulw (P := P) (w := w) (dst := dst) (T := T) (T' := T') (ty := ty) (pos := pos) (aft := aft) (gd := gd) hx hy
  rwa [h] at this
/-- '/' and '%' of numbers that are not below 0. -/
theorem x_quo (hx : ev n f x = .int k a) (hy : ev n f y = .int k b) (h0 : 0 ≤ a) (h1 : 0 < b) (h : Fits k (a / b)) : Ex P w n f ⟨dst, .binOp .quo T x y T', ty, pos, aft, gd⟩ (.int k (a / b)) :=
  ex_bin hx hy (guard_int k k) (by
    have hb : ¬ b = 0 := by omega
    have e : a.tdiv b = a / b := Int.tdiv_eq_ediv_of_nonneg h0
    simp only [binOp, ne_eq, not_true_eq_false, if_false, Op.intDiv, if_neg hb, e, Sem.run_pure]
    rw [h])
theorem x_rem (hx : ev n f x = .int k a) (hy : ev n f y = .int k b) (h0 : 0 ≤ a) (h1 : 0 < b) : Ex P w n f ⟨dst, .binOp .rem T x y T', ty, pos, aft, gd⟩ (.int k (a % b)) :=
  ex_bin hx hy (guard_int k k) (by
    have hb : ¬ b = 0 := by omega
    have e : a.tmod b = a % b := Int.tmod_eq_emod_of_nonneg h0
    simp [binOp, Op.intDiv, if_neg hb, e])
def bitsOf (op : BinOp) (k : IntKind) (a b : Int) : Int :=
  match op with
  | .and => k.wrap (BitVec.ofInt k.bits a &&& BitVec.ofInt k.bits b).toNat
  | .or => k.wrap (BitVec.ofInt k.bits a ||| BitVec.ofInt k.bits b).toNat
  | .xor => k.wrap (BitVec.ofInt k.bits a ^^^ BitVec.ofInt k.bits b).toNat
  | _ => k.wrap (BitVec.ofInt k.bits a &&& ~~~ BitVec.ofInt k.bits b).toNat
theorem x_and (hx : ev n f x = .int k a) (hy : ev n f y = .int k b) : Ex P w n f ⟨dst, .binOp .and T x y T', ty, pos, aft, gd⟩ (.int k (bitsOf .and k a b)) :=
  ex_bin hx hy (guard_int k k) (by simp [binOp, Op.intBits, bitsOf])
theorem x_or (hx : ev n f x = .int k a) (hy : ev n f y = .int k b) : Ex P w n f ⟨dst, .binOp .or T x y T', ty, pos, aft, gd⟩ (.int k (bitsOf .or k a b)) :=
  ex_bin hx hy (guard_int k k) (by simp [binOp, Op.intBits, bitsOf])
theorem x_xor (hx : ev n f x = .int k a) (hy : ev n f y = .int k b) : Ex P w n f ⟨dst, .binOp .xor T x y T', ty, pos, aft, gd⟩ (.int k (bitsOf .xor k a b)) :=
  ex_bin hx hy (guard_int k k) (by simp [binOp, Op.intBits, bitsOf])
theorem x_andNot (hx : ev n f x = .int k a) (hy : ev n f y = .int k b) : Ex P w n f ⟨dst, .binOp .andNot T x y T', ty, pos, aft, gd⟩ (.int k (bitsOf .andNot k a b)) :=
  ex_bin hx hy (guard_int k k) (by simp [binOp, Op.intBits, bitsOf])
theorem x_shl {k' : IntKind} (hx : ev n f x = .int k a) (hy : ev n f y = .int k' b) (h : 0 ≤ b) : Ex P w n f ⟨dst, .binOp .shl T x y T', ty, pos, aft, gd⟩ (.int k (k.wrap (a * 2 ^ min b.toNat k.bits))) :=
  ex_bin hx hy (guard_int k k') (by have h' : ¬ b < 0 := by omega
                                    simp [binOp, Op.shift, h'])
theorem x_shr {k' : IntKind} (hx : ev n f x = .int k a) (hy : ev n f y = .int k' b) (h : 0 ≤ b) : Ex P w n f ⟨dst, .binOp .shr T x y T', ty, pos, aft, gd⟩ (.int k (a.fdiv (2 ^ min b.toNat k.bits))) :=
  ex_bin hx hy (guard_int k k') (by have h' : ¬ b < 0 := by omega
                                    simp [binOp, Op.shift, h'])
-- comparisons of numbers
theorem x_lss (hx : ev n f x = .int k a) (hy : ev n f y = .int k b) : Ex P w n f ⟨dst, .binOp .lss T x y T', ty, pos, aft, gd⟩ (.bool (decide (a < b))) :=
  ex_bin hx hy (guard_int k k) (by simp [binOp, Op.intCmp])
theorem x_leq (hx : ev n f x = .int k a) (hy : ev n f y = .int k b) : Ex P w n f ⟨dst, .binOp .leq T x y T', ty, pos, aft, gd⟩ (.bool (decide (a ≤ b))) :=
  ex_bin hx hy (guard_int k k) (by simp [binOp, Op.intCmp])
theorem x_gtr (hx : ev n f x = .int k a) (hy : ev n f y = .int k b) : Ex P w n f ⟨dst, .binOp .gtr T x y T', ty, pos, aft, gd⟩ (.bool (decide (b < a))) :=
  ex_bin hx hy (guard_int k k) (by simp [binOp, Op.intCmp])
theorem x_geq (hx : ev n f x = .int k a) (hy : ev n f y = .int k b) : Ex P w n f ⟨dst, .binOp .geq T x y T', ty, pos, aft, gd⟩ (.bool (decide (b ≤ a))) :=
  ex_bin hx hy (guard_int k k) (by simp [binOp, Op.intCmp])
theorem x_eql (hx : ev n f x = .int k a) (hy : ev n f y = .int k b) : Ex P w n f ⟨dst, .binOp .eql T x y T', ty, pos, aft, gd⟩ (.bool (decide (a = b))) :=
  ex_bin hx hy (guard_int k k) (by
    simp only [binOp, ne_eq, not_true_eq_false, if_false, Op.intCmp, Sem.run_pure]
    congr 2)
theorem x_neq (hx : ev n f x = .int k a) (hy : ev n f y = .int k b) : Ex P w n f ⟨dst, .binOp .neq T x y T', ty, pos, aft, gd⟩ (.bool (decide (a ≠ b))) :=
  ex_bin hx hy (guard_int k k) (by
    simp only [binOp, ne_eq, not_true_eq_false, if_false, Op.intCmp, Sem.run_pure]
    congr 2
    by_cases h : a = b <;> simp [h])
theorem x_not {b : Bool} (hx : ev n f x = .bool b) : Ex P w n f ⟨dst, .unOp .not T x, ty, pos, aft, gd⟩ (.bool (!b)) := by
  unfold Ex execOp; simp [hx, Op.unary]
theorem x_notd {p : Prop} [Decidable p] (hx : ev n f x = .bool (decide p)) : Ex P w n f ⟨dst, .unOp .not T x, ty, pos, aft, gd⟩ (.bool (decide (¬ p))) := by
  unfold Ex execOp; simp [hx, Op.unary]
theorem x_neg (hx : ev n f x = .int k a) : Ex P w n f ⟨dst, .unOp .neg T x, ty, pos, aft, gd⟩ (.int k (k.wrap (0 - a))) := by
  unfold Ex execOp; simp [hx, Op.unary, Op.intArith]
-- texts
def lssB (s t : ByteArray) : Bool := Op.bytesLess s.toList t.toList
theorem beq_bytes (s t : ByteArray) : (s == t) = decide (s = t) := by
  obtain ⟨a⟩ := s
  obtain ⟨b⟩ := t
  show (a == b) = decide (ByteArray.mk a = ByteArray.mk b)
  by_cases h : a = b
  · subst h; simp
  · simp [h]
theorem x_eql_str {s t : ByteArray} (hx : ev n f x = .string s) (hy : ev n f y = .string t) : Ex P w n f ⟨dst, .binOp .eql T x y T', ty, pos, aft, gd⟩ (.bool (decide (s = t))) :=
  ex_bin hx hy (guard_str s t) (by simp [binOp, Op.stringOp, ← beq_toListBytes, beq_bytes])
theorem x_neq_str {s t : ByteArray} (hx : ev n f x = .string s) (hy : ev n f y = .string t) : Ex P w n f ⟨dst, .binOp .neq T x y T', ty, pos, aft, gd⟩ (.bool (decide (s ≠ t))) :=
  ex_bin hx hy (guard_str s t) (by
    have e : (s != t) = decide (s ≠ t) := by
      unfold bne
      rw [beq_bytes]
      by_cases h : s = t <;> simp [h]
    simp [binOp, Op.stringOp, ← beq_toListBytes, beq_bytes])
theorem x_lss_str {s t : ByteArray} (hx : ev n f x = .string s) (hy : ev n f y = .string t) : Ex P w n f ⟨dst, .binOp .lss T x y T', ty, pos, aft, gd⟩ (.bool (lssB s t)) :=
  ex_bin hx hy (guard_str s t) (by simp [binOp, Op.stringOp, lssB])
theorem x_geq_str {s t : ByteArray} (hx : ev n f x = .string s) (hy : ev n f y = .string t) : Ex P w n f ⟨dst, .binOp .geq T x y T', ty, pos, aft, gd⟩ (.bool (!lssB s t)) :=
  ex_bin hx hy (guard_str s t) (by simp [binOp, Op.stringOp, lssB])
theorem x_conv {k' : IntKind} (hT : P.underlying T' = some (.int k')) (hs : (P.underlying T).isSome = true) (hx : ev n f x = .int k a) : Ex P w n f ⟨dst, .convert T T' x, ty, pos, aft, gd⟩ (.int k' (k'.wrap a)) := by
  obtain ⟨d, hd⟩ := Option.isSome_iff_exists.1 hs
  unfold Ex execOp; simp [hx, convert, run_underlying hT, run_underlying hd, Sem.run_bind, Conv.intToInt]
theorem x_convf {k' : IntKind} (hT : P.underlying T' = some (.int k')) (hs : (P.underlying T).isSome = true) (hx : ev n f x = .int k a) (h : Fits k' a) : Ex P w n f ⟨dst, .convert T T' x, ty, pos, aft, gd⟩ (.int k' a) := by
  have := x_conv (P := P) (w := w) (dst := dst) (ty := ty) (pos := pos) (aft := aft) (gd := gd) hT hs hx
  rwa [h] at this
theorem x_extract {vs : Array Value} {i : Nat} (hx : ev n f x = .tuple vs) (h : vs[i]? = some v) : Ex P w n f ⟨dst, .extract x i, ty, pos, aft, gd⟩ v := by
  unfold Ex execOp; simp [hx, Instr.extract, h]
theorem x_len_slice {p : Option Addr} {l c : Nat} {e : TypeId} (hT : P.underlying T = some (.slice e)) (hx : ev n f x = .slice p l c) : Ex P w n f ⟨dst, .call ⟨.builtin .len, #[x], #[T]⟩, ty, pos, aft, gd⟩ (.int .i64 (l : Int)) := by
  unfold Ex execOp; simp [resolve, invoke, builtin, hx, Builtin.len_, run_underlying hT, Sem.run_bind, goInt]
theorem x_len_str {s : ByteArray} (hT : P.underlying T = some .string) (hx : ev n f x = .string s) : Ex P w n f ⟨dst, .call ⟨.builtin .len, #[x], #[T]⟩, ty, pos, aft, gd⟩ (.int .i64 (s.size : Int)) := by
  unfold Ex execOp; simp [resolve, invoke, builtin, hx, Builtin.len_, run_underlying hT, Sem.run_bind, goInt]
end ops
end Go.Proofs.Eng
