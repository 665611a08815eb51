import Derived.WalkKit
import Derived.WalkSpells
import Derived.WalkLawsBesides
import Derived.StillTailTactics
import Derived.Deep.MidRow
import Derived.Stop.BytesEq
import Derived.OrdersHeld
import Derived.KernelRfl
import Derived.Deep.AppendSrc
import Derived.Deep.DeepAppendWide
import Derived.ProofKit
import Derived.OpenShut
import Derived.JoinedCond
import Derived.WideKeyArgs
import Derived.SizedLaws
import Derived.RowKitTokens
import Derived.ChangeMaps5
import Derived.Deep.Slices
import Derived.Lib.SliceRun
import Derived.Laws.Cover3
import Derived.Laws.Small
import Derived.Laws.Pointers
import Derived.RangeFuncNested
import Derived.RangeFuncBound
import Derived.RangeFuncCalls
import Derived.RangeFuncLeaves
import Derived.Laws.IdiomCopy
import Derived.Laws.MakeOwn
import Derived.Lib.AppendZerosOnto
import Derived.Laws.ResultCell
import Derived.Laws.Externs
import Derived.Deep.Upon
set_option linter.unusedVariables false
set_option linter.unusedSimpArgs false
set_option linter.unusedSectionVars false
section
namespace Go.Proofs.Eng
open Go.RowKit
open Extern.Stop (cell)
theorem dA {p:Prop} [Decidable p]:(decide p=true)=p:=decide_eq_true_eq
theorem dB {p:Prop} [Decidable p]:(decide p=false)↔¬ p:=decide_eq_false_iff_not
theorem dC (b:Bool):(¬ b=true)=(b=false):=Bool.not_eq_true b
theorem dD (b:Bool):(¬ b=false)=(b=true):=Bool.not_eq_false b
theorem dE {a b:Bool}:((!a)=b)↔(a = !b):=Bool.not_eq_eq_eq_not
theorem dF:(!true)=false:=Bool.not_true
theorem dG:(!false)=true:=Bool.not_false
def sp:Nat:=1000000007
def upd (f:Nat→Value) (d:Nat) (v:Value):Nat→Value:=fun t=>bif Nat.beq t d then (bif Nat.beq d sp then f t else v) else f t
def updR (f:Nat→Value) (d:Nat) (v:Value):Nat→Value:=fun t=>bif Nat.beq t d then v else f t
def dec1:Value→Deferred
  | .int _ k=>{ target := .collected k.toNat,args:=#[] }
  | .func g first captured=>{ target := .fn g captured,args:=first }
  | _=>{ target := .nil,args:=#[] }
def decD:Value→List Deferred
  | .tuple vs=>vs.toList.map dec1
  | _=>[]
def fr (n:Nat) (f:Nat→Value):Act:=⟨Array.ofFn (fun i:Fin (min n sp)=>f i),decD (f sp)⟩
def ev (n:Nat) (f:Nat→Value):Operand→Value
  | .tmp t=>bif (Nat.blt t n && Nat.blt t sp) then f t else undef
  | .const v=>v
  | .global g => .pointer (some ⟨g,0,none⟩)
  | .func g => .func (.func g) #[] #[]
theorem Vf {a b:Nat} (h:a<b):Nat.blt a b=true:=by rw[Nat.blt_eq];exact h
theorem Vg {a b:Nat} (h:¬ a<b):Nat.blt a b=false:=by
  cases hb:Nat.blt a b
  · rfl
  · rw[Nat.blt_eq] at hb;exact absurd hb h
theorem Qc {a b:Nat} (h:¬ a=b):Nat.beq a b=false:=by
  cases hb:Nat.beq a b
  · rfl
  · exact absurd (Nat.eq_of_beq_eq_true hb) h
theorem U4 {n:Nat} {f:Nat→Value} {t:Nat} (h:t<min n sp):ev n f (.tmp t)=f t:=by
  show (bif (Nat.blt t n && Nat.blt t sp) then f t else undef)=f t
  rw[Vf (by omega:t<n),Vf (by omega:t<sp)];rfl
theorem X4 {n:Nat} {f:Nat→Value} {t:Nat} (h:¬ t<min n sp):ev n f (.tmp t)=undef:=by
  show (bif (Nat.blt t n && Nat.blt t sp) then f t else undef)=undef
  by_cases h1:t<n
  · rw[Vg (by omega:¬ t<sp),Bool.and_false];rfl
  · rw[Vg h1,Bool.false_and];rfl
theorem Ic (n:Nat) (f:Nat→Value) (t:Nat):(fr n f).tmps[t]? = if t<min n sp then some (f t) else none:=by
  show (Array.ofFn (fun i:Fin (min n sp)=>f i))[t]? = _
  rw[Array.getElem?_ofFn]
  by_cases h:t<min n sp <;> simp only[h,dif_pos,if_pos,dif_neg,if_neg,not_false_eq_true]
theorem Bn (n:Nat) (f:Nat→Value):(fr n f).eval=ev n f:=by
  funext x
  cases x with
  | tmp t =>
    have h:(fr n f).eval (.tmp t)=((fr n f).tmps[t]?).getD undef:=by simp[Act.eval]
    rw[h,Ic]
    by_cases ht:t<min n sp
    · rw[U4 ht,if_pos ht];rfl
    · rw[X4 ht,if_neg ht];rfl
  | const v=>rfl
  | global g=>rfl
  | func g=>rfl
theorem Vq (f:Nat→Value) (d:Nat) (v:Value) (hd:¬ d=sp):upd f d v d=v:=by
  show (bif Nat.beq d d then (bif Nat.beq d sp then f d else v) else f d)=v
  rw[Nat.beq_refl,Qc hd];rfl
theorem Kw {f:Nat→Value} {d:Nat} {v:Value} {t:Nat} (h:¬ t=d):upd f d v t=f t:=by
  show (bif Nat.beq t d then _ else f t)=f t
  rw[Qc h];rfl
theorem Vp (f:Nat→Value) (d:Nat) (v:Value):upd f d v sp=f sp:=by
  by_cases h:sp=d
  · subst h
    show (bif Nat.beq sp sp then (bif Nat.beq sp sp then f sp else v) else f sp)=f sp
    rw[Nat.beq_refl];rfl
  · exact Kw h
theorem Jv (f:Nat→Value) (d:Nat) (v:Value):updR f d v d=v:=by
  show (bif Nat.beq d d then v else f d)=v
  rw[Nat.beq_refl];rfl
theorem K6 {f:Nat→Value} {d:Nat} {v:Value} {t:Nat} (h:¬ t=d):updR f d v t=f t:=by
  show (bif Nat.beq t d then v else f t)=f t
  rw[Qc h];rfl
theorem Du (n:Nat) (f:Nat→Value) (d:Nat) (v:Value):(fr n f).put (some d) v=fr n (upd f d v):=by
  unfold fr Act.put
  simp only[Act.mk.injEq,Vp,and_true]
  apply Array.ext (by simp)
  intro i h1 h2
  have hi:i<min n sp:=by simpa using h2
  simp only[Array.getElem_ofFn]
  by_cases h:d=i
  · subst h;rw[Vq _ _ _ (by omega)];simp
  · rw [Kw (fun e => h e.symm)]
    have e:((Array.ofFn (fun i:Fin (min n sp)=>f i)).setIfInBounds d v)[i]? = some (f i):=by rw[Array.getElem?_setIfInBounds_ne h,Array.getElem?_ofFn,dif_pos hi]
    rw[Array.getElem?_eq_getElem (by simpa using hi)] at e
    exact Option.some.inj e
theorem T9 (n:Nat) (f:Nat→Value) (v:Value):(fr n f).put none v=fr n f:=rfl
theorem Gx (n:Nat) (f:Nat→Value):(fr n f).defers=decD (f sp):=rfl
theorem L1 {P:Program} {g:FuncId} {fn:Func} {c:Code} {w:World} {R:Ending→World→Prop} (n:Nat) (vs:List Value)
    (hf:P.funcs[g]? = some fn) (hb:fn.body=some c) (hn:fn.ntmps=n) (hl:vs.length≤min n sp) (hn2:min n sp=n)
    (h:c.wp P (bodyPost P fn R) (fr n (fun t=>vs.getD t undef)) w):Calls P g vs.toArray w R:=by
  refine calls_of_wp hf hb ?_
  subst hn
  have e:({ tmps:=vs.toArray++Array.replicate (fn.ntmps - vs.toArray.size) undef,defers:=[] }:Act)=fr fn.ntmps (fun t=>vs.getD t undef):=by
    unfold fr
    have hD:decD (vs.getD sp undef)=[]:=by
      rw[List.getD_eq_getElem?_getD,List.getElem?_eq_none (by omega)];rfl
    rw[hD]
    congr 1
    apply Array.ext (by simp only[Array.size_append,List.size_toArray,Array.size_replicate,Array.size_ofFn];omega)
    intro i h1 h2
    simp only[Array.getElem_ofFn,Array.getElem_append,List.size_toArray]
    by_cases hi:i<vs.length
    · simp[hi]
    · simp[hi]
  rw[e];exact h
structure Ret (P:Program) (g:FuncId) (vs:List Value) (w:World) (R:Value→World→Prop):Prop where
  mk :: (out:Calls P g vs.toArray w fun e w'=>∃ v,e = .returned v∧R v w')
structure Wp (P:Program) (c:Code) (Q:Exit→Act→World→Prop) (a:Act) (w:World):Prop where
  mk :: (out:c.wp P Q a w)
structure Lst (P:Program) (ops:Array Oper) (Q:Exit→Act→World→Prop) (l:List Oper) (a:Act) (w:World):Prop where
  mk :: (out:wpList P ops Q l a w)
structure St (P:Program) (ops:Array Oper) (w:World) (K:Act→Prop) (l:List Oper) (a:Act):Prop where
  mk :: (out:wpStill P ops w K l a)
structure End (P:Program) (fn:Func) (R:Value→World→Prop) (e:Exit) (a:Act) (w:World):Prop where
  mk :: (out:bodyPost P fn (fun e w'=>∃ v,e = .returned v∧R v w') e a w)
theorem enter {P:Program} {g:FuncId} {fn:Func} {c:Code} {w:World} {R:Value→World→Prop} (n:Nat) (vs:List Value)
    (hf:P.funcs[g]? = some fn) (hb:fn.body=some c) (hn:fn.ntmps=n) (hl:vs.length≤min n sp) (hn2:min n sp=n)
    (h:Wp P c (End P fn R) (fr n (fun t=>vs.getD t undef)) w):Ret P g vs w R:=⟨L1 n vs hf hb hn hl hn2 (wp_mono h.out fun _ _ _ k=>k.out)⟩
theorem end1 {P:Program} {fn:Func} {R:Value→World→Prop} {n:Nat} {f:Nat→Value} {w:World} {t:Nat} {v:Value} (hr:fn.results=#[.tmp t]) (hv:ev n f (.tmp t)=v) (h:R v w) (hd:decD (f sp)=[]:=by rfl) :
    End P fn R .ret (fr n f) w:=by
  refine⟨bodyPost_ret (results_tmp hr _ _ _) hd ⟨v,?_,h⟩⟩
  rw[← hv,← Bn];rfl
theorem end2 {P:Program} {fn:Func} {R:Value→World→Prop} {n:Nat} {f:Nat→Value} {w:World} {t u:Nat} {v x:Value} (hr:fn.results=#[.tmp t,.tmp u]) (hv:ev n f (.tmp t)=v) (hx:ev n f (.tmp u)=x)
    (h:R (.tuple #[v,x]) w) (hd:decD (f sp)=[]:=by rfl):End P fn R .ret (fr n f) w:=by
  refine⟨bodyPost_ret (results_tmp2 hr _ _ _) hd ⟨_,rfl,?_⟩⟩
  have e1:(fr n f).tmps.getD t undef=v:=by rw[← hv,← Bn];rfl
  have e2:(fr n f).tmps.getD u undef=x:=by rw[← hx,← Bn];rfl
  rw[e1,e2];exact h
theorem end3 {P:Program} {fn:Func} {R:Value→World→Prop} {n:Nat} {f:Nat→Value} {w:World} {t u s:Nat} {v x y:Value} (hr:fn.results=#[.tmp t,.tmp u,.tmp s]) (hv:ev n f (.tmp t)=v) (hx:ev n f (.tmp u)=x) (hy:ev n f (.tmp s)=y)
    (h:R (.tuple #[v,x,y]) w) (hd:decD (f sp)=[]:=by rfl):End P fn R .ret (fr n f) w:=by
  refine⟨bodyPost_ret (v := .tuple #[v,x,y]) ?_ hd ⟨_,rfl,h⟩⟩
  have e1:(fr n f).tmps[t]?.getD undef=v:=by rw[← hv,← Bn];simp[Act.eval]
  have e2:(fr n f).tmps[u]?.getD undef=x:=by rw[← hx,← Bn];simp[Act.eval]
  have e3:(fr n f).tmps[s]?.getD undef=y:=by rw[← hy,← Bn];simp[Act.eval]
  simp[results,hr,e1,e2,e3]
theorem end0 {P:Program} {fn:Func} {R:Value→World→Prop} {n:Nat} {f:Nat→Value} {w:World} (hr:fn.results=#[]) (h:R (.tuple #[]) w) (hd:decD (f sp)=[]:=by rfl):End P fn R .ret (fr n f) w :=
  ⟨bodyPost_ret (results_none hr _ _ _) hd ⟨_,rfl,h⟩⟩
theorem end0n {P:Program} {fn:Func} {R:Value→World→Prop} {n:Nat} {f:Nat→Value} {w:World} (hr:fn.results=#[]) (h:R (.tuple #[]) w) (hd:decD (f sp)=[]:=by rfl):End P fn R .normal (fr n f) w :=
  ⟨bodyPost_end (results_none hr _ _ _) hd ⟨_,rfl,h⟩⟩
def Ex (P:Program) (w:World) (n:Nat) (f:Nat→Value) (o:Oper) (v:Value):Prop:=(execOp (ev n f) o).run P w = .ok (.value v) w
section steps
variable {P : Program} {ops : Array Oper} {Q : Exit → Act → World → Prop} {rest : List Oper} {n : Nat} {f : Nat → Value} {w : World}
variable {op : Op} {ty : TypeId} {pos : String} {aft : Array Edge} {d : Nat} {v : Value}
theorem p1 (h:Ex P w n f ⟨some d,op,ty,pos,aft,none⟩ v) (k:Lst P ops Q rest (fr n (upd f d v)) w):Lst P ops Q (⟨some d,op,ty,pos,aft,none⟩ :: rest) (fr n f) w :=
  ⟨wpList_plain rfl fun K hK=>by
    unfold Oper.wp
    rw[Bn,h,Oper.upon_value,Du]
    exact hK _ _ k.out⟩
theorem p1b {b:Bool} (h:Ex P w n f ⟨some d,op,ty,pos,aft,none⟩ (.bool b)) (kt:b=true→Lst P ops Q rest (fr n (upd f d (.bool true))) w) (kf:b=false→Lst P ops Q rest (fr n (upd f d (.bool false))) w) :
    Lst P ops Q (⟨some d,op,ty,pos,aft,none⟩ :: rest) (fr n f) w:=p1 h (by cases b;exact kf rfl;exact kt rfl)
theorem Ju {j:Nat} {want:Bool} {d':Nat} {dst:Option Nat} (hd:(ops[j]?).bind (·.dst)=some d') (hv:ev n f (.tmp d') = .bool want) :
    Region.wanted ⟨dst,op,ty,pos,aft,some (j,want)⟩ (yielded ops (fr n f).tmps)=true:=by
  have h2:(fr n f).tmps[d']? = some (.bool want):=by
    rw[Ic]
    by_cases ht:d'<min n sp
    · rw[U4 ht] at hv;rw[if_pos ht,hv]
    · rw[X4 ht] at hv;cases hv
  simp[Region.wanted,yielded,hd,h2]
theorem M8 {j:Nat} {want:Bool} {d':Nat} {dst:Option Nat} (hd:(ops[j]?).bind (·.dst)=some d') (hv:ev n f (.tmp d') = .bool (!want)∨ev n f (.tmp d')=undef) :
    Region.wanted ⟨dst,op,ty,pos,aft,some (j,want)⟩ (yielded ops (fr n f).tmps)=false:=by
  have h2:(fr n f).tmps[d']? = some (.bool (!want))∨(fr n f).tmps[d']? = some undef∨(fr n f).tmps[d']? = none:=by
    rw[Ic]
    by_cases ht:d'<min n sp
    · rw[U4 ht] at hv;rw[if_pos ht];rcases hv with hv | hv <;> simp[hv]
    · exact .inr (.inr (if_neg ht))
  rcases h2 with h2 | h2 | h2 <;> simp[Region.wanted,yielded,hd,h2,undef]
theorem g1 {j:Nat} {want:Bool} (d':Nat) (hd:(ops[j]?).bind (·.dst)=some d') (hv:ev n f (.tmp d') = .bool want) (h:Ex P w n f ⟨some d,op,ty,pos,aft,some (j,want)⟩ v)
    (k:Lst P ops Q rest (fr n (upd f d v)) w):Lst P ops Q (⟨some d,op,ty,pos,aft,some (j,want)⟩ :: rest) (fr n f) w :=
  ⟨wpList_step fun K hK=>by
    rw[if_pos (Ju hd hv)]
    unfold Oper.wp
    rw[Bn,h,Oper.upon_value,Du]
    exact hK _ _ k.out⟩
theorem g1b {j:Nat} {want b:Bool} (d':Nat) (hd:(ops[j]?).bind (·.dst)=some d') (hv:ev n f (.tmp d') = .bool want) (h:Ex P w n f ⟨some d,op,ty,pos,aft,some (j,want)⟩ (.bool b))
    (kt:b=true→Lst P ops Q rest (fr n (upd f d (.bool true))) w) (kf:b=false→Lst P ops Q rest (fr n (upd f d (.bool false))) w):Lst P ops Q (⟨some d,op,ty,pos,aft,some (j,want)⟩ :: rest) (fr n f) w :=
  g1 d' hd hv h (by cases b;exact kf rfl;exact kt rfl)
theorem g0 {j:Nat} {want:Bool} (d':Nat) (hd:(ops[j]?).bind (·.dst)=some d') (hv:ev n f (.tmp d') = .bool (!want)∨ev n f (.tmp d')=undef)
    (k:Lst P ops Q rest (fr n (upd f d undef)) w):Lst P ops Q (⟨some d,op,ty,pos,aft,some (j,want)⟩ :: rest) (fr n f) w :=
  ⟨wpList_step fun K hK=>by
    rw[if_neg (by rw[M8 hd hv];simp),Du]
    exact hK _ _ k.out⟩
end steps
section ops
variable {P : Program} {w : World} {n : Nat} {f : Nat → Value} {dst : Option Nat} {ty : TypeId} {pos : String} {aft : Array Edge} {gd : Option (Nat × Bool)}
variable {x y z : Operand} {v u : Value} {k : IntKind} {a b : Int} {T T' : TypeId}
theorem Af (h:ev n f x=v):Ex P w n f ⟨dst,.move x,ty,pos,aft,gd⟩ v:=by subst h;rfl
theorem Ah (h:ev n f x=v):Ex P w n f ⟨dst,.assign x,ty,pos,aft,gd⟩ v:=by subst h;rfl
theorem Ax (hc:ev n f x = .bool true) (h:ev n f y=v):Ex P w n f ⟨dst,.pick x y z,ty,pos,aft,gd⟩ v:=by
  subst h;unfold Ex execOp;simp[hc,asBool]
theorem Au (hc:ev n f x = .bool false) (h:ev n f z=v):Ex P w n f ⟨dst,.pick x y z,ty,pos,aft,gd⟩ v:=by
  subst h;unfold Ex execOp;simp[hc,asBool]
theorem Mb (s:Sem Value) (h:s.run P w = .ok v w):(do pure (.value (← s)):Sem Next).run P w = .ok (.value v) w:=by
  simp[Sem.run_bind,h]
theorem Ci {op:BinOp} {r:Value} (hx:ev n f x=v) (hy:ev n f y=u) (hg:(eqGuard op T x y v u).run P w = .ok () w) (h:(binOp op T v u).run P w = .ok r w):Ex P w n f ⟨dst,.binOp op T x y T',ty,pos,aft,gd⟩ r:=by
  unfold Ex execOp
  subst hx hy
  simp only[Sem.run_bind,hg,h,Result.andThen_ok]
  rfl
theorem Cf {op:BinOp} (k k':IntKind):(eqGuard op T x y (.int k a) (.int k' b)).run P w = .ok () w:=by cases op <;> rfl
theorem H7 {op:BinOp} (s t:ByteArray):(eqGuard op T x y (.string s) (.string t)).run P w = .ok () w:=by cases op <;> rfl
theorem Pm {op:BinOp} (s t:Bool):(eqGuard op T x y (.bool s) (.bool t)).run P w = .ok () w:=by cases op <;> rfl
theorem Uv {op:BinOp} {p q:Option Addr} {l c l' c':Nat}:(eqGuard op T x y (.slice p l c) (.slice q l' c')).run P w = .ok () w:=by cases op <;> rfl
theorem Rv {op:BinOp} {p q:Option Addr}:(eqGuard op T x y (.pointer p) (.pointer q)).run P w = .ok () w:=by cases op <;> rfl
-- arithmetic, wrapped
theorem C8 (hx:ev n f x = .int k a) (hy:ev n f y = .int k b):Ex P w n f ⟨dst,.binOp .add T x y T',ty,pos,aft,gd⟩ (.int k (k.wrap (a+b))) :=
  Ci hx hy (Cf k k) (by simp[binOp,Op.intArith])
theorem Ad8 (hx:ev n f x = .int k a) (hy:ev n f y = .int k b):Ex P w n f ⟨dst,.binOp .sub T x y T',ty,pos,aft,gd⟩ (.int k (k.wrap (a - b))) :=
  Ci hx hy (Cf k k) (by simp[binOp,Op.intArith])
theorem Zq (hx:ev n f x = .int k a) (hy:ev n f y = .int k b):Ex P w n f ⟨dst,.binOp .mul T x y T',ty,pos,aft,gd⟩ (.int k (k.wrap (a * b))) :=
  Ci hx hy (Cf k k) (by simp[binOp,Op.intArith])
def Fits (k:IntKind) (a:Int):Prop:=k.wrap a=a
theorem Am {a:Int} (h1:-9223372036854775808≤a) (h2:a≤9223372036854775807):Fits .i64 a:=by
  unfold Fits IntKind.wrap;simp[IntKind.bits,IntKind.signed,IntKind.max];omega
theorem Ct {a:Int} (h1:0≤a) (h2:a≤18446744073709551615):Fits .u64 a:=by
  unfold Fits IntKind.wrap;simp[IntKind.bits,IntKind.signed,IntKind.max];omega
theorem F9 {a:Int} (h1:0≤a) (h2:a≤4294967295):Fits .u32 a:=by
  unfold Fits IntKind.wrap;simp[IntKind.bits,IntKind.signed,IntKind.max];omega
theorem Lx {a:Int} (h1:0≤a) (h2:a≤255):Fits .u8 a:=by
  unfold Fits IntKind.wrap;simp[IntKind.bits,IntKind.signed,IntKind.max];omega
theorem A0 (hx:ev n f x = .int k a) (hy:ev n f y = .int k b) (h:Fits k (a+b)):Ex P w n f ⟨dst,.binOp .add T x y T',ty,pos,aft,gd⟩ (.int k (a+b)):=by
  have:=C8 (P:=P) (w:=w) (dst:=dst) (T:=T) (T':=T') (ty:=ty) (pos:=pos) (aft:=aft) (gd:=gd) hx hy
  rwa [h] at this
theorem Dg (hx:ev n f x = .int k a) (hy:ev n f y = .int k b) (h:Fits k (a - b)):Ex P w n f ⟨dst,.binOp .sub T x y T',ty,pos,aft,gd⟩ (.int k (a - b)):=by
  have:=Ad8 (P:=P) (w:=w) (dst:=dst) (T:=T) (T':=T') (ty:=ty) (pos:=pos) (aft:=aft) (gd:=gd) hx hy
  rwa [h] at this
theorem Iy (hx:ev n f x = .int k a) (hy:ev n f y = .int k b) (h:Fits k (a * b)):Ex P w n f ⟨dst,.binOp .mul T x y T',ty,pos,aft,gd⟩ (.int k (a * b)):=by
  have:=Zq (P:=P) (w:=w) (dst:=dst) (T:=T) (T':=T') (ty:=ty) (pos:=pos) (aft:=aft) (gd:=gd) hx hy
  rwa [h] at this
theorem Tl (hx:ev n f x = .int k a) (hy:ev n f y = .int k b) (h0:0≤a) (h1:0<b) (h:Fits k (a / b)):Ex P w n f ⟨dst,.binOp .quo T x y T',ty,pos,aft,gd⟩ (.int k (a / b)) :=
  Ci hx hy (Cf k k) (by
    have hb:¬ b=0:=by omega
    have e:a.tdiv b=a / b:=Int.tdiv_eq_ediv_of_nonneg h0
    simp only[binOp,ne_eq,not_true_eq_false,if_false,Op.intDiv,if_neg hb,e,Sem.run_pure]
    rw[h])
theorem Kl (hx:ev n f x = .int k a) (hy:ev n f y = .int k b) (h0:0≤a) (h1:0<b):Ex P w n f ⟨dst,.binOp .rem T x y T',ty,pos,aft,gd⟩ (.int k (a % b)) :=
  Ci hx hy (Cf k k) (by
    have hb:¬ b=0:=by omega
    have e:a.tmod b=a % b:=Int.tmod_eq_emod_of_nonneg h0
    simp[binOp,Op.intDiv,if_neg hb,e])
def Cu (op:BinOp) (k:IntKind) (a b:Int):Int :=
  match op with
  | .and=>k.wrap (BitVec.ofInt k.bits a &&& BitVec.ofInt k.bits b).toNat
  | .or=>k.wrap (BitVec.ofInt k.bits a ||| BitVec.ofInt k.bits b).toNat
  | .xor=>k.wrap (BitVec.ofInt k.bits a ^^^ BitVec.ofInt k.bits b).toNat
  | _=>k.wrap (BitVec.ofInt k.bits a &&& ~~~ BitVec.ofInt k.bits b).toNat
theorem Iz (hx:ev n f x = .int k a) (hy:ev n f y = .int k b):Ex P w n f ⟨dst,.binOp .and T x y T',ty,pos,aft,gd⟩ (.int k (Cu .and k a b)) :=
  Ci hx hy (Cf k k) (by simp[binOp,Op.intBits,Cu])
theorem Tm (hx:ev n f x = .int k a) (hy:ev n f y = .int k b):Ex P w n f ⟨dst,.binOp .or T x y T',ty,pos,aft,gd⟩ (.int k (Cu .or k a b)) :=
  Ci hx hy (Cf k k) (by simp[binOp,Op.intBits,Cu])
theorem Ef (hx:ev n f x = .int k a) (hy:ev n f y = .int k b):Ex P w n f ⟨dst,.binOp .xor T x y T',ty,pos,aft,gd⟩ (.int k (Cu .xor k a b)) :=
  Ci hx hy (Cf k k) (by simp[binOp,Op.intBits,Cu])
theorem Z0 (hx:ev n f x = .int k a) (hy:ev n f y = .int k b):Ex P w n f ⟨dst,.binOp .andNot T x y T',ty,pos,aft,gd⟩ (.int k (Cu .andNot k a b)) :=
  Ci hx hy (Cf k k) (by simp[binOp,Op.intBits,Cu])
theorem M1 {k':IntKind} (hx:ev n f x = .int k a) (hy:ev n f y = .int k' b) (h:0≤b):Ex P w n f ⟨dst,.binOp .shl T x y T',ty,pos,aft,gd⟩ (.int k (k.wrap (a * 2 ^ min b.toNat k.bits))) :=
  Ci hx hy (Cf k k') (by have h' : ¬ b < 0 := by omega
                         simp[binOp,Op.shift,h'])
theorem Fa {k':IntKind} (hx:ev n f x = .int k a) (hy:ev n f y = .int k' b) (h:0≤b):Ex P w n f ⟨dst,.binOp .shr T x y T',ty,pos,aft,gd⟩ (.int k (a.fdiv (2 ^ min b.toNat k.bits))) :=
  Ci hx hy (Cf k k') (by have h' : ¬ b < 0 := by omega
                         simp[binOp,Op.shift,h'])
-- comparisons of numbers
theorem Bi (hx:ev n f x = .int k a) (hy:ev n f y = .int k b):Ex P w n f ⟨dst,.binOp .lss T x y T',ty,pos,aft,gd⟩ (.bool (decide (a<b))) :=
  Ci hx hy (Cf k k) (by simp[binOp,Op.intCmp])
theorem Ad1 (hx:ev n f x = .int k a) (hy:ev n f y = .int k b):Ex P w n f ⟨dst,.binOp .leq T x y T',ty,pos,aft,gd⟩ (.bool (decide (a≤b))) :=
  Ci hx hy (Cf k k) (by simp[binOp,Op.intCmp])
theorem Cw (hx:ev n f x = .int k a) (hy:ev n f y = .int k b):Ex P w n f ⟨dst,.binOp .gtr T x y T',ty,pos,aft,gd⟩ (.bool (decide (b<a))) :=
  Ci hx hy (Cf k k) (by simp[binOp,Op.intCmp])
theorem M4 (hx:ev n f x = .int k a) (hy:ev n f y = .int k b):Ex P w n f ⟨dst,.binOp .geq T x y T',ty,pos,aft,gd⟩ (.bool (decide (b≤a))) :=
  Ci hx hy (Cf k k) (by simp[binOp,Op.intCmp])
theorem Bw (hx:ev n f x = .int k a) (hy:ev n f y = .int k b):Ex P w n f ⟨dst,.binOp .eql T x y T',ty,pos,aft,gd⟩ (.bool (decide (a=b))) :=
  Ci hx hy (Cf k k) (by
    simp only[binOp,ne_eq,not_true_eq_false,if_false,Op.intCmp,Sem.run_pure]
    congr 2)
theorem A2 (hx:ev n f x = .int k a) (hy:ev n f y = .int k b):Ex P w n f ⟨dst,.binOp .neq T x y T',ty,pos,aft,gd⟩ (.bool (decide (a≠b))) :=
  Ci hx hy (Cf k k) (by
    simp only[binOp,ne_eq,not_true_eq_false,if_false,Op.intCmp,Sem.run_pure]
    congr 2
    by_cases h:a=b <;> simp[h])
theorem Ht {b:Bool} (hx:ev n f x = .bool b):Ex P w n f ⟨dst,.unOp .not T x,ty,pos,aft,gd⟩ (.bool (!b)):=by
  unfold Ex execOp;simp[hx,Op.unary]
theorem Ez {p:Prop} [Decidable p] (hx:ev n f x = .bool (decide p)):Ex P w n f ⟨dst,.unOp .not T x,ty,pos,aft,gd⟩ (.bool (decide (¬ p))):=by
  unfold Ex execOp;simp[hx,Op.unary]
-- texts
def lssB (s t:ByteArray):Bool:=Op.bytesLess s.toList t.toList
theorem Mz (s t:ByteArray):(s == t)=decide (s=t):=by
  obtain⟨a⟩:=s
  obtain⟨b⟩:=t
  show (a == b)=decide (ByteArray.mk a=ByteArray.mk b)
  by_cases h:a=b
  · subst h;simp
  · simp[h]
theorem Fj {s t:ByteArray} (hx:ev n f x = .string s) (hy:ev n f y = .string t):Ex P w n f ⟨dst,.binOp .eql T x y T',ty,pos,aft,gd⟩ (.bool (decide (s=t))) :=
  Ci hx hy (H7 s t) (by simp[binOp,Op.stringOp,← beq_toListBytes,Mz])
theorem Eg {s t:ByteArray} (hx:ev n f x = .string s) (hy:ev n f y = .string t):Ex P w n f ⟨dst,.binOp .neq T x y T',ty,pos,aft,gd⟩ (.bool (decide (s≠t))) :=
  Ci hx hy (H7 s t) (by
    have e:(s != t)=decide (s≠t):=by
      unfold bne
      rw[Mz]
      by_cases h:s=t <;> simp[h]
    simp[binOp,Op.stringOp,← beq_toListBytes,Mz])
theorem Yd {s t:ByteArray} (hx:ev n f x = .string s) (hy:ev n f y = .string t):Ex P w n f ⟨dst,.binOp .lss T x y T',ty,pos,aft,gd⟩ (.bool (lssB s t)) :=
  Ci hx hy (H7 s t) (by simp[binOp,Op.stringOp,lssB])
theorem Fd {k':IntKind} (hT:P.underlying T'=some (.int k')) (hs:(P.underlying T).isSome=true) (hx:ev n f x = .int k a):Ex P w n f ⟨dst,.convert T T' x,ty,pos,aft,gd⟩ (.int k' (k'.wrap a)):=by
  obtain⟨d,hd⟩:=Option.isSome_iff_exists.1 hs
  unfold Ex execOp;simp[hx,convert,run_underlying hT,run_underlying hd,Sem.run_bind,Conv.intToInt]
theorem B8 {k':IntKind} (hT:P.underlying T'=some (.int k')) (hs:(P.underlying T).isSome=true) (hx:ev n f x = .int k a) (h:Fits k' a):Ex P w n f ⟨dst,.convert T T' x,ty,pos,aft,gd⟩ (.int k' a):=by
  have:=Fd (P:=P) (w:=w) (dst:=dst) (ty:=ty) (pos:=pos) (aft:=aft) (gd:=gd) hT hs hx
  rwa [h] at this
theorem Aj {vs:Array Value} {i:Nat} (hx:ev n f x = .tuple vs) (h:vs[i]? = some v):Ex P w n f ⟨dst,.extract x i,ty,pos,aft,gd⟩ v:=by
  unfold Ex execOp;simp[hx,Instr.extract,h]
theorem Ar {p:Option Addr} {l c:Nat} {e:TypeId} (hT:P.underlying T=some (.slice e)) (hx:ev n f x = .slice p l c):Ex P w n f ⟨dst,.call ⟨.builtin .len,#[x],#[T]⟩,ty,pos,aft,gd⟩ (.int .i64 (l:Int)):=by
  unfold Ex execOp;simp[resolve,invoke,builtin,hx,Builtin.len_,run_underlying hT,Sem.run_bind,goInt]
theorem Dt {s:ByteArray} (hT:P.underlying T=some .string) (hx:ev n f x = .string s):Ex P w n f ⟨dst,.call ⟨.builtin .len,#[x],#[T]⟩,ty,pos,aft,gd⟩ (.int .i64 (s.size:Int)):=by
  unfold Ex execOp;simp[resolve,invoke,builtin,hx,Builtin.len_,run_underlying hT,Sem.run_bind,goInt]
end ops
section
variable {P : Program} {ops : Array Oper} {Q : Exit → Act → World → Prop} {rest : List Oper} {n : Nat} {f : Nat → Value} {w : World} {fn : Func} {R : Value → World → Prop}
variable {op : Op} {ty : TypeId} {pos : String} {aft : Array Edge} {d : Nat} {v : Value} {x : Operand}
theorem pM (k : Lst P ops Q rest (fr n (upd f d v)) w) (h : ev n f x = v := by conv => lhs; whnf) : Lst P ops Q (⟨some d, .move x, ty, pos, aft, none⟩ :: rest) (fr n f) w := p1 (Af h) k
theorem pA (k : Lst P ops Q rest (fr n (upd f d v)) w) (h : ev n f x = v := by conv => lhs; whnf) : Lst P ops Q (⟨some d, .assign x, ty, pos, aft, none⟩ :: rest) (fr n f) w := p1 (Ah h) k
theorem gM {j : Nat} {want : Bool} (d' : Nat) (k : Lst P ops Q rest (fr n (upd f d v)) w) (hd : (ops[j]?).bind (·.dst) = some d' := by exact rfl) (hv : ev n f (.tmp d') = .bool want := by exact rfl) (h : ev n f x = v := by conv => lhs; whnf) : Lst P ops Q (⟨some d, .move x, ty, pos, aft, some (j, want)⟩ :: rest) (fr n f) w := g1 d' hd hv (Af h) k
theorem gF {j : Nat} {want : Bool} (d' : Nat) (k : Lst P ops Q rest (fr n (upd f d undef)) w) (hd : (ops[j]?).bind (·.dst) = some d' := by exact rfl) (hv : ev n f (.tmp d') = .bool (!want) ∨ ev n f (.tmp d') = undef := by first | exact .inl rfl | exact .inr rfl) : Lst P ops Q (⟨some d, op, ty, pos, aft, some (j, want)⟩ :: rest) (fr n f) w := g0 d' hd hv k
theorem eN {g : FuncId} {c : Code} {vs : List Value} (n : Nat) (hf : P.funcs[g]? = some fn) (h : Wp P c (End P fn R) (fr n (fun t => vs.getD t undef)) w) (hb : fn.body = some c := by exact rfl) (hn : fn.ntmps = n := by exact rfl) (hl : vs.length ≤ min n sp := by exact Nat.le_of_ble_eq_true rfl) (hn2 : min n sp = n := by exact rfl) : Ret P g vs w R := enter n _ hf hb hn hl hn2 h
theorem eR1 {t : Nat} (h : R v w) (hr : fn.results = #[.tmp t] := by exact rfl) (hv : ev n f (.tmp t) = v := by conv => lhs; whnf) (hd : decD (f sp) = [] := by rfl) : End P fn R .ret (fr n f) w := end1 hr hv h hd
theorem eR2 {t u : Nat} {y : Value} (h : R (.tuple #[v, y]) w) (hr : fn.results = #[.tmp t, .tmp u] := by exact rfl) (hv : ev n f (.tmp t) = v := by conv => lhs; whnf) (hx : ev n f (.tmp u) = y := by conv => lhs; whnf) (hd : decD (f sp) = [] := by rfl) : End P fn R .ret (fr n f) w := end2 hr hv hx h hd
theorem eR3 {t u s : Nat} {y z : Value} (h : R (.tuple #[v, y, z]) w) (hr : fn.results = #[.tmp t, .tmp u, .tmp s] := by exact rfl) (hv : ev n f (.tmp t) = v := by conv => lhs; whnf) (hx : ev n f (.tmp u) = y := by conv => lhs; whnf) (hy : ev n f (.tmp s) = z := by conv => lhs; whnf) (hd : decD (f sp) = [] := by rfl) : End P fn R .ret (fr n f) w := end3 hr hv hx hy h hd
abbrev rg (a n : Nat) : List Nat := List.range' a n
abbrev ngB (f : Func) : Bool := f.name == "runtime.NumGoroutine"
end
def drw (w:World):Nat:=0
structure Ext (w w':World):Prop where
  size:w.heap.size≤w'.heap.size
  old:∀ k,k<w.heap.size→w'.heap[k]? = w.heap[k]?
  os:w'.os=w.os
  tape:w'.tape=w.tape
  output:w'.output=w.output
  drawn:drw w≤drw w'
theorem Ext.refl (w:World):Ext w w:=⟨Nat.le_refl _,fun _ _=>rfl,rfl,rfl,rfl,Nat.le_refl _⟩
theorem Ext.trans {a b c:World} (h:Ext a b) (k:Ext b c):Ext a c :=
  ⟨Nat.le_trans h.size k.size,fun i hi=>(k.old i (Nat.lt_of_lt_of_le hi h.size)).trans (h.old i hi),k.os.trans h.os,k.tape.trans h.tape,k.output.trans h.output,Nat.le_trans h.drawn k.drawn⟩
theorem Ext.ext {a b c:World} (h:Ext a b) (k:Ext b c):Ext a c:=h.trans k
theorem Ext.drew (w:World):Ext w w.drew:=⟨Nat.le_refl _,fun _ _=>rfl,rfl,rfl,rfl,Nat.le_refl _⟩
theorem Ext.ofBelow {w w':World} (h:Below w.heap.size w w'):Ext w w':=⟨h.size,h.block,h.os,h.tape,h.output,Nat.le_refl _⟩
theorem Ext.alloc (w:World) (o:Obj):Ext w (w.alloc o):=⟨by simp,fun k hk=>Below.heap_alloc w o k hk,rfl,rfl,rfl,Nat.le_refl _⟩
theorem Ext.below {w w':World} (h:Ext w w'):Below w.heap.size w w':=⟨h.os,h.tape,h.output,h.size,h.old⟩
theorem Ext.cell {w w':World} (h:Ext w w') {a:Addr} {v:Value} (hc:w.cell? a=some v):w'.cell? a=some v :=
  (World.cell?_of_block (w:=w) (h.old a.block (World.block_lt_of_cell? w a hc))).trans hc
def Blk (w:World) (g:Nat) (cs:Array Value) (t:TypeId):Prop:=w.heap[g]? = some (.cells cs t (0,0))
theorem Blk.lt {w:World} {g:Nat} {cs:Array Value} {t:TypeId} (h:Blk w g cs t):g<w.heap.size:=(Array.getElem?_eq_some_iff.1 h).1
theorem Blk.ext {w w':World} {g:Nat} {cs:Array Value} {t:TypeId} (h:Blk w g cs t) (e:Ext w w'):Blk w' g cs t:=(e.old g h.lt).trans h
theorem Blk.drew {w:World} {g:Nat} {cs:Array Value} {t:TypeId} (h:Blk w g cs t):Blk w.drew g cs t:=h
theorem Blk.cell {w:World} {g:Nat} {cs:Array Value} {t:TypeId} (h:Blk w g cs t) {i:Nat} {v:Value} (hv:cs[i]? = some v):w.cell? ⟨g,i,none⟩=some v:=by
  rw[cell_of_row w g i cs t (0,0) h];exact hv
theorem Blk.range {w:World} {g:Nat} {cs:Array Value} {t:TypeId} (h:Blk w g cs t):w.rangeAt g 0 cs.toList:=by
  intro j v hj
  rw[Nat.zero_add]
  exact h.cell (by simpa using hj)
theorem Blk.fresh (w:World) (cs:Array Value) (t:TypeId):Blk (w.alloc (.cells cs t)) w.heap.size cs t:=heap_alloc_new w _
def ab (a:Option Addr):Nat:=(a.getD ⟨0,0,none⟩).block
def ao (a:Option Addr):Nat:=(a.getD ⟨0,0,none⟩).off
structure Row (w:World) (a:Option Addr) (cs:List Value):Prop where
  adr:cs≠[]→a=some ⟨ab a,ao a,none⟩
  at_:w.rangeAt (ab a) (ao a) cs
theorem Row.nil (w:World) (a:Option Addr):Row w a []:=⟨fun h=>absurd rfl h,fun j v hv=>by simp at hv⟩
theorem Row.ne {w:World} {a:Option Addr} {cs:List Value} (h:Row w a cs) (hl:0<cs.length):a=some ⟨ab a,ao a,none⟩:=h.adr (by intro e;simp[e] at hl)
section control
variable {P : Program} {Q : Exit → Act → World → Prop} {K : Act → World → Prop} {a : Act} {w : World} {n : Nat} {f : Nat → Value}
theorem t_n (h:K a w):Exit.then K Q .normal a w:=h
theorem t_e {i:Nat} (h:Q (.exit i) a w):Exit.then K Q (.exit i) a w:=h
theorem t_r (h:Q .ret a w):Exit.then K Q .ret a w:=h
theorem b_n {i:Nat} (h:Q .normal a w):Exit.inBlock i Q .normal a w:=h
theorem Bq {i:Nat} (h:Q .normal a w):Exit.inBlock i Q (.exit i) a w:=by show (if i=i then Q .normal a w else Q (.exit i) a w);rw[if_pos rfl];exact h
theorem b_r {i:Nat} (h:Q .ret a w):Exit.inBlock i Q .ret a w:=h
theorem Ab {x y:Code} (h:Wp P x (Exit.then (Wp P y Q) Q) a w):Wp P (Code.seq x y) Q a w :=
  ⟨wp_seq (wp_mono h.out fun e a w hq=>by cases e <;> first | exact Wp.out hq | exact hq)⟩
theorem Ak (h:Q .normal a w):Wp P .skip Q a w:=⟨wp_skip h⟩
theorem Ao (h:Q .ret a w):Wp P .ret Q a w:=⟨wp_ret h⟩
theorem A8 {i:Nat} (h:Q (.exit i) a w):Wp P (.exit i) Q a w:=⟨wp_exit h⟩
theorem Ap {i:Nat} {c:Code} (h:Wp P c (Exit.inBlock i Q) a w):Wp P (.block i c) Q a w:=⟨wp_block h.out⟩
theorem Dm {c:Operand} {x y:Code} {b:Bool} (hc:ev n f c = .bool b) (ht:b=true→Wp P x Q (fr n f) w) (hf:b=false→Wp P y Q (fr n f) w):Wp P (Code.cond c x y) Q (fr n f) w :=
  ⟨wp_cond_split (t:=b) (by rw[Bn];exact hc) (fun h=>(ht h).out) (fun h=>(hf h).out)⟩
theorem As {c:Operand} {x y:Code} {p:Prop} [Decidable p] (hc:ev n f c = .bool (decide p)) (ht:p→Wp P x Q (fr n f) w) (hf:¬ p→Wp P y Q (fr n f) w):Wp P (Code.cond c x y) Q (fr n f) w :=
  Dm hc (fun h=>ht (of_decide_eq_true h)) (fun h=>hf (of_decide_eq_false h))
theorem c_t {c:Operand} {x y:Code} (hc:ev n f c = .bool true) (ht:Wp P x Q (fr n f) w):Wp P (Code.cond c x y) Q (fr n f) w:=Dm hc (fun _=>ht) (fun h=>by cases h)
theorem c_f {c:Operand} {x y:Code} (hc:ev n f c = .bool false) (hf:Wp P y Q (fr n f) w):Wp P (Code.cond c x y) Q (fr n f) w:=Dm hc (fun h=>by cases h) (fun _=>hf)
def hav (f:Nat→Value) (C:List Nat) (g:Nat→Value):Nat→Value:=fun t=>bif C.elem t then g t else f t
def updL (f:Nat→Value):List (Nat×Value)→Nat→Value
  | []=>f
  | (d,v) :: l=>updR (updL f l) d v
def hold (f:Nat→Value):List (Nat×Value)→Prop
  | []=>True
  | (d,v) :: l=>f d=v∧hold f l
def Agr (C:List Nat) (F f:Nat→Value):Prop:=∀ t,C.elem t=false→F t=f t
theorem Agr.refl (C:List Nat) (f:Nat→Value):Agr C f f:=fun _ _=>rfl
theorem Agr.hav (C:List Nat) (f g:Nat→Value):Agr C (hav f C g) f:=fun t h=>by show (bif C.elem t then g t else f t)=f t;rw[h];rfl
theorem Agr.upd {C:List Nat} {F f:Nat→Value} {d:Nat} {v:Value} (hd:C.elem d=true) (h:Agr C F f):Agr C (upd F d v) f:=fun t ht=>by
  rw[Kw (fun e=>by subst e;rw[hd] at ht;cases ht)];exact h t ht
theorem Agr.updR {C:List Nat} {F f:Nat→Value} {d:Nat} {v:Value} (hd:C.elem d=true) (h:Agr C F f):Agr C (Eng.updR F d v) f:=fun t ht=>by
  rw[K6 (fun e=>by subst e;rw[hd] at ht;cases ht)];exact h t ht
theorem Agr.updL {C:List Nat} {F f:Nat→Value} (h:Agr C F f):∀ (l:List (Nat×Value)),(l.all fun x=>C.elem x.1)=true→Agr C (updL F l) f
  | [],_=>h
  | (d, v) :: l, hl => by
    simp only[List.all_cons,Bool.and_eq_true] at hl
    exact Agr.updR hl.1 (Agr.updL h l hl.2)
theorem Agr.hav' {C C':List Nat} {F f g:Nat→Value} (hs:(C'.all fun x=>C.elem x)=true) (h:Agr C F f):Agr C (Eng.hav F C' g) f:=fun t ht=>by
  have hc:C'.elem t=false:=by
    cases hc:C'.elem t
    · rfl
    · have hm : t ∈ C' := by simpa using hc
      have:=List.all_eq_true.1 hs t hm
      rw[ht] at this;cases this
  show (bif C'.elem t then g t else F t)=f t
  rw[hc];exact h t ht
theorem Hu {F:Nat→Value}:∀ (l:List (Nat×Value)),hold F l→updL F l=F
  | [],_=>rfl
  | (d, v) :: l, h => by
    have ih:=Hu l h.2
    funext t
    show Eng.updR (updL F l) d v t=F t
    rw[ih]
    by_cases e:t=d
    · subst e;rw[Jv];exact h.1.symm
    · rw[K6 e]
theorem Pk {C:List Nat} {F f:Nat→Value} (h:Agr C F f):Eng.hav f C F=F:=by
  funext t
  show (bif C.elem t then F t else f t)=F t
  cases hc:C.elem t
  · exact(h t hc).symm
  · rfl
theorem Je {C:List Nat} {F f:Nat→Value} {l:List (Nat×Value)} (ha:Agr C F f) (hh:hold F l):fr n F=fr n (updL (Eng.hav f C F) l):=by
  rw[Pk ha,Hu l hh]
def At (n:Nat) (f:Nat→Value) (C:List Nat) {ι:Type} (L:ι→List (Nat×Value)) (I:ι→World→Prop) (a:Act) (w:World):Prop:=∃ i F,a=fr n F∧Agr C F f∧hold F (L i)∧I i w
theorem At.mk {C:List Nat} {ι:Type} {L:ι→List (Nat×Value)} {I:ι→World→Prop} {F:Nat→Value} (i:ι) (ha:Agr C F f) (hh:hold F (L i)) (hI:I i w):At n f C L I (fr n F) w:=⟨i,F,rfl,ha,hh,hI⟩
theorem Bc {c:Code} {ι:Type} (C:List Nat) (L:ι→List (Nat×Value)) (I:ι→World→Prop) (μ:ι→Nat) (i0:ι) (hh:hold f (L i0)) (h0:I i0 w)
    (round:∀ i g w,I i w→Wp P c (Exit.then (At n f C L fun i' w'=>I i' w'∧μ i'<μ i) Q) (fr n (updL (Eng.hav f C g) (L i))) w):Wp P (Code.loop c) Q (fr n f) w:=by
  refine⟨?_⟩
  intro b k cs
  have key:∀ m i F w,μ i=m→Agr C F f→hold F (L i)→I i w →
      ∃ e a' w',Q e a' w'∧Arrives P (lone (b.at (fr n F) (.code c :: .inLoop c :: k)) cs w) b k cs e a' w':=by
    intro m
    induction m using Nat.strongRecOn with
    | _ m ih =>
      intro i F w hm hA hH hI
      have hr:=round i F w hI
      rw[← Je (n:=n) hA hH] at hr
      obtain⟨e,a₁,w₁,hq,harr⟩:=hr.out b (.inLoop c :: k) cs
      cases e with
      | normal =>
        obtain⟨i',F',rfl,hA',hH',hI',hlt⟩:=hq
        obtain⟨e₂,a₂,w₂,hq₂,harr₂⟩:=ih (μ i') (hm ▸ hlt) i' F' w₁ rfl hA' hH' hI'
        exact⟨e₂,a₂,w₂,hq₂,.of_steps (Steps.trans harr (.one step_inLoop)) harr₂⟩
      | exit id=>exact⟨_,a₁,w₁,hq,.pass (x := .inLoop c) rfl (fun _ _ => .inl (by simp)) harr⟩
      | goto l=>exact⟨_,a₁,w₁,hq,.pass (x := .inLoop c) rfl (fun _ _ => .inl (by simp)) harr⟩
      | ret=>exact⟨_,a₁,w₁,hq,.pass (x := .inLoop c) rfl (fun _ _ => .inl (by simp)) harr⟩
      | panic ch=>exact⟨_,a₁,w₁,hq,.pass (x := .inLoop c) rfl (fun _ _ => .inl (by simp)) harr⟩
      | outgrown=>exact⟨_,a₁,w₁,hq,.pass (x := .inLoop c) rfl (fun _ _ => .inl (by simp)) harr⟩
  obtain⟨e,a',w',hq,harr⟩:=key _ i0 f w rfl (Agr.refl _ _) hh h0
  exact⟨e,a',w',hq,.of_steps (.one step_loop) harr⟩
theorem Dn {c:Code} {ι:Type} (C:List Nat) (L:ι→List (Nat×Value)) (I:ι→World→Prop) (h:Wp P c (Exit.then (At n f C L I) Q) (fr n f) w)
    (k:∀ i g w,I i w→Q .normal (fr n (updL (Eng.hav f C g) (L i))) w):Wp P c Q (fr n f) w :=
  ⟨wp_mono h.out fun e a w hq=>by
    cases e with
    | normal=>obtain⟨i,F,rfl,hA,hH,hI⟩:=hq;rw[Je (n:=n) hA hH];exact k i F w hI
    | _=>exact hq⟩
end control
section
variable {n : Nat} {f : Nat → Value} {w : World}
theorem aK {C : List Nat} {ι : Type} {L : ι → List (Nat × Value)} {I : ι → World → Prop} {F : Nat → Value} (i : ι) (hh : hold F (L i)) (hI : I i w) (ha : Agr C F f := by repeat (first | exact Agr.refl _ _ | exact Agr.hav _ _ _ | refine Agr.upd rfl ?_ | refine Agr.updR rfl ?_ | refine Agr.updL ?_ _ rfl | refine Agr.hav' rfl ?_)) : At n f C L I (fr n F) w := .mk i ha hh hI
end
section ops
variable {P : Program} {w : World} {n : Nat} {f : Nat → Value} {dst : Option Nat} {ty : TypeId} {pos : String} {aft : Array Edge} {gd : Option (Nat × Bool)}
variable {x y z : Operand} {v u : Value} {k : IntKind} {a b : Int} {T T' : TypeId}
theorem Oa {d:TypeDesc} (hu:P.underlying T=some d) (hd:d.isRow=false):(isAgg T).run P w = .ok false w:=by
  unfold isAgg
  rw[Sem.run_bind,run_underlying hu w]
  cases d <;> simp_all [TypeDesc.isRow]
theorem H2 {d:TypeDesc} (hu:P.underlying T=some d) (hd:d.isRow=false) {p:Addr} (hc:w.cell? p=some v):(loadVar T p).run P w = .ok v w:=by
  simp[loadVar,Sem.run_bind,Oa (w:=w) hu hd,load,Sem.run,hc]
theorem Ae (hu:(P.underlying T).map TypeDesc.isRow=some false) {p:Addr} (hx:ev n f x = .pointer (some p)) (hc:w.cell? p=some v) :
    Ex P w n f ⟨dst,.load T x,ty,pos,aft,gd⟩ v:=by
  obtain⟨d,hu,hd⟩:=Option.map_eq_some_iff.1 hu
  unfold Ex execOp
  simp only[hx,Instr.loadAt,Instr.sureAddr,Sem.run_bind,Sem.run_pure,Result.andThen_ok,H2 hu hd hc]
theorem Cb (hu:(P.underlying T).map TypeDesc.isRow=some true) {b o:Nat} (hx:ev n f x = .pointer (some ⟨b,o,none⟩)) {cs:List Value} (hi:(P.info? T).map (·.size)=some cs.length) (hc:w.rangeAt b o cs) :
    Ex P w n f ⟨dst,.load T x,ty,pos,aft,gd⟩ (.agg cs.toArray):=by
  obtain⟨d,hu,hd⟩:=Option.map_eq_some_iff.1 hu
  unfold Ex execOp
  simp only[hx,Instr.loadAt,Instr.sureAddr,Sem.run_bind,Sem.run_pure,Result.andThen_ok,run_loadVar_mid w b o T cs d hc hu hd hi]
theorem Aq (hu:(P.underlying T).map TypeDesc.isRow=some true) {g:Nat} (hx:ev n f x = .pointer (some ⟨g,0,none⟩)) {cs:Array Value} {t:TypeId} (hB:Blk w g cs t) (hi:(P.info? T).map (·.size)=some cs.size) :
    Ex P w n f ⟨dst,.load T x,ty,pos,aft,gd⟩ (.agg cs):=by
  have:=Cb (P:=P) (w:=w) (dst:=dst) (ty:=ty) (pos:=pos) (aft:=aft) (gd:=gd) hu hx (cs:=cs.toList) (by simpa using hi) hB.range
  simpa using this
theorem Ag {p:Addr} (hx:ev n f x = .pointer (some p)):Ex P w n f ⟨dst,.nilCheck x,ty,pos,aft,gd⟩ (.pointer (some p)):=by
  unfold Ex execOp;simp only[hx];rfl
def A3 (P:Program) (T i:Nat):Option (Nat×Nat):=(P.underlying T).bind fun d=>match d with | .struct fs=>(fs[i]?).map (fun f=>(f.type,f.offset)) | _=>none
theorem L0 {T i ft off:Nat} (h:A3 P T i=some (ft,off)):∃ fs fld,P.underlying T=some (.struct fs)∧fs[i]? = some fld∧fld.type=ft∧fld.offset=off:=by
  unfold A3 at h
  obtain⟨d,hd,h⟩:=Option.bind_eq_some_iff.1 h
  cases d <;> simp at h
  rename_i fs
  obtain⟨fld,hf,h1,h2⟩:=h
  exact⟨fs,fld,hd,hf,h1,h2⟩
theorem Ad {i ft off:Nat} (hF:A3 P T i=some (ft,off)) {sz:Nat} (hz:(P.info? ft).map (·.size)=some (sz+1)) {b o:Nat} (hx:ev n f x = .pointer (some ⟨b,o,none⟩)) :
    Ex P w n f ⟨dst,.fieldAddr T x i,ty,pos,aft,gd⟩ (.pointer (some ⟨b,o+off,none⟩)):=by
  obtain⟨fs,fld,hu,hf,rfl,rfl⟩:=L0 hF
  obtain⟨ii,hi,hs⟩:=Option.map_eq_some_iff.1 hz
  unfold Ex execOp
  simp[hx,Instr.fieldAt,Instr.sureAddr,Sem.run_bind,run_underlying hu,hf,fieldPlace,sizeOf,typeInfo,hi,hs,Addr.add_mid]
theorem Cs {e:TypeId} (hu:P.underlying T=some (.slice e)) {sz:Nat} (hz:(P.info? e).map (·.size)=some sz) {p:Option Addr} {l c:Nat} (hx:ev n f x = .slice p l c) (hy:ev n f y = .int k a)
    (hp:p=some ⟨ab p,ao p,none⟩) (h0:0≤a) (h1:a<(l:Int)):Ex P w n f ⟨dst,.indexAddr T x y,ty,pos,aft,gd⟩ (.pointer (some ⟨ab p,ao p+a.toNat * sz,none⟩)):=by
  obtain⟨ii,hi,hs⟩:=Option.map_eq_some_iff.1 hz
  unfold Ex execOp
  simp only[hx,hy]
  generalize ab p=B at *
  generalize ao p=O at *
  subst hp
  simp[Instr.indexAt,asIntOf,Sem.run_bind,run_underlying hu,h0,h1,sizeOf,typeInfo,hi,hs,Addr.add_mid]
theorem Zt {e:TypeId} {len:Nat} (hu:P.underlying T=some (.array len e)) {sz:Nat} (hz:(P.info? e).map (·.size)=some sz) {b o:Nat} (hx:ev n f x = .pointer (some ⟨b,o,none⟩)) (hy:ev n f y = .int k a)
    (h0:0≤a) (h1:a<(len:Int)):Ex P w n f ⟨dst,.indexAddr T x y,ty,pos,aft,gd⟩ (.pointer (some ⟨b,o+a.toNat * sz,none⟩)):=by
  obtain⟨ii,hi,hs⟩:=Option.map_eq_some_iff.1 hz
  unfold Ex execOp
  simp[hx,hy,Instr.indexAt,asIntOf,Instr.sureAddr,Sem.run_bind,run_underlying hu,h0,h1,sizeOf,typeInfo,hi,hs,Addr.add_mid]
theorem A6 {e:TypeId} {len:Nat} (hu:P.underlying T=some (.array len e)) (hz:(P.info? e).map (·.size)=some 1) {b i:Nat} (hx:ev n f x = .pointer (some ⟨b,0,none⟩)) (hy:ev n f y = .int k (i:Int))
    (h1:i<len):Ex P w n f ⟨dst,.indexAddr T x y,ty,pos,aft,gd⟩ (.pointer (some ⟨b,i,none⟩)):=by
  have:=Zt (P:=P) (w:=w) (dst:=dst) (ty:=ty) (pos:=pos) (aft:=aft) (gd:=gd) hu hz hx hy (by omega) (by omega)
  simpa using this
theorem Cr {e:TypeId} (hu:P.underlying T=some (.slice e)) (hz:(P.info? e).map (·.size)=some 1) {p:Option Addr} {l c i:Nat} (hx:ev n f x = .slice p l c) (hy:ev n f y = .int k (i:Int))
    (hp:p=some ⟨ab p,ao p,none⟩) (h1:i<l):Ex P w n f ⟨dst,.indexAddr T x y,ty,pos,aft,gd⟩ (.pointer (some ⟨ab p,ao p+i,none⟩)):=by
  have:=Cs (P:=P) (w:=w) (dst:=dst) (ty:=ty) (pos:=pos) (aft:=aft) (gd:=gd) hu hz hx hy hp (by omega) (by omega)
  simpa using this
def btAt (s:ByteArray) (i:Nat):UInt8:=s.data.toList.getD i 0
theorem Aci (hu:P.underlying T=some .string) {s:ByteArray} (hx:ev n f x = .string s) (hy:ev n f y = .int k a) (h0:0≤a) (h1:a<(s.size:Int)) :
    Ex P w n f ⟨dst,.index T x y,ty,pos,aft,gd⟩ (.int .u8 (btAt s a.toNat).toNat):=by
  have hl:a.toNat<s.size:=by omega
  have hl':a.toNat<s.data.toList.length:=by simpa using hl
  have e:s[a.toNat]? = some (btAt s a.toNat):=by
    have:s[a.toNat]? = some s[a.toNat]:=getElem?_pos s a.toNat hl
    rw[this]
    congr 1
    unfold btAt
    rw[List.getD_eq_getElem?_getD,List.getElem?_eq_getElem hl']
    rfl
  unfold Ex execOp
  simp[hx,hy,Instr.index,asIntOf,Sem.run_bind,run_underlying hu,h0,e]
theorem G1 (hu:P.underlying T=some .string) {s:ByteArray} {i:Nat} (hx:ev n f x = .string s) (hy:ev n f y = .int k (i:Int)) (h1:i<s.size) :
    Ex P w n f ⟨dst,.index T x y,ty,pos,aft,gd⟩ (.int .u8 (btAt s i).toNat):=Aci hu hx hy (by omega) (by omega)
-- equality of arrays of bytes
open Extern.Stop (cell) in
theorem En {e:TypeId} {m:Nat} (hu:P.underlying T=some (.array m e)) (he:P.underlying e=some (.int .u8)) (hz:(P.info? e).map (·.size)=some 1) (hq:P.eqGuardType P.depth T=false) {xs ys:List UInt8}
    (hx:ev n f x = .agg (xs.map cell).toArray) (hy:ev n f y = .agg (ys.map cell).toArray) (hl:xs.length=m) (hl':ys.length=m):Ex P w n f ⟨dst,.binOp .eql T x y T',ty,pos,aft,gd⟩ (.bool (decide (xs=ys))):=by
  obtain⟨ii,hi,hs⟩:=Option.map_eq_some_iff.1 hz
  have h:=run_eql_bytes (P:=P) w T e m hu he (fun w=>by simp[sizeOf,typeInfo,hi,hs]) xs ys hl hl'
  refine Ci hx hy (run_eqGuard_agg w .eql T x y _ _ hq) ?_
  rw[h]
  congr 2
  by_cases hxy:xs=ys <;> simp[hxy]
open Extern.Stop (cell) in
theorem M3 {e:TypeId} {m:Nat} (hu:P.underlying T=some (.array m e)) (he:P.underlying e=some (.int .u8)) (hz:(P.info? e).map (·.size)=some 1) (hq:P.eqGuardType P.depth T=false) {xs ys:List UInt8}
    (hx:ev n f x = .agg (xs.map cell).toArray) (hy:ev n f y = .agg (ys.map cell).toArray) (hl:xs.length=m) (hl':ys.length=m):Ex P w n f ⟨dst,.binOp .neq T x y T',ty,pos,aft,gd⟩ (.bool (decide (xs≠ys))):=by
  obtain⟨ii,hi,hs⟩:=Option.map_eq_some_iff.1 hz
  have h:=run_equalIn_bytes (P:=P) w 9998 T e m hu he (fun w=>by simp[sizeOf,typeInfo,hi,hs]) xs ys hl hl'
  refine Ci hx hy (run_eqGuard_agg w .neq T x y _ _ hq) ?_
  rw[run_neq_struct,h,Result.andThen_ok]
  congr 2
  by_cases hxy:xs=ys <;> simp[hxy]
end ops
section loud
variable {P : Program} {ops : Array Oper} {Q : Exit → Act → World → Prop} {rest : List Oper} {n : Nat} {f : Nat → Value} {w : World}
variable {op : Op} {ty : TypeId} {pos : String} {aft : Array Edge} {d : Nat} {v : Value} {x y z : Operand} {T : TypeId}
structure New (w w':World) (g:Nat) (cs:Array Value) (t:TypeId):Prop where
  blk:Blk w' g cs t
  ext:Ext w w'
  g_eq:g=w.heap.size
  size:w'.heap.size=g+1
theorem New.alloc (w:World) (cs:Array Value) (t:TypeId):New w (w.alloc (.cells cs t)) w.heap.size cs t:=⟨Blk.fresh w cs t,Ext.alloc w _,rfl,by simp⟩
theorem l1 {w':World} (h:(execOp (ev n f) ⟨some d,op,ty,pos,aft,none⟩).run P w = .ok (.value v) w') (k:Lst P ops Q rest (fr n (upd f d v)) w'):Lst P ops Q (⟨some d,op,ty,pos,aft,none⟩ :: rest) (fr n f) w :=
  ⟨wpList_plain rfl fun K hK=>by
    unfold Oper.wp
    rw[Bn,h,Oper.upon_value,Du]
    exact hK _ _ k.out⟩
theorem Xp (hx:ev n f x=v) (k:∀ w' g,New w w' g v.cells T→Lst P ops Q rest (fr n (upd f d (.pointer (some ⟨g,0,none⟩)))) w'):Lst P ops Q (⟨some d,.box T x,ty,pos,aft,none⟩ :: rest) (fr n f) w :=
  l1 (w':=w.alloc (.cells v.cells T)) (v := .pointer (some ⟨w.heap.size,0,none⟩)) (by subst hx;rfl) (k _ _ (New.alloc _ _ _))
theorem D9 (hx:ev n f x=v) (h1:v.cells=#[v]) (k:∀ w' g,New w w' g #[v] T→Lst P ops Q rest (fr n (upd f d (.pointer (some ⟨g,0,none⟩)))) w'):Lst P ops Q (⟨some d,.box T x,ty,pos,aft,none⟩ :: rest) (fr n f) w :=
  Xp hx (by rw[h1];exact k)
theorem Bu {cs:Array Value} (hx:ev n f x = .agg cs) (k:∀ w' g,New w w' g cs T→Lst P ops Q rest (fr n (upd f d (.pointer (some ⟨g,0,none⟩)))) w'):Lst P ops Q (⟨some d,.box T x,ty,pos,aft,none⟩ :: rest) (fr n f) w :=
  Xp hx k
theorem Ay {z:Value} (hz:(P.info? T).map (·.zero)=some (some z)) (k:∀ w' g,New w w' g z.cells T→Lst P ops Q rest (fr n (upd f d (.pointer (some ⟨g,0,none⟩)))) w'):Lst P ops Q (⟨some d,.alloc T,ty,pos,aft,none⟩ :: rest) (fr n f) w:=by
  obtain⟨ii,hi,hs⟩:=Option.map_eq_some_iff.1 hz
  exact l1 (w':=w.alloc (.cells z.cells T)) (v := .pointer (some ⟨w.heap.size,0,none⟩)) (by
    simp[execOp,Instr.alloc,zeroValue,typeInfo,hi,hs,Sem.run_bind,newVar,newRow,newObj,Sem.run]) (k _ _ (New.alloc _ _ _))
def evL (n:Nat) (f:Nat→Value):List Operand→List Value
  | []=>[]
  | x :: l=>ev n f x :: evL n f l
theorem Fi (n:Nat) (f:Nat→Value):∀ l:List Operand,l.map (ev n f)=evL n f l
  | []=>rfl
  | x :: l=>by rw[List.map_cons,Fi n f l];rfl
theorem Ai {g : FuncId} {as_ : List Operand} {ats : Array TypeId} {fn : Func} {vs : List Value} {R : Value → World → Prop} (hf : P.funcs[g]? = some fn) (hn : (fn.name == "runtime.NumGoroutine") = false) (hb : fn.body.isNone = false)
    (hc:Ret P g vs w R) (ha:evL n f as_=vs) (k:∀ v w',R v w'→Lst P ops Q rest (fr n (upd f d v)) w') :
    Lst P ops Q (⟨some d,.call ⟨.value (.func g),as_.toArray,ats⟩,ty,pos,aft,none⟩ :: rest) (fr n f) w :=
  ⟨wpList_plain rfl fun K hK=>by
    have hn' : ¬ fn.name = "runtime.NumGoroutine" := by simpa using hn
    have hb':¬ fn.body=none:=by intro e;rw[e] at hb;cases hb
    have ha':as_.toArray.map (ev n f)=vs.toArray:=by rw[List.map_toArray,Fi,ha]
    have he:(execOp (ev n f) ⟨some d,.call ⟨.value (.func g),as_.toArray,ats⟩,ty,pos,aft,none⟩).run P w = .ok (.enter g vs.toArray) w:=by
      simp[execOp,resolve,ha',ev,Deferred.ofValue,invoke,callFunc,hf,hn',hb',Sem.run_bind,Sem.run]
    unfold Oper.wp
    rw[Bn,he,Oper.upon_enter]
    refine Calls.mono hc.out fun e w' hr=>?_
    obtain⟨v,rfl,hv⟩:=hr
    show K ((fr n f).put (some d) v) w'
    rw[Du]
    exact hK _ _ (k v w' hv).out⟩
end loud
section regions
variable {P : Program} {Q : Exit → Act → World → Prop} {n : Nat} {f : Nat → Value} {w : World} {l : List Oper} {id : Nat}
theorem Aa (h:Lst P l.toArray Q l (fr n f) w):Wp P (Code.region id l.toArray false) Q (fr n f) w:=⟨wp_region_lit h.out⟩
theorem Ac {ops:Array Oper} {a:Act} (h:Q .normal a w):Lst P ops Q [] a w:=⟨h⟩
theorem E5 {ops : Array Oper} {Q Q' : Exit → Act → World → Prop} (h : ∀ e a w, Q e a w → Q' e a w) : ∀ (l : List Oper) (a : Act) (w : World), wpList P ops Q l a w → wpList P ops Q' l a w
  | [], a, w, hk => h _ a w hk
  | o :: rest, a, w, hk => by
    unfold wpList at hk ⊢
    split
    · rename_i hw
      rw [if_pos hw] at hk
      refine hk.imp (fun hk => ?_) (fun hk => ⟨hk.1, ?_⟩)
      · unfold Oper.wp at hk ⊢
        generalize (execOp a.eval o).run P w = r at *
        cases r with
        | ok n w' =>
          cases n <;> simp only [Oper.upon] at hk ⊢ <;>
            first
              | exact E5 h rest _ _ hk
              | exact Calls.mono hk (fun e w'' he => by cases e <;> first | exact E5 h rest _ _ he | exact h _ _ _ he | (obtain ⟨a, w, q⟩ := he; exact ⟨a, w, h _ _ _ q⟩))
              | exact Rows.mono hk (fun _ _ he => E5 h rest _ _ he)
        | halt x w' => cases x <;> simp only [Oper.upon] at hk ⊢ <;> first | exact h _ _ _ hk | exact hk
      · obtain ⟨_, a, w, q⟩ := hk; exact ⟨a, w, h _ _ _ q⟩
    · rename_i hw; rw [if_neg hw] at hk; exact E5 h rest _ _ hk
theorem still_mono {ops:Array Oper} {K K':Act→Prop} (h:∀ a,K a→K' a):∀ (l:List Oper) (a:Act),wpStill P ops w K l a→wpStill P ops w K' l a
  | [],a,hk=>h a hk
  | o :: rest, a, hk => by
    unfold wpStill at hk ⊢
    split
    · rename_i hw;rw[if_pos hw] at hk;exact Oper.still_mono (still_mono h rest) hk
    · rename_i hw;rw[if_neg hw] at hk;exact still_mono h rest _ hk
theorem Cy (hm:P.follows .mixedOrders=true) (hB:Region.lexB .any l.toArray=true) (h:∀ w',Ext w w'→St P l.toArray w' (fun a'=>Q .normal a' w') l (fr n f)):Wp P (Code.region id l.toArray true) Q (fr n f) w :=
  ⟨wp_region_still_lit hm hB (h w.drew (Ext.drew w)).out⟩
theorem Cx (m:Nat) (hm:P.follows .mixedOrders=true) (hB:Region.lexTailB .any l.toArray m=true)
    (h:∀ w',Ext w w'→St P l.toArray w' (fun a'=>Lst P l.toArray Q (l.drop m) a' w') (l.take m) (fr n f)):Wp P (Code.region id l.toArray true) Q (fr n f) w :=
  ⟨wp_region_still_tail m hm hB (still_mono (fun _ k=>k.out) _ _ (h w.drew (Ext.drew w)).out)⟩
theorem Bx {ops:Array Oper} {K:Act→Prop} {a:Act} (h:K a):St P ops w K [] a:=⟨h⟩
theorem s1 {ops:Array Oper} {K:Act→Prop} {rest:List Oper} {op:Op} {ty:TypeId} {pos:String} {aft:Array Edge} {d:Nat} {v:Value} (h:Ex P w n f ⟨some d,op,ty,pos,aft,none⟩ v) (k:St P ops w K rest (fr n (upd f d v))) :
    St P ops w K (⟨some d,op,ty,pos,aft,none⟩ :: rest) (fr n f):=by
  refine⟨?_⟩
  unfold wpStill
  simp only[Region.wanted,if_true]
  unfold Oper.still
  rw[Bn,h,Oper.stillUpon_value,Du]
  exact k.out
theorem sg1 {ops:Array Oper} {K:Act→Prop} {rest:List Oper} {op:Op} {ty:TypeId} {pos:String} {aft:Array Edge} {d:Nat} {v:Value} {j:Nat} {want:Bool} (d':Nat) (hd:(ops[j]?).bind (·.dst)=some d') (hv:ev n f (.tmp d') = .bool want)
    (h:Ex P w n f ⟨some d,op,ty,pos,aft,some (j,want)⟩ v) (k:St P ops w K rest (fr n (upd f d v))):St P ops w K (⟨some d,op,ty,pos,aft,some (j,want)⟩ :: rest) (fr n f):=by
  refine⟨?_⟩
  unfold wpStill
  rw[if_pos (Ju hd hv)]
  unfold Oper.still
  rw[Bn,h,Oper.stillUpon_value,Du]
  exact k.out
theorem sg0 {ops:Array Oper} {K:Act→Prop} {rest:List Oper} {op:Op} {ty:TypeId} {pos:String} {aft:Array Edge} {d:Nat} {j:Nat} {want:Bool} (d':Nat) (hd:(ops[j]?).bind (·.dst)=some d') (hv:ev n f (.tmp d') = .bool (!want)∨ev n f (.tmp d')=undef)
    (k:St P ops w K rest (fr n (upd f d undef))):St P ops w K (⟨some d,op,ty,pos,aft,some (j,want)⟩ :: rest) (fr n f):=by
  refine⟨?_⟩
  unfold wpStill
  rw[if_neg (by rw[M8 hd hv];simp),Du]
  exact k.out
theorem s1b {ops:Array Oper} {K:Act→Prop} {rest:List Oper} {op:Op} {ty:TypeId} {pos:String} {aft:Array Edge} {d:Nat} {b:Bool} (h:Ex P w n f ⟨some d,op,ty,pos,aft,none⟩ (.bool b))
    (kt:b=true→St P ops w K rest (fr n (upd f d (.bool true)))) (kf:b=false→St P ops w K rest (fr n (upd f d (.bool false)))):St P ops w K (⟨some d,op,ty,pos,aft,none⟩ :: rest) (fr n f) :=
  s1 h (by cases b;exact kf rfl;exact kt rfl)
theorem E2 {ops : Array Oper} : ∀ (l1 l2 : List Oper) (a : Act) (w : World), wpList P ops (Exit.then (wpList P ops Q l2) Q) l1 a w → wpList P ops Q (l1 ++ l2) a w
  | [], l2, a, w, h => h
  | o :: l1, l2, a, w, h => by
    unfold wpList at h
    rw [List.cons_append]
    unfold wpList
    split
    · rename_i hw
      rw [if_pos hw] at h
      refine h.imp (fun h => ?_) (fun h => ⟨h.1, ?_⟩)
      · unfold Oper.wp at h ⊢
        generalize (execOp a.eval o).run P w = r at *
        cases r with
        | ok n w' =>
          cases n <;> simp only [Oper.upon] at h ⊢ <;>
            first
              | exact E2 l1 l2 _ _ h
              | exact Calls.mono h (fun e w'' he => by cases e <;> first | exact E2 l1 l2 _ _ he | exact he)
              | exact Rows.mono h (fun _ _ he => E2 l1 l2 _ _ he)
        | halt x w' => cases x <;> simp only [Oper.upon] at h ⊢ <;> exact h
      · exact h.2
    · rename_i hw
      rw [if_neg hw] at h
      exact E2 l1 l2 _ _ h
def CutAt (n:Nat) (f:Nat→Value) (C:List Nat) (L:List (Nat×Value)) (w:World) (a:Act) (w':World):Prop:=∃ F,a=fr n F∧w'=w∧Agr C F f∧hold F L
theorem Xu {ops:Array Oper} (m:Nat) (C:List Nat) (L:List (Nat×Value)) (h:Lst P ops (Exit.then (CutAt n f C L w) Q) (l.take m) (fr n f) w) (k:∀ g,Lst P ops Q (l.drop m) (fr n (updL (Eng.hav f C g) L)) w):Lst P ops Q l (fr n f) w:=by
  refine⟨?_⟩
  have e:l.take m++l.drop m=l:=List.take_append_drop m l
  rw[← e]
  refine E2 _ _ _ _ (E5 (fun e a w' hq=>?_) _ _ _ h.out)
  cases e with
  | normal=>obtain⟨F,rfl,rfl,hA,hH⟩:=hq;rw[Je (n:=n) hA hH];exact(k F).out
  | _=>exact hq
theorem F5 {ops:Array Oper} {F:Nat→Value} {C:List Nat} {L:List (Nat×Value)} {l:List Oper} (hl:l=[]) (hA:Agr C F f) (hH:hold F L):Lst P ops (Exit.then (CutAt n f C L w) Q) l (fr n F) w:=by
  subst hl;exact⟨⟨F,rfl,rfl,hA,hH⟩⟩
end regions
section
variable {P : Program} {ops : Array Oper} {Q : Exit → Act → World → Prop} {rest : List Oper} {n : Nat} {f : Nat → Value} {w : World} {ty : TypeId} {pos : String} {aft : Array Edge} {d : Nat}
theorem oC {g : FuncId} {as_ : List Operand} {ats : Array TypeId} {fn : Func} {vs : List Value} {R : Value → World → Prop} (hf : P.funcs[g]? = some fn) (hc : Ret P g vs w R) (k : ∀ v w', R v w' → Lst P ops Q rest (fr n (upd f d v)) w') (ha : evL n f as_ = vs := by exact rfl) (hn : (fn.name == "runtime.NumGoroutine") = false := by kernel_rfl) (hb : fn.body.isNone = false := by kernel_rfl) : Lst P ops Q (⟨some d, .call ⟨.value (.func g), as_.toArray, ats⟩, ty, pos, aft, none⟩ :: rest) (fr n f) w := Ai hf hn hb hc ha k
end
section
def tMap:TypeId:=1000000
def tIter:TypeId:=1000001
def ty (w:World) (k:Nat):Option TypeId:=match w.heap[k]? with | some (.cells _ t _)=>some t | some (.map ..)=>some tMap | some (.mapIter ..)=>some tIter | _=>none
theorem Blk.ty {w:World} {g:Nat} {cs:Array Value} {t:TypeId} (h:Blk w g cs t):ty w g=some t:=by unfold Eng.ty;rw[h]
def Same (B:Nat) (E:List TypeId) (w w':World):Prop:=∀ k,k<w.heap.size→(k<B∨∃ t,t∈E∧ty w k=some t)→w'.heap[k]? = w.heap[k]?
theorem Ext.same {w w':World} (h:Ext w w') (B:Nat) (E:List TypeId):Same B E w w':=fun k hk _=>h.old k hk
theorem Same.sub {B:Nat} {E E':List TypeId} {w w':World} (h:Same B E w w') (hE:∀ t,t∈E'→t∈E):Same B E' w w' :=
  fun k hk ho=>h k hk (ho.imp id fun ⟨t,ht,e⟩=>⟨t,hE t ht,e⟩)
theorem B7 {w w':World} {k:Nat} (h:w'.heap[k]? = w.heap[k]?):ty w' k=ty w k:=by unfold ty;rw[h]
structure Mod (B:Nat) (t:TypeId) (w w':World):Prop where
  size:w.heap.size≤w'.heap.size
  old:∀ k,k<w.heap.size→(k<B∨ty w k≠some t)→w'.heap[k]? = w.heap[k]?
  tys:∀ k,k<w.heap.size→ty w' k=ty w k
  drawn:drw w≤drw w'
  os:w'.os=w.os
  tape:w'.tape=w.tape
  output:w'.output=w.output
theorem Mod.refl (B:Nat) (t:TypeId) (w:World):Mod B t w w:=⟨Nat.le_refl _,fun _ _ _=>rfl,fun _ _=>rfl,Nat.le_refl _,rfl,rfl,rfl⟩
theorem Mod.ofExt {B:Nat} {t:TypeId} {w w':World} (h:Ext w w'):Mod B t w w':=⟨h.size,fun k hk _=>h.old k hk,fun k hk=>B7 (h.old k hk),h.drawn,h.os,h.tape,h.output⟩
theorem Mod.trans {B:Nat} {t:TypeId} {a b c:World} (h:Mod B t a b) (k:Mod B t b c):Mod B t a c :=
  ⟨Nat.le_trans h.size k.size,fun i hi ho=>(k.old i (Nat.lt_of_lt_of_le hi h.size) (ho.imp id fun e=>by rw[h.tys i hi];exact e)).trans (h.old i hi ho),
    fun i hi=>(k.tys i (Nat.lt_of_lt_of_le hi h.size)).trans (h.tys i hi),Nat.le_trans h.drawn k.drawn,k.os.trans h.os,k.tape.trans h.tape,k.output.trans h.output⟩
theorem Mod.ext {B:Nat} {t:TypeId} {a b c:World} (h:Mod B t a b) (k:Ext b c):Mod B t a c:=h.trans (.ofExt k)
theorem Mod.same {B B':Nat} {t:TypeId} {w w':World} (h:Mod B t w w') {E:List TypeId} (hB:B'≤B) (hE:t∉E):Same B' E w w' :=
  fun k hk ho=>h.old k hk (ho.imp (fun h=>by omega) fun ⟨u,hu,e⟩=>by rw[e];intro e2;injection e2 with e2;subst e2;exact hE hu)
theorem Ext.mod {w0 w w':World} (h:Ext w0 w) {B:Nat} {t:TypeId} (m:Mod B t w w') (hB:w0.heap.size≤B):Ext w0 w' :=
  ⟨Nat.le_trans h.size m.size,fun k hk=>(m.old k (Nat.lt_of_lt_of_le hk h.size) (.inl (by omega))).trans (h.old k hk),m.os.trans h.os,m.tape.trans h.tape,m.output.trans h.output,Nat.le_trans h.drawn m.drawn⟩
theorem Blk.mod {w w':World} {g:Nat} {cs:Array Value} {u:TypeId} (h:Blk w g cs u) {B:Nat} {t:TypeId} (m:Mod B t w w') (hne:u≠t):Blk w' g cs u :=
  (m.old g h.lt (.inr (by rw[h.ty];intro e;injection e with e;exact hne e))).trans h
theorem Blk.modB {w w':World} {g:Nat} {cs:Array Value} {u:TypeId} (h:Blk w g cs u) {B:Nat} {t:TypeId} (m:Mod B t w w') (hg:g<B):Blk w' g cs u:=(m.old g h.lt (.inl hg)).trans h
structure RowIn (B:Nat) (e:TypeId) (w:World) (p:Option Addr) (cs:List Value):Prop where
  row:Row w p cs
  ok:cs≠[]→ab p<B∨ty w (ab p)=some e
theorem Row.lt {w:World} {p:Option Addr} {cs:List Value} (h:Row w p cs) (hne:cs≠[]):ab p<w.heap.size:=by
  cases cs with
  | nil=>exact absurd rfl hne
  | cons v r=>exact World.block_lt_of_cell? w ⟨ab p,ao p+0,none⟩ (h.at_ 0 v rfl)
theorem Row.of_block {w w':World} {p:Option Addr} {cs:List Value} (h:Row w p cs) (hb:cs≠[]→w'.heap[ab p]? = w.heap[ab p]?):Row w' p cs :=
  ⟨h.adr,fun j v hv=>by
    have hne:cs≠[]:=by intro e;rw[e] at hv;simp at hv
    exact(World.cell?_of_block (w:=w) (a:=⟨ab p,ao p+j,none⟩) (hb hne)).trans (h.at_ j v hv)⟩
theorem RowIn.keep {B:Nat} {e:TypeId} {E:List TypeId} {w w':World} {p:Option Addr} {cs:List Value} (h:RowIn B e w p cs) (hs:Same B (e :: E) w w'):RowIn B e w' p cs:=by
  have hb:cs≠[]→w'.heap[ab p]? = w.heap[ab p]? := fun hne=>hs _ (h.row.lt hne) ((h.ok hne).imp id fun e'=>⟨e,by simp,e'⟩)
  exact⟨h.row.of_block hb,fun hne=>(h.ok hne).imp id fun e'=>(B7 (hb hne)).trans e'⟩
theorem RowIn.mono {B B':Nat} {e:TypeId} {w:World} {p:Option Addr} {cs:List Value} (h:RowIn B e w p cs) (hB:B≤B'):RowIn B' e w p cs:=⟨h.row,fun hne=>(h.ok hne).imp (fun h=>by omega) id⟩
theorem RowIn.nil (B:Nat) (e:TypeId) (w:World) (p:Option Addr):RowIn B e w p []:=⟨Row.nil w p,fun h=>absurd rfl h⟩
theorem Row.take {w:World} {p:Option Addr} {cs:List Value} (h:Row w p cs) (m:Nat):Row w p (cs.take m) :=
  ⟨fun hne=>h.adr (by intro e;rw[e] at hne;simp at hne),fun j v hv=>h.at_ j v (by rw[List.getElem?_take] at hv;split at hv;exact hv;cases hv)⟩
theorem RowIn.take {B:Nat} {e:TypeId} {w:World} {p:Option Addr} {cs:List Value} (h:RowIn B e w p cs) (m:Nat):RowIn B e w p (cs.take m):=⟨h.row.take m,fun hne=>h.ok (by intro e;rw[e] at hne;simp at hne)⟩
def adv (p:Option Addr) (m:Nat):Option Addr:=p.map (·.add m)
theorem Xb (p:Option Addr) (m:Nat):ab (adv p m)=ab p:=by
  cases p with
  | none=>rfl
  | some a=>show (a.add m).block=a.block;unfold Addr.add;split <;> rfl
theorem Acb {p:Option Addr} (m:Nat) (h:p≠none):ao (adv p m)=ao p+m:=by
  cases p with
  | none=>exact absurd rfl h
  | some a=>show (a.add m).off=a.off+m;unfold Addr.add;split <;> simp_all
theorem Row.drop {w:World} {p:Option Addr} {cs:List Value} (h:Row w p cs) (m:Nat):Row w (adv p m) (cs.drop m):=by
  by_cases hc:cs.drop m=[]
  · rw[hc];exact Row.nil _ _
  · have hne : cs ≠ [] := by intro e; rw [e] at hc; simp at hc
    have hp:=h.adr hne
    have hp':p≠none:=by rw[hp];simp
    refine⟨fun _=>?_,fun j v hv=>?_⟩
    · rw [Xb, Acb m hp']
      generalize ab p=b at *
      generalize ao p=o at *
      subst hp
      show some (Addr.add _ m)=_
      rw[Addr.add_mid]
    · rw [Xb, Acb m hp', Nat.add_assoc]
      exact h.at_ (m+j) v (by rw[List.getElem?_drop] at hv;exact hv)
theorem RowIn.drop {B:Nat} {e:TypeId} {w:World} {p:Option Addr} {cs:List Value} (h:RowIn B e w p cs) (m:Nat):RowIn B e w (adv p m) (cs.drop m) :=
  ⟨h.row.drop m,fun hne=>by rw[Xb];exact h.ok (by intro e;rw[e] at hne;simp at hne)⟩
structure Kind (α:Type) where
  sz:Nat
  E:List TypeId
  K:Nat→World→α→List Value→Prop
  len:∀ {B w x cs},K B w x cs→cs.length=sz
  one:∀ {B w x cs},K B w x cs→∀ v∈cs,v.oneCell'=true
  keep:∀ {B w w' x cs},Same B E w w'→K B w x cs→K B w' x cs
  mono:∀ {B B' w x cs},B≤B'→K B w x cs→K B' w x cs
variable {α : Type}
def Kind.All (d:Kind α) (B:Nat) (w:World):List α→List (List Value)→Prop
  | [],[]=>True
  | x :: xs,c :: cs=>d.K B w x c∧d.All B w xs cs
  | _,_=>False
namespace Kind
variable {d : Kind α} {B : Nat} {w w' : World}
theorem All.length:∀ {xs:List α} {css:List (List Value)},d.All B w xs css→css.length=xs.length
  | [],[],_=>rfl
  | _ :: _,_ :: _,h=>by simp[All.length h.2]
  | [],_ :: _,h=>h.elim
  | _ :: _,[],h=>h.elim
theorem All.flat:∀ {xs:List α} {css:List (List Value)},d.All B w xs css→css.flatten.length=xs.length * d.sz
  | [],[],_=>by simp
  | _ :: _,_ :: _,h=>by simp only[List.flatten_cons,List.length_append,d.len h.1,All.flat h.2,List.length_cons,Nat.add_mul,Nat.one_mul];omega
  | [],_ :: _,h=>h.elim
  | _ :: _,[],h=>h.elim
theorem All.one:∀ {xs:List α} {css:List (List Value)},d.All B w xs css→∀ v∈css.flatten,v.oneCell'=true
  | [],[],_,v,hv=>by simp at hv
  | _ :: _, _ :: _, h, v, hv => by
    simp only[List.flatten_cons,List.mem_append] at hv
    rcases hv with hv | hv
    · exact d.one h.1 v hv
    · exact All.one h.2 v hv
  | [],_ :: _,h,_,_=>h.elim
  | _ :: _,[],h,_,_=>h.elim
theorem All.imp {d:Kind α} {B B':Nat} {w w':World} (hk:∀ x cs,d.K B w x cs→d.K B' w' x cs):∀ {xs:List α} {css:List (List Value)},d.All B w xs css→d.All B' w' xs css
  | [],[],_=>trivial
  | _ :: _,_ :: _,h=>⟨hk _ _ h.1,All.imp hk h.2⟩
  | [],_ :: _,h=>h.elim
  | _ :: _,[],h=>h.elim
theorem All.keep {xs:List α} {css:List (List Value)} (h:d.All B w xs css) (hs:Same B d.E w w'):d.All B w' xs css:=h.imp fun _ _=>d.keep hs
theorem All.mono {B':Nat} {xs:List α} {css:List (List Value)} (h:d.All B w xs css) (hB:B≤B'):d.All B' w xs css:=h.imp fun _ _=>d.mono hB
theorem All.append:∀ {xs ys:List α} {css dss:List (List Value)},d.All B w xs css→d.All B w ys dss→d.All B w (xs++ys) (css++dss)
  | [],_,[],_,_,k=>k
  | _ :: _,_,_ :: _,_,h,k=>⟨h.1,All.append h.2 k⟩
  | [],_,_ :: _,_,h,_=>h.elim
  | _ :: _,_,[],_,h,_=>h.elim
theorem All.take:∀ {xs:List α} {css:List (List Value)} (m:Nat),d.All B w xs css→d.All B w (xs.take m) (css.take m)
  | [],[],m,_=>by simp[All]
  | _ :: _,_ :: _,0,_=>trivial
  | _ :: _,_ :: _,m+1,h=>⟨h.1,All.take m h.2⟩
  | [],_ :: _,_,h=>h.elim
  | _ :: _,[],_,h=>h.elim
theorem All.drop:∀ {xs:List α} {css:List (List Value)} (m:Nat),d.All B w xs css→d.All B w (xs.drop m) (css.drop m)
  | [],[],m,_=>by simp[All]
  | _ :: _,_ :: _,0,h=>h
  | _ :: _,_ :: _,m+1,h=>All.drop m h.2
  | [],_ :: _,_,h=>h.elim
  | _ :: _,[],_,h=>h.elim
theorem All.get (z:α):∀ {xs:List α} {css:List (List Value)} {i:Nat},d.All B w xs css→i<xs.length→d.K B w (xs.getD i z) (css.getD i [])
  | _ :: _,_ :: _,0,h,_=>h.1
  | x :: xs, c :: css, i + 1, h, hi => by
    simp only[List.getD_cons_succ]
    exact All.get z (xs:=xs) (css:=css) (i:=i) h.2 (by simpa using hi)
  | [],_,_,_,hi=>by simp at hi
  | _ :: _,[],_,h,_=>h.elim
theorem All.flat_take:∀ {xs:List α} {css:List (List Value)} (m:Nat),d.All B w xs css→(css.take m).flatten=css.flatten.take (m * d.sz)
  | [],[],m,_=>by simp
  | _ :: _,c :: css,0,_=>by simp
  | _ :: _, c :: css, m + 1, h => by
    have hc:=d.len h.1
    rw[List.take_succ_cons,List.flatten_cons,List.flatten_cons,All.flat_take m h.2,Nat.add_mul,Nat.one_mul,List.take_append,hc,Nat.add_sub_cancel]
    rw[List.take_of_length_le (by omega:c.length≤m * d.sz+d.sz)]
  | [],_ :: _,_,h=>h.elim
  | _ :: _,[],_,h=>h.elim
theorem All.flat_drop:∀ {xs:List α} {css:List (List Value)} (m:Nat),d.All B w xs css→(css.drop m).flatten=css.flatten.drop (m * d.sz)
  | [],[],m,_=>by simp
  | _ :: _,c :: css,0,_=>by simp
  | _ :: _, c :: css, m + 1, h => by
    have hc:=d.len h.1
    rw[List.drop_succ_cons,List.flatten_cons,All.flat_drop m h.2,Nat.add_mul,Nat.one_mul,List.drop_append,hc,Nat.add_sub_cancel]
    rw[List.drop_of_length_le (by omega:c.length≤m * d.sz+d.sz),List.nil_append]
  | [],_ :: _,_,h=>h.elim
  | _ :: _,[],_,h=>h.elim
theorem flat_get {css:List (List Value)} {s:Nat} (hs:∀ c∈css,c.length=s):∀ {i j:Nat} {v:Value},(css.getD i [])[j]? = some v→css.flatten[i * s+j]? = some v:=by
  induction css with
  | nil=>intro i j v h;simp at h
  | cons c css ih =>
    intro i j v h
    have hc:=hs c (by simp)
    have ih:=@ih (fun c hc=>hs c (by simp[hc]))
    cases i with
    | zero =>
      have hj:j<c.length:=by
        rcases Nat.lt_or_ge j c.length with h' | h'
        · exact h'
        · simp[List.getElem?_eq_none h'] at h
      simp only[List.getD_cons_zero] at h
      simp only[List.flatten_cons,Nat.zero_mul,Nat.zero_add]
      rw[List.getElem?_append_left hj];exact h
    | succ i =>
      simp only[List.getD_cons_succ] at h
      rw[List.flatten_cons,List.getElem?_append_right (by rw[Nat.add_mul];omega)]
      have e:(i+1) * s+j - c.length=i * s+j:=by rw[Nat.add_mul,hc];omega
      rw[e];exact ih h
theorem All.lens:∀ {xs:List α} {css:List (List Value)},d.All B w xs css→∀ c∈css,c.length=d.sz
  | [],[],_,c,hc=>by simp at hc
  | _ :: _, _ :: _, h, c, hc => by
    rcases List.mem_cons.1 hc with rfl | hc
    · exact d.len h.1
    · exact All.lens h.2 c hc
  | [],_ :: _,h,_,_=>h.elim
  | _ :: _,[],h,_,_=>h.elim
end Kind
structure Sl (d:Kind α) (e:TypeId) (B:Nat) (w:World) (p:Option Addr) (n c:Nat) (xs:List α):Prop where
  len:xs.length=n
  cap:n≤c
  fit:c≤9223372036854775807
  row:∃ css,d.All B w xs css∧RowIn B e w p css.flatten
namespace Sl
variable {d : Kind α} {e : TypeId} {B : Nat} {w w' : World} {p : Option Addr} {n c : Nat} {xs : List α}
theorem keep (h:Sl d e B w p n c xs) (hs:Same B (e :: d.E) w w'):Sl d e B w' p n c xs:=by
  obtain⟨css,ha,hr⟩:=h.row
  exact⟨h.len,h.cap,h.fit,css,ha.keep (hs.sub fun t ht=>List.mem_cons_of_mem _ ht),hr.keep hs⟩
theorem ext (h:Sl d e B w p n c xs) (hx:Ext w w'):Sl d e B w' p n c xs:=h.keep (hx.same B _)
theorem mod (h:Sl d e B w p n c xs) {B':Nat} {t:TypeId} (m:Mod B' t w w') (hB:B≤B') (ht:t∉e :: d.E):Sl d e B w' p n c xs:=h.keep (m.same hB ht)
theorem mono {B':Nat} (h:Sl d e B w p n c xs) (hB:B≤B'):Sl d e B' w p n c xs:=by
  obtain⟨css,ha,hr⟩:=h.row
  exact⟨h.len,h.cap,h.fit,css,ha.mono hB,hr.mono hB⟩
theorem nil (d:Kind α) (e:TypeId) (B:Nat) (w:World) (p:Option Addr) (c:Nat) (hc:c≤9223372036854775807):Sl d e B w p 0 c []:=⟨rfl,Nat.zero_le _,hc,[],trivial,RowIn.nil _ _ _ _⟩
theorem adr (h:Sl d e B w p n c xs) (hs:0<d.sz) (hn:0<n):p=some ⟨ab p,ao p,none⟩:=by
  obtain⟨css,ha,hr⟩:=h.row
  refine hr.row.ne ?_
  rw[ha.flat,h.len]
  exact Nat.mul_pos hn hs
theorem get (h:Sl d e B w p n c xs) (z:α) (i:Nat) (hi:i<n):∃ cs,d.K B w (xs.getD i z) cs∧w.rangeAt (ab p) (ao p+i * d.sz) cs:=by
  obtain⟨css,ha,hr⟩:=h.row
  refine⟨css.getD i [],ha.get z (by rw[h.len];exact hi),fun j v hv=>?_⟩
  rw[Nat.add_assoc]
  exact hr.row.at_ _ v (Kind.flat_get ha.lens hv)
theorem take (h:Sl d e B w p n c xs) (m:Nat) (hm:m≤n):Sl d e B w p m c (xs.take m):=by
  obtain⟨css,ha,hr⟩:=h.row
  have hc:=h.cap
  have hl:=h.len
  exact⟨by simp;omega,by omega,h.fit,css.take m,ha.take m,by rw[ha.flat_take];exact hr.take _⟩
theorem drop (h:Sl d e B w p n c xs) (m:Nat) (hm:m≤n):Sl d e B w (adv p (m * d.sz)) (n - m) (c - m) (xs.drop m):=by
  obtain⟨css,ha,hr⟩:=h.row
  have hc:=h.cap
  have hl:=h.len
  have hf:=h.fit
  exact⟨by simp;omega,by omega,by omega,css.drop m,ha.drop m,by rw[ha.flat_drop];exact hr.drop _⟩
end Sl
structure Own (d:Kind α) (e:TypeId) (B B0:Nat) (w:World) (p:Option Addr) (n c:Nat) (xs:List α):Prop where
  len:xs.length=n
  row:∃ css,d.All B w xs css∧w.ownsRow B0 e d.sz (.slice p n c) n css.flatten
namespace Own
variable {d : Kind α} {e : TypeId} {B B0 : Nat} {w w' : World} {p : Option Addr} {n c : Nat} {xs : List α}
theorem nil (d:Kind α) (e:TypeId) (B B0:Nat) (w:World):Own d e B B0 w none 0 0 []:=⟨rfl,[],trivial,World.ownsRow_nil _ _ _ _⟩
theorem form (h:Own d e B B0 w p n c xs):(p=none∧n=0∧c=0)∨∃ g cur,p=some ⟨g,0,none⟩∧B0≤g∧Blk w g cur e∧n≤c∧c≤9223372036854775807∧cur.size=c * d.sz:=by
  obtain⟨css,ha,ho⟩:=h.row
  rcases ho.2 with ⟨h1,h2⟩ | ⟨g,cap,cur,h1,h2,h3,h4,h5,h6,h7⟩
  · injection h1 with h1 h2 h3;exact .inl ⟨h1,h2,h3⟩
  · injection h1 with e1 e2 e3
    subst e1 e3
    exact .inr ⟨g,cur,rfl,h2,h3,h4,h5,h6⟩
theorem small (h:Own d e B B0 w p n c xs):n≤c∧c≤9223372036854775807:=by
  rcases h.form with ⟨_,h1,h2⟩ | ⟨_,_,_,_,_,h1,h2,_⟩
  · omega
  · exact⟨h1,h2⟩
theorem sl (h:Own d e B B0 w p n c xs):Sl d e B w p n c xs:=by
  obtain⟨css,ha,ho⟩:=h.row
  refine⟨h.len,h.small.1,h.small.2,css,ha,⟨?_,?_⟩⟩
  · rcases ho.2 with ⟨h1, h2⟩ | ⟨g, cap, cur, h1, h2, h3, h4, h5, h6, h7⟩
    · have : css.flatten = [] := List.eq_nil_of_length_eq_zero (by rw [ho.1, h2, Nat.zero_mul])
      rw[this];exact Row.nil _ _
    · injection h1 with e1 e2 e3
      subst e1
      refine⟨fun _=>rfl,fun j v hv=>?_⟩
      have:=ho.cells (g:=g) rfl j v hv
      have e2:(⟨g,0,none⟩:Addr).add j=⟨g,0+j,none⟩:=Addr.add_mid g 0 j
      rw[e2] at this
      exact this
  · intro hne
    rcases h.form with ⟨_,h1,_⟩ | ⟨g,cur,h1,_,h3,_⟩
    · exact absurd (List.eq_nil_of_length_eq_zero (by rw[ho.1,h1,Nat.zero_mul])) hne
    · right;rw[h1];exact h3.ty
theorem of_heap (h:Own d e B B0 w p n c xs) (hs:Same B d.E w w') (hb:∀ k,p=some ⟨k,0,none⟩→k<w.heap.size→w'.heap[k]? = w.heap[k]?):Own d e B B0 w' p n c xs:=by
  obtain⟨css,ha,ho⟩:=h.row
  refine⟨h.len,css,ha.keep hs,ho.1,?_⟩
  rcases ho.2 with hn | ⟨g,cap,cur,h1,h2,h3,h4⟩
  · exact .inl hn
  · injection h1 with e1 e2 e3
    subst e1 e3
    exact .inr ⟨g,c,cur,rfl,h2,(hb g rfl (Array.getElem?_eq_some_iff.1 h3).1).trans h3,h4⟩
theorem ext (h:Own d e B B0 w p n c xs) (hx:Ext w w'):Own d e B B0 w' p n c xs:=h.of_heap (hx.same _ _) (fun k _ hk=>hx.old k hk)
theorem mod (h:Own d e B B0 w p n c xs) {B':Nat} {t:TypeId} (m:Mod B' t w w') (hB:B≤B') (ht:t∉e :: d.E):Own d e B B0 w' p n c xs :=
  h.of_heap (m.same hB (fun hm=>ht (List.mem_cons_of_mem _ hm))) (fun k hk hlt=>by
    rcases h.form with ⟨h1,_,_⟩ | ⟨g,cur,h1,_,h3,_⟩
    · rw[h1] at hk;cases hk
    · rw [h1] at hk; injection hk with hk; injection hk with hk; subst hk
      exact m.old g hlt (.inr (by rw[h3.ty];intro e';injection e' with e';exact ht (by simp[e']))))
theorem lower {B0':Nat} (h:Own d e B B0 w p n c xs) (hB:B0'≤B0):Own d e B B0' w p n c xs:=by
  obtain⟨css,ha,ho⟩:=h.row
  refine⟨h.len,css,ha,ho.1,?_⟩
  rcases ho.2 with hn | ⟨g,cap,cur,h1,h2,h3⟩
  · exact .inl hn
  · exact .inr ⟨g,cap,cur,h1,by omega,h3⟩
theorem made (d:Kind α) (e:TypeId) (B B0:Nat) {w w':World} {g:Nat} {cs:Array Value} (hN:New w w' g cs e) (xs:List α) (css:List (List Value)) (n c:Nat) (hl:xs.length=n) (ha:d.All B w' xs css) (hB:B0≤w.heap.size) (hnc:n≤c) (hc:c≤9223372036854775807)
    (hs:cs.size=c * d.sz) (ht:cs.toList.take (n * d.sz)=css.flatten):Own d e B B0 w' (some ⟨g,0,none⟩) n c xs :=
  ⟨hl,css,ha,by rw[ha.flat,hl],.inr ⟨g,c,cs,rfl,by rw[hN.g_eq];exact hB,hN.blk,hnc,hc,hs,ht⟩⟩
end Own
theorem Dv (g:Nat):∀ (vs:List Value) (o:Nat) (w:World) (k:Nat),k≠g→(w.setCells g o vs).heap[k]? = w.heap[k]?
  | [],_,_,_,_=>rfl
  | v :: r, o, w, k, h => by
    rw[World.setCells,Dv g r (o+1) _ k h]
    exact Below.heap_setCell w ⟨g,o,none⟩ v k h
theorem F0 (g:Nat):∀ (vs:List Value) (o:Nat) (w:World),(w.setCells g o vs).heap.size=w.heap.size
  | [],_,_=>rfl
  | v :: r,o,w=>by rw[World.setCells,F0 g r (o+1)];simp[World.setCell]
theorem D8 (g:Nat):∀ (vs:List Value) (o:Nat) (w:World),drw (w.setCells g o vs)=drw w∧(w.setCells g o vs).os=w.os∧(w.setCells g o vs).tape=w.tape∧(w.setCells g o vs).output=w.output
  | [],_,_=>⟨rfl,rfl,rfl,rfl⟩
  | v :: r,o,w=>by rw[World.setCells];exact D8 g r (o+1) _
theorem Gn {g:Nat} {t:TypeId}:∀ (vs:List Value) (o:Nat) (w:World) (cs:Array Value),Blk w g cs t→o+vs.length≤cs.size→Blk (w.setCells g o vs) g (cs.toList.take o++vs++cs.toList.drop (o+vs.length)).toArray t
  | [],o,w,cs,h,_=>by simpa [World.setCells] using h
  | v :: r, o, w, cs, h, hl => by
    simp only[List.length_cons] at hl
    have h1:Blk (w.setCell ⟨g,o,none⟩ v) g (cs.setIfInBounds o v) t:=heap_setCell_same w g o cs t v h
    have h2:=Gn r (o+1) _ _ h1 (by simp;omega)
    rw[World.setCells]
    have e:((cs.setIfInBounds o v).toList.take (o+1)++r++(cs.setIfInBounds o v).toList.drop (o+1+r.length))=cs.toList.take o++v :: r++cs.toList.drop (o+(v :: r).length):=by
      have ho:o<cs.toList.length:=by simp;omega
      rw[Array.toList_setIfInBounds,List.take_set,List.drop_set_of_lt (by omega)]
      have e1:(cs.toList.take (o+1)).set o v=cs.toList.take o++[v]:=by
        rw[List.take_succ_eq_append_getElem ho,List.set_append_right _ _ (by simp;omega)]
        have:o - (cs.toList.take o).length=0:=by simp;omega
        rw[this];rfl
      rw[e1,List.length_cons,show o+1+r.length=o+(r.length+1) from by omega]
      simp
    rw[← e];exact h2
theorem J0 {P:Program} {sz:Nat} {tx e':TypeId} (hk:P.underlying tx=some (.slice e')) {w:World} {p:Option Addr} {m c:Nat} {news:List Value} (hr:Row w p news) (hl:news.length=m * sz) (hsz:0<sz) (h1:∀ u∈news,u.oneCell'=true) :
    Src P sz tx (.slice p m c) m news w:=by
  cases p with
  | none =>
    have hn:news=[]:=by
      cases news with
      | nil=>rfl
      | cons v r=>have:=hr.adr (by simp);simp[ab,ao] at this
    subst hn
    have hm:m=0:=by
      rcases Nat.eq_zero_or_pos m with h | h
      · exact h
      · have:=Nat.mul_pos h hsz;simp at hl;omega
    subst hm
    exact Src.ofNil w hk c
  | some a =>
    refine Src.ofSlice w hk a m c news hl (fun j u hu=>?_) h1
    have hp:=hr.adr (by intro e;rw[e] at hu;simp at hu)
    have:=hr.at_ j u hu
    injection hp with hp
    rw[← Addr.add_mid,← hp] at this
    exact this
section append
variable {P : Program} {ops : Array Oper} {Q : Exit → Act → World → Prop} {rest : List Oper} {N : Nat} {f : Nat → Value} {w : World} {α : Type}
variable {t0 : TypeId} {pos : String} {aft : Array Edge} {dst : Nat} {x y : Operand} {T tx : TypeId}
theorem O3 {d:Kind α} {e:TypeId} {B B0:Nat} {p:Option Addr} {n c m:Nat} {xs ys:List α} {v z:Value} {news:List Value} {bytes:Nat}
    (hT:P.underlying T=some (.slice e)) (hi:(P.info? e).map (fun i=>(i.zero,i.size,i.bytes))=some (some z,d.sz,bytes)) (hz:z.cells.size=d.sz) (hsz:0<d.sz)
    (hO:Own d e B B0 w p n c xs) (hs:Src P d.sz tx v m news w) (hl:ys.length=m) {dss:List (List Value)} (ha:d.All B w ys dss) (hn:dss.flatten=news) (hb:((n+m)+(n+m) / 4+192) * bytes≤281474976710656) (hm:n+m≤4611686018427387904)
    (hB0:B0≤w.heap.size) (hBB:B≤B0) (hE:e∉d.E) :
    ∃ p' c' w',(Builtin.append_ #[T,tx] t0 #[.slice p n c,v]).run P w = .ok (.slice p' (n+m) c') w'∧Own d e B B0 w' p' (n+m) c' (xs++ys)∧Mod B0 e w w':=by
  obtain⟨i,hi0,hi1⟩:=Option.map_eq_some_iff.1 hi
  simp only[Prod.mk.injEq] at hi1
  obtain⟨hiz,his,hib⟩:=hi1
  obtain⟨css,hxs,ho⟩:=hO.row
  have hlen:(css.flatten++news).length=(n+m) * d.sz:=by rw[List.length_append,ho.1,hs.newsLen,Nat.add_mul]
  have hbl:∀ b,b<9223372036854775808→True:=fun _ _=>trivial
  -- a new row
  have grow:∀ (base:Option Addr) (sCap:Nat),sCap<n+m→(Builtin.firstCells i.size n (.slice base n sCap)).run P w.drew = .ok css.flatten.toArray w.drew →
      ∃ p' c' w',(Builtin.append_ #[T,tx] t0 #[.slice base n sCap,v]).run P w = .ok (.slice p' (n+m) c') w'∧Own d e B B0 w' p' (n+m) c' (xs++ys)∧Mod B0 e w w':=by
    intro base sCap hg hold
    have hr:=run_append_grow_src (P:=P) w T tx t0 e i z hT hi0 hiz base n sCap css.flatten hold v m news (by rw[his];exact hs) hg (by omega) (growslice_fits_wide hg (by rw[hib];exact hb))
    refine⟨_,_,_,hr,?_,?_⟩
    · have hN : New w.drew (w.drew.alloc (.cells ((css.flatten ++ news).toArray ++ Builtin.zeroCells z.cells (grownCap w (n + m) sCap e - (n + m))) e)) w.drew.heap.size _ e := New.alloc _ _ _
      have hx:Ext w (w.drew.alloc (.cells ((css.flatten++news).toArray++Builtin.zeroCells z.cells (grownCap w (n+m) sCap e - (n+m))) e)):=(Ext.drew w).trans hN.ext
      have hge:=grownCap_ge w (n+m) sCap e
      have hcm:grownCap w (n+m) sCap e≤maxLen:=grownCap_le_maxLen w (n+m) sCap e (by unfold maxLen;omega)
      refine Own.made d e B B0 hN (xs++ys) (css++dss) (n+m) _ (by rw[List.length_append,hO.len,hl]) ((hxs.keep (hx.same _ _)).append (ha.keep (hx.same _ _))) hB0 hge (by unfold maxLen at hcm;omega) ?_ ?_
      · simp only [Array.size_append, List.size_toArray, size_zeroCells, hz, hlen, ← Nat.add_mul]
        congr 1;omega
      · rw [Array.toList_append, ← hlen, List.take_left', List.flatten_append, hn]
        simp
    · exact .ofExt ((Ext.drew w).trans (Ext.alloc _ _))
  rcases ho.2 with ⟨h1,h2⟩ | ⟨g,cap,cur,h1,h2,h3,h4,h5,h6,h7⟩
  · injection h1 with e1 e2 e3
    subst e1 e3
    have hcf:css.flatten=[]:=List.eq_nil_of_length_eq_zero (by rw[ho.1,h2,Nat.zero_mul])
    by_cases hm0:m=0
    · have hy : ys = [] := List.eq_nil_of_length_eq_zero (by rw [hl, hm0])
      have hnews:news=[]:=List.eq_nil_of_length_eq_zero (by rw[hs.newsLen,hm0,Nat.zero_mul])
      subst h2 hm0
      refine⟨none,0,w,?_,by rw[hy,List.append_nil];exact hO,.refl _ _ _⟩
      have hc:=hs.cells
      rcases hs.kind with ⟨e',hk⟩ | hk <;> simp[Builtin.append_,run_underlying hT,run_underlying hk,sizeOf,typeInfo,hi0,hs.len,his,hc]
    · refine grow none 0 (by omega) ?_
      rw[hcf]
      have:n=0:=h2
      subst this
      exact run_firstCells_none w.drew i.size 0 0 0
  · injection h1 with e1 e2 e3
    subst e1 e3
    by_cases hroom:n+m≤c
    · have hfit : n * d.sz + news.length ≤ cur.size := by rw [hs.newsLen, h6, ← Nat.add_mul]; exact Nat.mul_le_mul_right _ hroom
      have hB:Blk w g cur e:=h3
      have hr:=run_append_room_src (P:=P) w T tx t0 e i hT hi0 g 0 n c v m news (by rw[his];exact hs) hroom
        (fun j hj=>by
          have hlt:0+n * i.size+j<cur.size:=by rw[his];omega
          rw[hB.cell (v:=cur[0+n * i.size+j]) (Array.getElem?_eq_getElem hlt)];rfl)
        (fun j _=>frozen_of_row w g _ cur e hB)
      rw[his,Nat.zero_add] at hr
      have hnew:=Gn news (n * d.sz) w cur hB hfit
      have hmod:Mod B0 e w (w.setCells g (n * d.sz) news):=by
        obtain⟨r1,r2,r3,r4⟩:=D8 g news (n * d.sz) w
        refine⟨Nat.le_of_eq (F0 g news _ w).symm,fun k hk ho'=>Dv g news _ w k (fun ek=>?_),fun k hk=>?_,by rw[r1];exact Nat.le_refl _,r2,r3,r4⟩
        · subst ek
          rcases ho' with ho' | ho'
          · omega
          · exact ho' hB.ty
        · by_cases ek : k = g
          · subst ek;rw[hnew.ty,hB.ty]
          · exact B7 (Dv g news _ w k ek)
      refine⟨_,_,_,hr,⟨by rw[List.length_append,hO.len,hl],css++dss,(hxs.keep (hmod.same hBB hE)).append (ha.keep (hmod.same hBB hE)),?_,?_⟩,hmod⟩
      · rw[List.flatten_append,hn,hlen]
      · refine .inr ⟨g, c, _, rfl, h2, hnew, hroom, h5, ?_, ?_⟩
        · simp only[List.size_toArray,List.length_append,List.length_take,List.length_drop,Array.length_toList];omega
        · simp only [List.flatten_append, hn]
          rw[h7,← hlen]
          exact List.take_left
    · refine grow _ _ (by omega) ?_
      rw[his]
      refine run_firstCells_some w.drew d.sz n ⟨g,0,none⟩ n c css.flatten ho.1 (fun j u hu=>?_)
      have:=ho.cells (g:=g) rfl j u hu
      simpa using this
theorem Az {d:Kind α} {e:TypeId} {B B0:Nat} {p:Option Addr} {n c m:Nat} {xs:List α} {v z:Value} {news:List Value} {bytes:Nat} (ys:List α)
    (hT:P.underlying T=some (.slice e)) (hi:(P.info? e).map (fun i=>(i.zero,i.size,i.bytes))=some (some z,d.sz,bytes)) (hz:z.cells.size=d.sz) (hsz:0<d.sz)
    (hx:ev N f x = .slice p n c) (hy:ev N f y=v) (hO:Own d e B B0 w p n c xs) (hs:Src P d.sz tx v m news w) (hl:ys.length=m) {dss:List (List Value)} (ha:d.All B w ys dss) (hn:dss.flatten=news)
    (hb:((n+m)+(n+m) / 4+192) * bytes≤281474976710656) (hm:n+m≤4611686018427387904) (hB0:B0≤w.heap.size) (hBB:B≤B0) (hE:e∉d.E)
    (k:∀ p' c' w',Own d e B B0 w' p' (n+m) c' (xs++ys)→Mod B0 e w w'→Lst P ops Q rest (fr N (upd f dst (.slice p' (n+m) c'))) w') :
    Lst P ops Q (⟨some dst,.call ⟨.builtin .append,#[x,y],#[T,tx]⟩,t0,pos,aft,none⟩ :: rest) (fr N f) w:=by
  obtain⟨p',c',w',hr,h1,h2⟩:=O3 (t0:=t0) hT hi hz hsz hO hs hl ha hn hb hm hB0 hBB hE
  refine l1 (w':=w') (v := .slice p' (n+m) c') ?_ (k p' c' w' h1 h2)
  simp only[execOp,resolve,invoke,builtin,Sem.run_bind,Sem.run_pure,Result.andThen_ok,List.map_toArray,List.map_cons,List.map_nil,hx,hy,hr]
end append
end
section
open Go.ChangeShapes Go.WideShapes Go.ChangeAt Go.RowKit
section
variable {H : Type} {enc : TypeId × Value → H} {P : Program}
def Ij (P:Program) (ts:List TypeId):Bool:=ts.all fun t=>P.readableRec t && decide (t<P.types.size)
theorem Km (hl:laidOutB P=true) {W W':World} {sp:Nat→Bool}:∀ {ts:List TypeId} {vs:List Value} {ds:List (DataW H)} {ps:List MemPlace},Ij P ts=true →
    DataW.TrodAll enc P W 0 (fun _=>true) true ts vs ds ps→(∀ p∈ps,W.sameAt W' p)→(∀ p∈ps,sp p.block=true)→DataW.TrodAll enc P W' 0 sp true ts vs ds ps
  | [], vs, ds, ps, _, h, _, _ => by
    obtain⟨rfl,rfl,rfl⟩:=trodAll_nil h
    exact trodAll_mk0
  | t :: ts, vs, ds, ps, hp, h, hs, hsp => by
    obtain⟨v,vs1,d,ds1,a,b,rfl,rfl,rfl,h1,h2⟩:=trodAll_cons h
    simp only[Ij,List.all_cons,Bool.and_eq_true,decide_eq_true_eq] at hp
    exact trodAll_cons_mk (WideElems.Trod_stays hl hp.1.1 hp.1.2 h1 (fun p hp=>hs p (by simp[hp])) (fun p hp=>hsp p (by simp[hp])))
      (Km hl hp.2 h2 (fun p hp=>hs p (by simp[hp])) (fun p hp=>hsp p (by simp[hp])))
theorem Aaq {f:Func} {s:ChangeSpec} {apart fresh handsOn again:Bool} {W W':World} {args:Array Value} {ds gs:List (DataW H)} {before:List MemPlace} {tb:TypeId} (hl:laidOutB P=true) (hty:Ij P f.params.toList=true)
    (hv:s.vars=[]) (hW:DataW.Whole enc P f.params.toList s.vars apart W args.toList ds gs before) (hx:Ext W W') (hr:f.resultTypes=#[tb]) (hb:P.underlying tb=some .bool)
    (hfn:gs=[]→(s.fn H (ds++gs)).results=[.lit (.bool true)]∧(s.fn H (ds++gs)).args=ds∧(s.fn H (ds++gs)).vars=[]):s.post enc P f apart fresh handsOn again W args (.bool true) W':=by
  have hW':=hW
  have hold:∀ p∈before,(fun b=>decide (b<W.heap.size)) p.block=true:=fun p hp=>by simpa using hW.lt p hp
  have hbel:=hx.below
  obtain⟨p,q,hA0,hV,e1,hz,hn⟩:=hW
  rw[hv] at hV
  obtain⟨rfl,rfl⟩:=trodVars_none hV
  obtain⟨h1,h2,h3⟩:=hfn rfl
  rw[List.append_nil] at e1
  subst e1
  have hA:DataW.TrodAll enc P W 0 (fun _=>true) true f.params.toList args.toList ds before:=hA0
  have hargs:∀ sp:Nat→Bool,(∀ x∈before,sp x.block=true)→DataW.TrodAll enc P W' 0 sp true f.params.toList args.toList ds before:=fun sp hsp =>
    Km hl hty hA (fun x hx'=>hbel.same (by simpa using hW'.lt x (by simpa using hx'))) hsp
  have hvars:∀ sp:Nat→Bool,DataW.TrodVars enc P W' sp s.vars (s.fn H (ds++[])).vars []:=fun sp=>by rw[hv,h3];trivial
  have hres:∀ (b:Nat) (sp:Nat→Bool) (hd:Bool),DataW.TrodAll enc P W' b sp hd f.resultTypes.toList ((Value.bool true).resultList f.resultTypes.size) (s.fn H (ds++[])).results []:=fun b sp hd=>by
    rw[hr,h1];exact trodAll_cons_mk (shut_bool hb _) trodAll_mk0
  refine⟨ds,[],before,[],before,[],hW',hres _ _ _,?_,hvars _,World.keptBut_mono (fun x hp=>⟨hp,?_⟩) (hbel.frame (·∈before)),fun _=>?_⟩
  · rw[h2];exact hargs _ hold
  · exact Or.inr (Or.inl hp)
  · have hargs2 : DataW.TrodAll enc P W' 0 (fun _ => true) true f.params.toList args.toList (s.fn H (ds ++ [])).args before := by rw [h2]; exact hargs _ (fun _ _ => rfl)
    refine⟨ok_one hr rfl (okWide_bool_mk hb _),_,_,([]++before)++[],⟨[]++before,[],trodAll_append hargs2 (hres _ _ _),hvars _,rfl,?_,?_⟩,?_⟩
    · intro b off hp
      have hp':MemPlace.cell b off∈before:=by simpa using hp
      have hlt:b<W.heap.size:=hW'.lt _ hp'
      have:=hz b off (by simpa using hp')
      rw[← this]
      unfold World.frozen?
      rw[hx.old b hlt]
    · intro ha
      have:=hn ha
      simpa using this
    · intro x hp _
      simpa using hp
end
end
def Kind.pure {α:Type} (sz:Nat) (enc:α→List Value) (hl:∀ x,(enc x).length=sz) (h1:∀ x,∀ v∈enc x,v.oneCell'=true):Kind α where
  sz:=sz
  E:=[]
  K:=fun _ _ x cs=>cs=enc x
  len:=fun h=>by rw[h];exact hl _
  one:=fun h v hv=>h1 _ v (by rw[h] at hv;exact hv)
  keep:=fun _ h=>h
  mono:=fun _ h=>h
def kByte:Kind UInt8 := .pure 1 (fun b=>[cell b]) (fun _=>rfl) (fun _ v hv=>by simp at hv;subst hv;rfl)
def kStr:Kind ByteArray := .pure 1 (fun s=>[.string s]) (fun _=>rfl) (fun _ v hv=>by simp at hv;subst hv;rfl)
abbrev Hash:={ l:List UInt8 // l.length=32 }
instance : Inhabited Hash := ⟨⟨List.replicate 32 0, by simp⟩⟩
def hcs (h:Hash):List Value:=h.1.map cell
def hv (h:Hash):Array Value:=(hcs h).toArray
theorem Ec (h:Hash):(hcs h).length=32:=by simp[hcs,h.2]
theorem S0 (h:Hash):∀ v∈hcs h,v.oneCell'=true:=by
  intro v hv
  unfold hcs at hv
  obtain⟨_,_,rfl⟩:=List.mem_map.1 hv
  rfl
theorem Gc {P:Program} {T:TypeId} (hs:(P.info? T).map (·.size)=some 32) (h:Hash):(P.info? T).map (·.size)=some (hcs h).length:=by rw[hs,Ec]
theorem C4 {P:Program} {T:TypeId} (hs:(P.info? T).map (·.size)=some 32) (h:Hash):(P.info? T).map (·.size)=some (hv h).size:=by rw[hs];simp[hv,Ec]
theorem Io (h:Hash) (i:Nat) (hi:i<32):(hv h)[i]? = some (.int .u8 (h.1.getD i 0).toNat):=by
  have:=h.2
  simp[hv,hcs,cell,this,hi]
def kHash:Kind Hash := .pure 32 hcs Ec S0
section pureAt
variable {α : Type} {e : TypeId} {B : Nat} {w : World} {p : Option Addr} {n c : Nat}
theorem Sl.hashAt {xs:List Hash} (h:Sl kHash e B w p n c xs) (i:Int) (h0:0≤i) (h1:i<(n:Int)):w.rangeAt (ab p) (ao p+i.toNat * 32) (hcs (xs.getD i.toNat default)):=by
  obtain⟨cs,hk,hr⟩:=h.get default i.toNat (by omega)
  have:cs=hcs (xs.getD i.toNat default):=hk
  subst this
  exact hr
theorem Sl.byteAt {xs:List UInt8} (h:Sl kByte e B w p n c xs) (i:Nat) (h1:i<n):w.cell? ⟨ab p,ao p+i,none⟩=some (.int .u8 (xs.getD i 0).toNat):=by
  obtain⟨cs,hk,hr⟩:=h.get 0 i h1
  have:cs=[cell (xs.getD i 0)]:=hk
  subst this
  have:=hr 0 _ rfl
  have e1:kByte.sz=1:=rfl
  rw[e1] at this
  simpa [cell] using this
theorem Sl.byteAtI {xs:List UInt8} (h:Sl kByte e B w p n c xs) (i:Int) (h0:0≤i) (h1:i<(n:Int)):w.cell? ⟨ab p,ao p+i.toNat * 1,none⟩=some (.int .u8 (xs.getD i.toNat 0).toNat):=by
  rw[Nat.mul_one];exact h.byteAt i.toNat (by omega)
end pureAt
theorem A5:0<kHash.sz:=by decide
theorem Bb:0<kByte.sz:=by decide
theorem Ej:0<kStr.sz:=by decide
theorem C6 {α:Type} {sz:Nat} {enc:α→List Value} {hl:∀ x,(enc x).length=sz} {h1:∀ x,∀ v∈enc x,v.oneCell'=true} (B:Nat) (w:World):∀ xs:List α,(Kind.pure sz enc hl h1).All B w xs (xs.map enc)
  | []=>trivial
  | x :: xs=>⟨rfl,C6 B w xs⟩
theorem Ia {α:Type} {sz:Nat} {enc:α→List Value} {hl:∀ x,(enc x).length=sz} {h1:∀ x,∀ v∈enc x,v.oneCell'=true} {B:Nat} {w:World}:∀ {xs:List α} {css:List (List Value)},(Kind.pure sz enc hl h1).All B w xs css→css=xs.map enc
  | [],[],_=>rfl
  | _ :: _,_ :: _,h=>by rw[List.map_cons,← Ia h.2];have:=h.1;simp only[Kind.pure] at this;rw[this]
  | [],_ :: _,h=>h.elim
  | _ :: _,[],h=>h.elim
theorem B6 (B:Nat) (w:World) (xs:List UInt8):kByte.All B w xs (xs.map fun b=>[cell b]):=C6 B w xs
theorem Ca (B:Nat) (w:World) (xs:List Hash):kHash.All B w xs (xs.map hcs):=C6 B w xs
theorem Bf (xs:List UInt8):(xs.map fun b=>[cell b]).flatten=xs.map cell:=by
  induction xs with
  | nil=>rfl
  | cons x xs ih=>simp[ih]
section
open Go.ChangeShapes Go.WideShapes Go.ChangeAt Go.RowKit
section
variable {H : Type} {enc : TypeId × Value → H} {P : Program} {W : World} {α : Type}
theorem W7 {w:World} {a:Addr} {v:Value} (h:w.cell? a=some v):a=⟨a.block,a.off,none⟩:=by
  obtain⟨b,o,s⟩:=a
  cases s with
  | none=>rfl
  | some s =>
    unfold World.cell? at h
    simp only[Option.isSome_some,if_true] at h
    split at h <;> cases h
theorem Xa (a:Addr):a.add 0=a:=rfl
def Opens (enc:TypeId×Value→H) (P:Program) (W:World) (d:Kind α) (e:TypeId):Prop :=
  ∀ fuel cs x,DataW.trod enc P W 0 (fun _=>true) true fuel e cs=some x→∃ y,d.K W.heap.size W y cs
theorem X9 {d:Kind α} {B:Nat} {Y:Nat→α} {C:Nat→List Value}:∀ (l:List Nat),(∀ i∈l,d.K B W (Y i) (C i))→d.All B W (l.map Y) (l.map C)
  | [],_=>trivial
  | i :: l,h=>⟨h i (by simp),X9 l (fun j hj=>h j (by simp[hj]))⟩
theorem Abs {C:Nat→List Value} {sz:Nat}:∀ (len:Nat) (j:Nat) (v:Value),(∀ i,i<len→(C i).length=sz)→(((List.range len).map C).flatten)[j]? = some v→0<sz∧j / sz<len∧(C (j / sz))[j % sz]? = some v:=by
  intro len j v hl hv
  have hf:(((List.range len).map C).flatten).length=len * sz:=by
    have:∀ l:List Nat,(∀ i∈l,(C i).length=sz)→((l.map C).flatten).length=l.length * sz:=by
      intro l
      induction l with
      | nil=>intro _;simp
      | cons i l ih=>intro h;rw[List.map_cons,List.flatten_cons,List.length_append,h i (by simp),ih (fun k hk=>h k (by simp[hk])),List.length_cons,Nat.add_mul];omega
    rw[this _ (fun i hi=>hl i (by simpa using hi))];simp
  have hj:j<len * sz:=by
    rcases Nat.lt_or_ge j (len * sz) with h | h
    · exact h
    · rw[List.getElem?_eq_none (by omega)] at hv;cases hv
  have hs:0<sz:=by rcases Nat.eq_zero_or_pos sz with h | h;(· subst h;simp at hj);(· exact h)
  have hi:j / sz<len:=Nat.div_lt_of_lt_mul (by rw[Nat.mul_comm];exact hj)
  refine⟨hs,hi,?_⟩
  have hlen:=hl _ hi
  have hr:j % sz<sz:=Nat.mod_lt _ hs
  have hg:((((List.range len).map C)).getD (j / sz) [])[j % sz]? = some ((C (j / sz))[j % sz]'(by omega)):=by
    rw[List.getD_eq_getElem?_getD,List.getElem?_map,List.getElem?_range hi]
    simp[hlen,hr]
  have:=Kind.flat_get (s:=sz) (css:=(List.range len).map C) (fun c hc=>by
    obtain⟨i,hi,rfl⟩:=List.mem_map.1 hc
    exact hl i (by simpa using hi)) hg
  have e1:j / sz * sz+j % sz=j:=by have:=Nat.div_add_mod j sz;rw[Nat.mul_comm] at this;omega
  rw[e1,hv] at this
  rw[this];exact List.getElem?_eq_getElem (by omega)
theorem Xo [Inhabited α] {d:Kind α} {t e:TypeId} (ht:P.underlying t=some (.slice e)) (hc:P.cellsOf e=d.sz) (hO:Opens enc P W d e) {fuel:Nat} {cs:List Value} {x:DataW H×List MemPlace}
    (h:DataW.trod enc P W 0 (fun _=>true) true fuel t cs=some x):∃ p n c xs,cs=[.slice p n c]∧Sl d e W.heap.size W p n c xs∧c≤maxLen∧(x.1 = .nil∧n=0∨∃ es rs,x.1 = .slice es rs∧es.length=n):=by
  rcases Deep.open_slice ht h with ⟨h0,h1⟩ | ⟨a,len,cap,m,n,D,Pl,rfl,hb,hl,hm,hmm,rfl,hx⟩
  · exact⟨none,0,0,[],h0,Sl.nil _ _ _ _ _ _ (by omega),by unfold maxLen;omega,.inl ⟨by rw[h1],rfl⟩⟩
  · have hmm : m = cap := by simpa using hmm
    subst hmm
    rw[hc] at hx
    obtain⟨C,hC⟩:=Deep.choose_lt (α:=List Value) (n:=len) (p:=fun i cs'=>W.cells? 0 (a.add (i * d.sz)) d.sz=some cs'∧DataW.trod enc P W 0 (fun _=>true) true n e cs'=some (D i,Pl i)) (fun i hi=>hx i (by omega))
    obtain⟨Y,hY⟩:=Deep.choose_lt (α:=α) (n:=len) (p:=fun i y=>d.K W.heap.size W y (C i)) (fun i hi=>hO _ _ _ (hC i hi).2)
    have hfit:m≤9223372036854775807:=by unfold maxLen at hm;omega
    refine⟨some a,len,m,(List.range len).map Y,rfl,⟨by simp,hl,hfit,(List.range len).map C,X9 _ (fun i hi=>hY i (by simpa using hi)),?_⟩,hm,.inr ⟨_,_,rfl,by simp⟩⟩
    have cell:∀ j v,(((List.range len).map C).flatten)[j]? = some v→W.cell? (a.add j)=some v:=by
      intro j v hv
      obtain⟨hs,hi,hr⟩:=Abs len j v (fun i hi=>d.len (hY i hi)) hv
      obtain⟨_,hlen,hcell⟩:=World.cells?_some (hC _ hi).1
      have:=hcell (j % d.sz) (Nat.mod_lt _ hs)
      rw[hr] at this
      have e1:j / d.sz * d.sz+j % d.sz=j:=by have:=Nat.div_add_mod j d.sz;rw[Nat.mul_comm] at this;omega
      rw[Addr.add_add,e1] at this
      exact this
    have plain:((List.range len).map C).flatten≠[]→a=⟨a.block,a.off,none⟩:=by
      intro hne
      cases hfl:((List.range len).map C).flatten with
      | nil=>exact absurd hfl hne
      | cons v r =>
        have:=cell 0 v (by rw[hfl];rfl)
        rw[Xa] at this;exact W7 this
    refine⟨⟨fun hne=>congrArg some (plain hne),fun j v hv=>?_⟩,fun hne=>?_⟩
    · have hp := plain (by intro e; rw [e] at hv; simp at hv)
      have:=cell j v hv
      show W.cell? ⟨a.block,a.off+j,none⟩=some v
      rw[hp,Addr.add_mid] at this
      exact this
    · left
      cases hfl:((List.range len).map C).flatten with
      | nil=>exact absurd hfl hne
      | cons v r =>
        have:=World.block_lt_of_cell? W _ (cell 0 v (by rw[hfl];rfl))
        show a.block<W.heap.size
        have e2:(a.add 0).block=a.block:=by unfold Addr.add;split <;> rfl
        rw[e2] at this;exact this
theorem Aez [Inhabited α] {k:Kind α} {t e:TypeId} {r:Reach} {b0:Nat} {v:Value} {d:DataW H} {ps:List MemPlace} (ht:P.underlying t=some (.slice e)) (hc:P.cellsOf e=k.sz) (hO:Opens enc P W k e) (hval:Value.okWide P W r b0 t v)
    (h:DataW.Trod enc P W 0 (fun _=>true) true t v d ps):∃ p n c xs,v = .slice p n c∧Sl k e W.heap.size W p n c xs∧c≤maxLen∧(d = .nil∧n=0∨∃ es rs,d = .slice es rs∧es.length=n):=by
  obtain⟨p,n,c,rfl⟩:=okWide_slice ht hval
  obtain⟨fuel,hf⟩:=h
  obtain⟨p',n',c',xs,h1,h2,h3,h4⟩:=Xo ht hc hO hf
  have h1:[Value.slice p n c]=[.slice p' n' c']:=h1
  injection h1 with h1
  injection h1 with e1 e2 e3
  subst e1 e2 e3
  exact⟨p,n,c,xs,rfl,h2,h3,h4⟩
theorem Wd {e:TypeId} (he:P.underlying e=some (.int .u8)):Opens enc P W kByte e:=by
  intro fuel cs x h
  obtain⟨n,rfl,_,hw⟩:=DataW.trod_int he h
  have hb:0≤n∧n≤255:=by simpa [Lit.wf,IntKind.min,IntKind.max,IntKind.signed,IntKind.bits] using hw
  refine⟨UInt8.ofNat n.toNat,?_⟩
  show [Value.int .u8 n]=[Extern.Stop.cell (UInt8.ofNat n.toNat)]
  unfold Extern.Stop.cell
  congr 2
  simp
  omega
end
end
def lex:List UInt8→List UInt8→Bool
  | x :: l,y :: m=>if x=y then lex l m else decide (x<y)
  | _,_=>false
theorem Ph:∀ (a b:List UInt8) (k:Nat),k<a.length→k<b.length→(∀ i,i<k→a.getD i 0=b.getD i 0)→a.getD k 0≠b.getD k 0→lex a b=decide (a.getD k 0<b.getD k 0)
  | x :: l, y :: m, 0, _, _, _, h => by
    simp at h
    simp[lex,h]
  | x :: l, y :: m, k + 1, ha, hb, he, h => by
    have h0:x=y:=he 0 (by omega)
    simp only[lex,if_pos h0]
    rw[Ph l m k (by simpa using ha) (by simpa using hb) (fun i hi=>he (i+1) (by omega)) h]
    simp
  | [],_,k,ha,_,_,_=>by simp at ha
  | _ :: _,[],k,_,hb,_,_=>by simp at hb
theorem Ja:∀ a:List UInt8,lex a a=false
  | []=>rfl
  | x :: l=>by simp[lex,Ja l]
theorem Mw {a b:List UInt8} (h:a.length=b.length) (he:∀ i,i<a.length→a.getD i 0=b.getD i 0):a=b:=by
  apply List.ext_getElem h
  intro i h1 h2
  have:=he i h1
  simpa [h1,h2] using this
theorem Ga {a b:UInt8}:((a.toNat:Int)=(b.toNat:Int))↔a=b:=by
  constructor
  · intro h;exact UInt8.toNat_inj.1 (by omega)
  · intro h;rw[h]
theorem Z6 {a b:UInt8}:((a.toNat:Int)<(b.toNat:Int))↔a<b:=by
  rw[UInt8.lt_iff_toNat_lt];omega
theorem R7 {a b:UInt8}:decide ((a.toNat:Int)<(b.toNat:Int))=decide (a<b):=decide_eq_decide.2 Z6
def hlt (a b:Hash):Bool:=lex a.1 b.1
theorem G6 (a:Hash):hlt a a=false:=Ja _
theorem Sz {a b:Hash} (k:Nat) (hk:k<32) (he:∀ i,i<k→a.1.getD i 0=b.1.getD i 0) (h:a.1.getD k 0≠b.1.getD k 0):hlt a b=decide (a.1.getD k 0<b.1.getD k 0) :=
  Ph a.1 b.1 k (by rw[a.2];exact hk) (by rw[b.2];exact hk) he h
theorem G7 {a b:Hash} (h:∀ i,i<32→a.1.getD i 0=b.1.getD i 0):a=b:=Subtype.ext (Mw (by rw[a.2,b.2]) (fun i hi=>h i (by rw[a.2] at hi;exact hi)))
def hcmp (a b:Hash):Int:=if a=b then 0 else if hlt a b=true then -1 else 1
theorem Pg {α:Type} {z:α} {a b:List α} (h:a.length=b.length) (he:∀ i,i<a.length→a.getD i z=b.getD i z):a=b:=by
  apply List.ext_getElem h
  intro i h1 h2
  have:=he i h1
  simpa [h1,h2] using this
theorem Dq {α:Type} {z x:α} {xs:List α} {i:Nat} (hi:i<xs.length) (h:xs.getD i z=x):x∈xs:=by
  rw[← h,List.getD_eq_getElem?_getD,List.getElem?_eq_getElem hi]
  exact List.getElem_mem hi
section
variable {P : Program} {ops : Array Oper} {Q : Exit → Act → World → Prop} {rest : List Oper} {n : Nat} {f : Nat → Value} {w : World}
variable {op : Op} {ty0 : TypeId} {pos : String} {aft : Array Edge} {dst : Nat} {v z : Value} {x y : Operand} {T e : TypeId} {dst' : Option Nat} {gd : Option (Nat × Bool)}
theorem Jb {sz bytes:Nat} (h:(P.info? e).map (fun i=>(i.zero,i.size,i.bytes))=some (some z,sz,bytes)):∃ i,P.info? e=some i∧i.zero=some z∧i.size=sz∧i.bytes=bytes:=by
  obtain⟨i,hi,h⟩:=Option.map_eq_some_iff.1 h
  simp only[Prod.mk.injEq] at h
  exact⟨i,hi,h.1,h.2.1,h.2.2⟩
theorem Aax {sz bytes:Nat} {k k':IntKind} {l c:Int} (hT:P.underlying T=some (.slice e)) (hi:(P.info? e).map (fun i=>(i.zero,i.size,i.bytes))=some (some z,sz,bytes)) (hx:ev n f x = .int k l) (hy:ev n f y = .int k' c)
    (h0:0≤l) (hlc:l≤c) (hb:(bytes:Int) * c≤281474976710656) (h63:c≤9223372036854775807)
    (k:∀ w' g,New w w' g (madeCells z.cells (c.toNat * sz)) e→Lst P ops Q rest (fr n (upd f dst (.slice (some ⟨g,0,none⟩) l.toNat c.toNat))) w') :
    Lst P ops Q (⟨some dst,.makeSlice T x y,ty0,pos,aft,none⟩ :: rest) (fr n f) w:=by
  obtain⟨i,hi1,hiz,rfl,rfl⟩:=Jb hi
  clear hi
  refine l1 (w':=w.alloc (.cells (madeCells z.cells (c.toNat * i.size)) e)) (v := .slice (some ⟨w.heap.size,0,none⟩) l.toNat c.toNat) ?_ (k _ _ (New.alloc _ _ _))
  simp only[execOp,hx,hy,Sem.run_bind,run_make (P:=P) w T e i z hT hi1 hiz _ _ l c h0 hlc hb h63,Result.andThen_ok]
  rfl
def Co (P:Program) (T:TypeId):Option (Value×List (Nat×Nat)) :=
  match P.info? T,P.underlying T with
  | some it, some (.array len e) => match it.zero, P.info? e with
    | some z,some ie=>some (z,(List.range len).map fun i=>(i * ie.size,ie.size))
    | _,_=>none
  | some it, some (.struct fields) => match it.zero, fields.toList.mapM (fun f => (P.info? f.type).map fun i => (f.offset, i.size)) with
    | some z,some places=>some (z,places)
    | _,_=>none
  | _,_=>none
theorem Mu {p q:Nat→Option (Nat×Nat)} (h:∀ i r,p i=some r→q i=some r):∀ (ps:List (Nat×Value)) (cs r:Array Value),Instr.fill p cs ps=some r→Instr.fill q cs ps=some r
  | [],cs,r,hr=>hr
  | (i, v) :: ps, cs, r, hr => by
    unfold Instr.fill at hr ⊢
    cases hp:p i with
    | none=>simp[hp] at hr
    | some s =>
      obtain⟨off,sz⟩:=s
      rw[h i _ hp]
      simp only[hp] at hr ⊢
      split at hr
      · cases hr
      · rename_i hc;rw[if_neg hc];exact Mu h ps _ r hr
theorem N3 {z:Value} {places:List (Nat×Nat)} {ps:List (Nat×Value)} {cs:Array Value} (hP:Co P T=some (z,places)) (hf:Instr.fill (fun i=>places[i]?) z.cells ps=some cs):P.built T ps=some cs:=by
  unfold Co at hP
  unfold Program.built
  cases hi:P.info? T with
  | none=>simp[hi] at hP
  | some it =>
    cases hu:P.underlying T with
    | none=>simp[hi,hu] at hP
    | some d =>
      cases d <;> simp only[hi,hu] at hP ⊢ <;> try (cases hP;done)
      · rename_i len e
        cases hz:it.zero with
        | none=>simp[hz] at hP
        | some z' =>
          cases he:P.info? e with
          | none=>simp[hz,he] at hP
          | some ie =>
            simp only[hz,he,Option.some.injEq,Prod.mk.injEq] at hP ⊢
            obtain⟨rfl,rfl⟩:=hP
            refine Mu (fun i r hr=>?_) ps _ _ hf
            rw[List.getElem?_map] at hr
            obtain⟨j,hj,rfl⟩:=Option.map_eq_some_iff.1 hr
            have:=List.getElem?_eq_some_iff.1 hj
            obtain⟨h1,h2⟩:=this
            simp at h2
            subst h2
            rfl
      · rename_i fields
        cases hz:it.zero with
        | none=>simp[hz] at hP
        | some z' =>
          cases hm:fields.toList.mapM (fun f=>(P.info? f.type).map fun i=>(f.offset,i.size)) with
          | none=>simp[hz,hm] at hP
          | some pl =>
            simp only[hz,hm,Option.some.injEq,Prod.mk.injEq] at hP ⊢
            obtain⟨rfl,rfl⟩:=hP
            refine Mu (fun i r hr=>?_) ps _ _ hf
            simpa using hr
def evP (n:Nat) (f:Nat→Value):List (Nat×Operand)→List (Nat×Value)
  | []=>[]
  | (i,x) :: l=>(i,ev n f x) :: evP n f l
theorem Tc (n:Nat) (f:Nat→Value) (l:List (Nat×Operand)):(l.toArray.map fun (i,x)=>(i,ev n f x)).toList=evP n f l:=by
  rw[Array.toList_map]
  induction l with
  | nil=>rfl
  | cons p l ih =>
    obtain⟨i,x⟩:=p
    simp only[List.map_cons] at ih ⊢
    rw[ih];rfl
theorem Eb {parts:List (Nat×Operand)} {places:List (Nat×Nat)} {ps:List (Nat×Value)} {cs:Array Value} (hP:Co P T=some (z,places)) (hp:evP n f parts=ps)
    (hf:Instr.fill (fun i=>places[i]?) z.cells ps=some cs):Ex P w n f ⟨dst',.build T parts.toArray,ty0,pos,aft,gd⟩ (.agg cs):=by
  have hb:=N3 hP hf
  rw[← hp,← Tc] at hb
  unfold Ex execOp
  simp only[Sem.run_bind,run_build (P:=P) w T _ cs hb,Result.andThen_ok]
  rfl
theorem Av {sz bytes len:Nat} {parts:List (Nat×Operand)} {ps:List (Nat×Value)} {cs:Array Value} (hT:P.underlying T=some (.slice e)) (hi:(P.info? e).map (fun i=>(i.zero,i.size,i.bytes))=some (some z,sz,bytes))
    (hp:evP n f parts=ps) (hlen:len * sz≤16777216)
    (hf:∀ base:Array Value,base.size=len * sz→Instr.fill (fun i=>some (i * sz,sz)) base ps=some cs)
    (k:∀ w' g,New w w' g cs e→Lst P ops Q rest (fr n (upd f dst (.slice (some ⟨g,0,none⟩) len len))) w') :
    Lst P ops Q (⟨some dst,.buildSlice T len parts.toArray,ty0,pos,aft,none⟩ :: rest) (fr n f) w:=by
  obtain⟨i,hi1,hiz,rfl,rfl⟩:=Jb hi
  clear hi
  refine l1 (w':=w.alloc (.cells cs e)) (v := .slice (some ⟨w.heap.size,0,none⟩) len len) ?_ (k _ _ (New.alloc _ _ _))
  have h24:¬ len * i.size>2 ^ 24:=by omega
  have hfill:∀ (zero:Array Value),Instr.fill (fun j=>some (j * i.size,i.size)) ((Array.range (len * i.size)).map (zero[· % zero.size]!)) (parts.toArray.map fun q=>(q.1,ev n f q.2)).toList=some cs:=fun zero=>by
    have hp':(parts.toArray.map fun q=>(q.1,ev n f q.2)).toList=ps:=(Tc n f parts).trans hp
    rw[hp'];exact hf _ (by simp)
  have hso:∀ w,(sizeOf e).run P w = .ok i.size w:=fun w=>by simp[sizeOf,typeInfo,hi1]
  have hz:(zeroValue e).run P w = .ok z w:=by simp[zeroValue,typeInfo,hi1,hiz]
  show ((do pure (.value (← Instr.buildSlice T len (parts.toArray.map fun (i,x)=>(i,ev n f x)))):Sem Next)).run P w=_
  have key:(Instr.buildSlice T len (parts.toArray.map fun (i,x)=>(i,ev n f x))).run P w = .ok (.slice (some ⟨w.heap.size,0,none⟩) len len) (w.alloc (.cells cs e)):=by
    unfold Instr.buildSlice
    rw[Sem.run_bind,run_underlying hT,Result.andThen_ok]
    simp only[Sem.run_bind,hso,Result.andThen_ok,if_neg h24]
    by_cases h0:len * i.size=0
    · simp only [h0, if_true, Sem.run_pure, Result.andThen_ok]
      have hq:=hfill #[]
      rw[h0] at hq
      simp only[Sem.run_bind,Sem.run_pure,Result.andThen_ok]
      split
      · rename_i cells hc
        obtain rfl:cells=cs:=Option.some.inj (hc.symm.trans hq)
        rfl
      · rename_i hc
        exact absurd hq (hc cs)
    · simp only [if_neg h0, Sem.run_bind, hz, Result.andThen_ok, Sem.run_pure]
      have hq:=hfill z.cells
      split
      · rename_i cells hc
        obtain rfl:cells=cs:=Option.some.inj (hc.symm.trans hq)
        rfl
      · rename_i hc
        exact absurd hq (hc cs)
  rw[Sem.run_bind,key];rfl
theorem Br {sz:Nat} {v:Value} (hv:v.cells.size=sz) (base:Array Value) (hb:base.size=1 * sz):Instr.fill (fun i=>some (i * sz,sz)) base [(0,v)]=some v.cells:=by
  unfold Instr.fill
  simp only[Nat.zero_mul]
  rw[if_neg (by simp[hv];omega)]
  unfold Instr.fill
  congr 1
  have key:∀ (l:List Value) (j:Nat) (b:Array Value),b.size=j+l.length→(l.zipIdx j).foldl (fun cs (p:Value×Nat)=>cs.setIfInBounds (0+p.2) p.1) b=(b.toList.take j++l).toArray:=by
    intro l
    induction l with
    | nil=>intro j b hb;simp at hb ⊢;rw[List.take_of_length_le (by simp;omega)]
    | cons u l ih =>
      intro j b hb
      simp only[List.length_cons] at hb
      rw[List.zipIdx_cons,List.foldl_cons,ih (j+1) _ (by simp;omega)]
      congr 1
      simp only[Nat.zero_add,Array.toList_setIfInBounds,List.take_set]
      have hj:j<b.toList.length:=by simp;omega
      rw[List.take_succ_eq_append_getElem hj,List.set_append_right _ _ (by simp;omega)]
      have:j - (b.toList.take j).length=0:=by simp;omega
      rw[this]
      simp
  have h:=key v.cells.toList 0 base (by simp[hv];omega)
  simp only[List.take_zero,List.nil_append,Array.toArray_toList] at h
  rw[← Array.foldl_toList,Array.toList_zipIdx]
  exact h
def adw (p:Option Addr) (c l sz:Nat):Option Addr:=if c=l then p else adv p (l * sz)
theorem Ko {isSlice:Bool} {len cap:Nat} {k k':IntKind} {a b:Int} (h0:0≤a) (h1:a≤b) (h2:b≤(cap:Int)):(Instr.sliceBounds isSlice len cap (some (.int k a)) (some (.int k' b)) none).run P w = .ok (a.toNat,b.toNat,cap) w:=by
  have hb:0≤b:=by omega
  have ha:a≤((b.toNat:Nat):Int):=by omega
  simp[Instr.sliceBounds,Instr.sliceBound,asIntOf,Sem.run_bind,hb,h2,h0,ha]
  intro h
  exfalso
  omega
theorem Le {isSlice:Bool} {len cap:Nat} {k:IntKind} {a:Int} (h0:0≤a) (h1:a≤(len:Int)):(Instr.sliceBounds isSlice len cap (some (.int k a)) none none).run P w = .ok (a.toNat,len,cap) w:=by
  simp[Instr.sliceBounds,Instr.sliceBound,asIntOf,Sem.run_bind,h0,h1]
theorem Sf {isSlice:Bool} {len cap:Nat} {k:IntKind} {b:Int} (h0:0≤b) (h1:b≤(cap:Int)):(Instr.sliceBounds isSlice len cap none (some (.int k b)) none).run P w = .ok (0,b.toNat,cap) w:=by
  simp[Instr.sliceBounds,Instr.sliceBound,asIntOf,Sem.run_bind,h0,h1]
theorem Sg {isSlice:Bool} {len cap:Nat}:(Instr.sliceBounds isSlice len cap none none none).run P w = .ok (0,len,cap) w:=by
  simp[Instr.sliceBounds]
theorem Qn {sz:Nat} (hT:P.underlying T=some (.slice e)) (hz:(P.info? e).map (·.size)=some sz) {p:Option Addr} {len cap:Nat} {k:IntKind} {a:Int} (hx:ev n f x = .slice p len cap) (hy:ev n f y = .int k a) (h0:0≤a) (h1:a≤(len:Int)) :
    Ex P w n f ⟨dst',.slice T x (some y) none none,ty0,pos,aft,gd⟩ (.slice (adw p cap a.toNat sz) (len - a.toNat) (cap - a.toNat)):=by
  obtain⟨ii,hi,hs⟩:=Option.map_eq_some_iff.1 hz
  unfold Ex execOp
  simp only[Option.map,hx,hy]
  simp[Instr.sliceAt,Instr.slice,Sem.run_bind,run_underlying hT,Le h0 h1,sizeOf,typeInfo,hi,hs]
  rfl
theorem Ya {sz:Nat} (hT:P.underlying T=some (.slice e)) (hz:(P.info? e).map (·.size)=some sz) {p:Option Addr} {len cap:Nat} {k:IntKind} {a:Int} (hx:ev n f x = .slice p len cap) (hy:ev n f y = .int k a) (h0:0≤a) (h1:a≤(cap:Int)) :
    Ex P w n f ⟨dst',.slice T x none (some y) none,ty0,pos,aft,gd⟩ (.slice (adw p cap 0 sz) a.toNat cap):=by
  obtain⟨ii,hi,hs⟩:=Option.map_eq_some_iff.1 hz
  unfold Ex execOp
  simp only[Option.map,hx,hy]
  simp[Instr.sliceAt,Instr.slice,Sem.run_bind,run_underlying hT,Sf h0 h1,sizeOf,typeInfo,hi,hs]
  simp[adw,adv]
theorem Vk {sz:Nat} (hT:P.underlying T=some (.slice e)) (hz:(P.info? e).map (·.size)=some sz) {p:Option Addr} {len cap:Nat} {k k':IntKind} {a b:Int} (hx:ev n f x = .slice p len cap) {u:Operand} (hy:ev n f y = .int k a) (hu:ev n f u = .int k' b) (h0:0≤a) (h1:a≤b) (h2:b≤(cap:Int)) :
    Ex P w n f ⟨dst',.slice T x (some y) (some u) none,ty0,pos,aft,gd⟩ (.slice (adw p cap a.toNat sz) (b.toNat - a.toNat) (cap - a.toNat)):=by
  obtain⟨ii,hi,hs⟩:=Option.map_eq_some_iff.1 hz
  unfold Ex execOp
  simp only[Option.map,hx,hy,hu]
  simp[Instr.sliceAt,Instr.slice,Sem.run_bind,run_underlying hT,Ko h0 h1 h2,sizeOf,typeInfo,hi,hs]
  rfl
theorem Tk {sz len:Nat} (hT:P.underlying T=some (.array len e)) (hz:(P.info? e).map (·.size)=some sz) {b o:Nat} (hx:ev n f x = .pointer (some ⟨b,o,none⟩)) :
    Ex P w n f ⟨dst',.slice T x none none none,ty0,pos,aft,gd⟩ (.slice (some ⟨b,o,none⟩) len len):=by
  obtain⟨ii,hi,hs⟩:=Option.map_eq_some_iff.1 hz
  unfold Ex execOp
  simp only[Option.map,hx]
  have e0:(⟨b,o,none⟩:Addr).add 0=⟨b,o,none⟩:=Addr.add_mid b o 0
  simp[Instr.sliceAt,Instr.sureAddr,Sem.run_bind,run_underlying hT,Sg,sizeOf,typeInfo,hi,hs,e0]
theorem Of (hT:P.underlying T=some .string) {s:ByteArray} {k k':IntKind} {a b:Int} (hx:ev n f x = .string s) {u:Operand} (hy:ev n f y = .int k a) (hu:ev n f u = .int k' b) (h0:0≤a) (h1:a≤b) (h2:b≤(s.size:Int)) :
    Ex P w n f ⟨dst',.slice T x (some y) (some u) none,ty0,pos,aft,gd⟩ (.string (s.extract a.toNat b.toNat)):=by
  unfold Ex execOp
  simp only[Option.map,hx,hy,hu]
  simp[Instr.sliceAt,Instr.slice,Sem.run_bind,run_underlying hT,Ko h0 h1 h2]
theorem Sl.dropI {α:Type} {d:Kind α} {B:Nat} {p:Option Addr} {len c:Nat} {xs:List α} (h:Sl d e B w p len c xs) (m:Nat) (hm:m≤len):Sl d e B w (adw p c m d.sz) (len - m) (c - m) (xs.drop m):=by
  unfold adw
  by_cases e1:c=m
  · have hc := h.cap
    have hl:=h.len
    rw[if_pos e1,List.drop_of_length_le (by omega),show len - m=0 from by omega]
    have:=h.fit
    exact Sl.nil _ _ _ _ _ _ (by omega)
  · rw[if_neg e1];exact h.drop m hm
theorem Acd (p:Option Addr) (c sz:Nat):adw p c 0 sz=p:=by
  unfold adw
  split
  · rfl
  · rw [Nat.zero_mul]
    cases p with
    | none=>rfl
    | some a=>show some (a.add 0)=_;simp[Addr.add]
def toStr (xs:List UInt8):ByteArray:=⟨xs.toArray⟩
theorem Gf (xs:List UInt8):strOfNums (xs.map fun b=>(b.toNat:Int))=toStr xs:=by
  unfold strOfNums toStr
  congr 1
  rw[List.map_map]
  congr 1
  conv=>rhs;rw[← List.map_id xs]
  apply List.map_congr_left
  intro b _
  simp
theorem Cg {T':TypeId} (hT:P.underlying T=some (.slice e)) (he:P.underlying e=some (.int .u8)) (hd:P.underlying T'=some .string) {B:Nat} {p:Option Addr} {len c:Nat} {xs:List UInt8} {e':TypeId} (hx:ev n f x = .slice p len c) (h:Sl kByte e' B w p len c xs) :
    Ex P w n f ⟨dst',.convert T T' x,ty0,pos,aft,gd⟩ (.string (toStr xs)):=by
  unfold Ex execOp
  simp only[hx,Sem.run_bind]
  have key:(convert T T' (.slice p len c)).run P w = .ok (.string (toStr xs)) w:=by
    rcases Nat.eq_zero_or_pos len with h0 | h0
    · have hx0 : xs = [] := List.eq_nil_of_length_eq_zero (by rw [h.len, h0])
      subst h0 hx0
      cases p with
      | none=>exact run_convert_bytes_nil w T e hT he 0 c T' hd
      | some a=>rw[run_convert_bytes_string w T T' e (some a) 0 c hT he hd];simp[Conv.bytesToString];rfl
    · have hp := h.adr Bb h0
      have hlen:=h.len
      rw[hp,← Gf]
      refine run_convert_bytes_arg w T e hT he (ab p) (ao p) len c _ (by simp[hlen]) (fun i hi=>?_) T' hd
      rw[h.byteAt i hi]
      simp[hlen,hi,List.getD_eq_getElem?_getD]
  rw[key];rfl
end
section
variable {P : Program} {ops : Array Oper} {Q : Exit → Act → World → Prop} {rest : List Oper} {n : Nat} {f : Nat → Value} {w : World}
variable {ty0 : TypeId} {pos : String} {aft : Array Edge} {v : Value} {x y : Operand} {T t : TypeId}
structure Put (w w':World) (g:Nat) (cs:Array Value) (t:TypeId):Prop where
  blk:Blk w' g cs t
  was:ty w g=some t
  size:w'.heap.size=w.heap.size
  old:∀ k,k≠g→w'.heap[k]? = w.heap[k]?
  drawn:drw w'=drw w
  os:w'.os=w.os
  tape:w'.tape=w.tape
  output:w'.output=w.output
theorem Put.mod {w w':World} {g:Nat} {cs:Array Value} {t:TypeId} (h:Put w w' g cs t) (B:Nat) (hB:B≤g):Mod B t w w' :=
  ⟨by rw[h.size];exact Nat.le_refl _,fun k _ ho=>h.old k (fun e=>by subst e;rcases ho with ho | ho;(· omega);(· exact ho h.was)),
    fun k _=>by by_cases e:k=g;(· subst e;rw[h.blk.ty,h.was]);(· exact B7 (h.old k e)),by rw[h.drawn];exact Nat.le_refl _,h.os,h.tape,h.output⟩
theorem Put.keep {w w':World} {g:Nat} {cs:Array Value} {t:TypeId} (h:Put w w' g cs t) {k:Nat} {cs':Array Value} {u:TypeId} (hb:Blk w k cs' u) (hne:k≠g):Blk w' k cs' u:=(h.old k hne).trans hb
theorem Ext.put {w0 w w':World} (h:Ext w0 w) {g:Nat} {cs:Array Value} {t:TypeId} (p:Put w w' g cs t) (hg:w0.heap.size≤g):Ext w0 w':=h.mod (p.mod _ hg) (Nat.le_refl _)
theorem T8 {g o:Nat} {cs:Array Value} {t:TypeId} (v:Value) (h:Blk w g cs t):Put w (w.setCell ⟨g,o,none⟩ v) g (cs.setIfInBounds o v) t :=
  ⟨heap_setCell_same w g o cs t v h,h.ty,by simp[World.setCell],fun k hk=>Below.heap_setCell w ⟨g,o,none⟩ v k hk,rfl,rfl,rfl,rfl⟩
theorem Gg {g o:Nat} {cs:Array Value} {t:TypeId} (vs:List Value) (h:Blk w g cs t) (hl:o+vs.length≤cs.size):Put w (w.setCells g o vs) g (cs.toList.take o++vs++cs.toList.drop (o+vs.length)).toArray t :=
  ⟨Gn vs o w cs h hl,h.ty,F0 g vs o w,fun k hk=>Dv g vs o w k hk,(D8 g vs o w).1,(D8 g vs o w).2.1,(D8 g vs o w).2.2.1,(D8 g vs o w).2.2.2⟩
theorem l0 {op:Op} {w':World} (h:(execOp (ev n f) ⟨none,op,ty0,pos,aft,none⟩).run P w = .ok .skip w') (k:Lst P ops Q rest (fr n f) w'):Lst P ops Q (⟨none,op,ty0,pos,aft,none⟩ :: rest) (fr n f) w :=
  ⟨wpList_plain rfl fun K hK=>by
    unfold Oper.wp
    rw[Bn,h,Oper.upon_skip]
    exact hK _ _ k.out⟩
theorem Aw {g o:Nat} {cs:Array Value} (hx:ev n f x = .pointer (some ⟨g,o,none⟩)) (hy:ev n f y=v) (h1:v.cells=#[v]) (hv:v.oneCell'=true) (hs:(P.info? T).map (·.size)=some 1) (hB:Blk w g cs t) (ho:o<cs.size)
    (k:∀ w',Put w w' g (cs.setIfInBounds o v) t→Lst P ops Q rest (fr n f) w'):Lst P ops Q (⟨none,.store T x y,ty0,pos,aft,none⟩ :: rest) (fr n f) w:=by
  refine l0 (w':=w.setCell ⟨g,o,none⟩ v) ?_ (k _ (T8 v hB))
  have hc:w.cell? ⟨g,o,none⟩=some cs[o]:=hB.cell (Array.getElem?_eq_getElem ho)
  have ht:w.there g o #[v].size:=fun j hj=>by
    have:j=0:=by simp at hj;exact hj
    subst this
    exact⟨by rw[Nat.add_zero,hc];rfl,by exact frozen_of_row w g _ cs t hB⟩
  have:=run_storeAt_mid (P:=P) w g o T #[v] ht (by simpa using hs) (by simpa using hv)
  subst hy
  simp only[execOp,hx]
  have e1:(Instr.storeAt T (.pointer (some ⟨g,o,none⟩)) (ev n f y)).run P w = .ok () (w.setCell ⟨g,o,none⟩ (ev n f y)):=by
    have e2:storeVar T ⟨g,o,none⟩ (ev n f y)=storeVar T ⟨g,o,none⟩ (.agg #[ev n f y]):=by
      unfold storeVar;rw[h1];rfl
    simp only[Instr.storeAt,Instr.sureAddr,Sem.run_bind,Sem.run_pure,Result.andThen_ok] at this ⊢
    rw[e2];exact this
  simp only[Sem.run_bind,e1,Result.andThen_ok]
  rfl
theorem Ff {g o:Nat} {cs vs:Array Value} (hx:ev n f x = .pointer (some ⟨g,o,none⟩)) (hy:ev n f y = .agg vs) (hv:∀ u∈vs.toList,u.oneCell'=true) (hs:(P.info? T).map (·.size)=some vs.size) (hB:Blk w g cs t) (ho:o+vs.size≤cs.size)
    (k:∀ w',Put w w' g (cs.toList.take o++vs.toList++cs.toList.drop (o+vs.size)).toArray t→Lst P ops Q rest (fr n f) w'):Lst P ops Q (⟨none,.store T x y,ty0,pos,aft,none⟩ :: rest) (fr n f) w:=by
  refine l0 (w':=w.setCells g o vs.toList) ?_ (k _ (by simpa using Gg vs.toList hB (by simpa using ho)))
  have ht:w.there g o vs.size:=fun j hj=>⟨by rw[hB.cell (v:=cs[o+j]'(by omega)) (Array.getElem?_eq_getElem (by omega))];rfl,frozen_of_row w g _ cs t hB⟩
  have:=run_storeAt_mid (P:=P) w g o T vs ht hs (by rw[Array.all_eq_true_iff_forall_mem];intro u hu;exact hv u (by simpa using hu))
  simp only[execOp,hx,hy,Sem.run_bind,this,Result.andThen_ok]
  rfl
end
def okc (c:Int):Prop:=(97≤c∧c≤122)∨(65≤c∧c≤90)∨(48≤c∧c≤57)∨c=46∨c=95∨c=45
instance (c : Int) : Decidable (okc c) := by unfold okc; exact inferInstance
def lebU (n:Nat):List UInt8:=if h:n<128 then [UInt8.ofNat n] else UInt8.ofNat (n % 128+128) :: lebU (n / 128)
termination_by n
decreasing_by omega
theorem Fg {n:Nat} (h:n<128):lebU n=[UInt8.ofNat n]:=by rw[lebU,dif_pos h]
theorem Hg {n:Nat} (h:¬ n<128):lebU n=UInt8.ofNat (n % 128+128) :: lebU (n / 128):=by rw[lebU,dif_neg h]
theorem Aa8 (k:Nat):∀ n,n<128 ^ k→(lebU n).length≤max k 1:=by
  induction k with
  | zero=>intro n h;rw[Fg (by omega)];simp
  | succ k ih =>
    intro n h
    by_cases h0:n<128
    · rw[Fg h0,List.length_singleton];omega
    · rw [Hg h0, List.length_cons]
      have:=ih (n / 128) (by rw[Nat.pow_succ] at h;exact Nat.div_lt_of_lt_mul (by omega))
      have hk:k≠0:=by
        intro e
        subst e
        rw[Nat.pow_one] at h
        omega
      omega
theorem C9 {n:Nat} (h:n<18446744073709551616):(lebU n).length≤10:=by
  have:=Aa8 10 n (by omega)
  omega
theorem Aa7 (n:Nat):0<(lebU n).length:=by
  by_cases h:n<128
  · rw[Fg h];simp
  · rw[Hg h];simp
theorem He {n:Nat} (h:n<256):((UInt8.ofNat n).toNat:Int)=n:=by
  have:(UInt8.ofNat n).toNat=n:=by simp;omega
  rw[this]
theorem K5 (a:Int):IntKind.u8.wrap a=a % 256:=by
  unfold IntKind.wrap;simp[IntKind.bits,IntKind.signed]
theorem or128 (m:Nat):Cu .or .u8 (IntKind.u8.wrap (m:Int)) 128=((UInt8.ofNat (m % 128+128)).toNat:Int):=by
  rw[He (by omega),K5]
  unfold Cu
  rw[K5]
  have e:(m:Int) % 256=((m % 256:Nat):Int):=by omega
  rw[e]
  have hm:m % 256<256:=by omega
  have hd:m % 128=(m % 256) % 128:=by omega
  rw[hd]
  generalize m % 256=r at *
  have key:∀ r:Nat,r<256→(((BitVec.ofInt 8 (r:Int) ||| BitVec.ofInt 8 128).toNat:Int) % 256)=((r % 128+128:Nat):Int):=by decide +kernel
  exact key r hm
theorem shr7 (m:Nat):(m:Int).fdiv (2 ^ min (7:Int).toNat IntKind.u64.bits)=((m / 128:Nat):Int):=by
  have e:min (7:Int).toNat IntKind.u64.bits=7:=rfl
  rw[e]
  show (m:Int).fdiv 128=_
  rw[Int.fdiv_eq_ediv_of_nonneg _ (by decide)]
  omega
theorem Ex.cast {P:Program} {w:World} {n:Nat} {f:Nat→Value} {o:Oper} {v v':Value} (h:Ex P w n f o v) (e:v=v'):Ex P w n f o v':=e ▸ h
theorem Lb {P:Program} {tx e':TypeId} (hk:P.underlying tx=some (.slice e')) {w:World} {g:Nat} {b:UInt8} {t:TypeId} (h:Blk w g #[cell b] t):Src P kByte.sz tx (.slice (some ⟨g,0,none⟩) 1 1) 1 [cell b] w :=
  J0 hk ⟨fun _=>rfl,h.range⟩ rfl (by decide) (fun u hu=>by simp at hu;subst hu;rfl)
theorem Fo {P:Program} {tx e':TypeId} (hk:P.underlying tx=some (.slice e')) {w:World} {e:TypeId} {B:Nat} {p:Option Addr} {n c:Nat} {xs:List UInt8} (h:Sl kByte e B w p n c xs):Src P kByte.sz tx (.slice p n c) n (xs.map cell) w:=by
  obtain⟨css,ha,hr⟩:=h.row
  have:css.flatten=xs.map cell:=by rw[Ia ha,Bf]
  rw[this] at hr
  exact J0 hk hr.row (by rw[List.length_map,h.len];show n=n * 1;omega) (by decide) (fun u hu=>by obtain⟨_,_,rfl⟩:=List.mem_map.1 hu;rfl)
def getUF (i n:Nat):List UInt8→Nat×Nat×Int
  | []=>(0,0,3)
  | x :: r => if (i = 9 ∧ 1 < x.toNat) ∨ (0 < i ∧ x.toNat = 0) then (0, 0, 4) else
    if x.toNat<128 then (n+x.toNat % 128 * 2 ^ (7 * i),i+1,0) else getUF (i+1) (n+x.toNat % 128 * 2 ^ (7 * i)) r
def getU (b:List UInt8):Nat×Nat×Int:=getUF 0 0 b
theorem Gy {b:List UInt8} {i:Nat} (h:i<b.length):b.drop i=b.getD i 0 :: b.drop (i+1):=by
  rw[List.drop_eq_getElem_cons h];simp[h]
theorem Zn (x:UInt8):Cu .andNot .u8 (x.toNat:Int) 128=((x.toNat % 128:Nat):Int):=by
  have hx:x.toNat<256:=x.toNat_lt
  unfold Cu
  rw[K5]
  have key:∀ r:Nat,r<256→(((BitVec.ofInt 8 (r:Int) &&& ~~~ BitVec.ofInt 8 128).toNat:Int) % 256)=((r % 128:Nat):Int):=by decide +kernel
  exact key _ hx
theorem Oo (a:Int):IntKind.u64.wrap a=a % 18446744073709551616:=by
  unfold IntKind.wrap;simp[IntKind.bits,IntKind.signed]
theorem shl7 {r i:Nat} (hi:i≤9) (hr:r<128) (h9:i=9→r≤1):IntKind.u64.wrap ((r:Int) * 2 ^ min (7 * (i:Int)).toNat IntKind.u64.bits)=((r * 2 ^ (7 * i):Nat):Int):=by
  have e1:(7 * (i:Int)).toNat=7 * i:=by omega
  have e2:min (7 * i) IntKind.u64.bits=7 * i:=by show min (7 * i) 64=7 * i;omega
  rw[e1,e2,Oo]
  have e3:(r:Int) * 2 ^ (7 * i)=((r * 2 ^ (7 * i):Nat):Int):=by push_cast;rfl
  rw[e3]
  have hb:r * 2 ^ (7 * i)<18446744073709551616:=by
    by_cases h:i=9
    · subst h;have:=h9 rfl;omega
    · have hp : 2 ^ (7 * i) ≤ 2 ^ 56 := Nat.pow_le_pow_right (by omega) (by omega)
      have:r * 2 ^ (7 * i)≤127 * 2 ^ 56:=Nat.mul_le_mul (by omega) hp
      omega
  omega
theorem Nf {n:Nat} (h:n<18446744073709551616):(BitVec.ofInt 64 (n:Int)).toNat=n:=by
  simp[BitVec.toNat_ofInt];omega
theorem Aas {n r k:Nat} (hn:n<2 ^ k) (hs:n+r * 2 ^ k<18446744073709551616):Cu .or .u64 (n:Int) ((r * 2 ^ k:Nat):Int)=((n+r * 2 ^ k:Nat):Int):=by
  show IntKind.u64.wrap _=_
  have e1:(BitVec.ofInt IntKind.u64.bits (n:Int) ||| BitVec.ofInt IntKind.u64.bits ((r * 2 ^ k:Nat):Int)).toNat=n+r * 2 ^ k:=by
    show (BitVec.ofInt 64 (n:Int) ||| BitVec.ofInt 64 ((r * 2 ^ k:Nat):Int)).toNat=_
    rw[BitVec.toNat_or,Nf (by omega),Nf (by omega),Nat.or_comm,Nat.mul_comm r,← Nat.two_pow_add_eq_or_of_lt hn]
    omega
  rw[e1,Oo];omega
theorem I5 (i:Nat):2 ^ (7 * (i+1))=128 * 2 ^ (7 * i):=by rw[Nat.mul_add,Nat.pow_add];omega
theorem Pp {n r i:Nat} (hn:n<2 ^ (7 * i)) (hr:r<128):n+r * 2 ^ (7 * i)<2 ^ (7 * (i+1)):=by
  rw[I5]
  have:r * 2 ^ (7 * i)≤127 * 2 ^ (7 * i):=Nat.mul_le_mul_right _ (by omega)
  omega
theorem Ux {n r i:Nat} (hn:n<2 ^ (7 * i)) (hi:i≤9) (hr:r<128) (h9:i=9→r≤1):n+r * 2 ^ (7 * i)<18446744073709551616:=by
  by_cases h:i=9
  · subst h; have := h9 rfl
    have:r * 2 ^ (7 * 9)≤1 * 2 ^ (7 * 9):=Nat.mul_le_mul_right _ this
    omega
  · have := Pp hn hr
    have hp:2 ^ (7 * (i+1))≤2 ^ 63:=Nat.pow_le_pow_right (by omega) (by omega)
    omega
theorem Ls:∀ (l:List UInt8) (i n:Nat),n<2 ^ (7 * i)→i≤9→(getUF i n l).2.2=0→(getUF i n l).2.1≤i+l.length∧(getUF i n l).2.1≤10∧i<(getUF i n l).2.1∧(getUF i n l).1<18446744073709551616
  | [],i,n,_,_,h=>by simp[getUF] at h
  | x :: r, i, n, hn, hi, h => by
    have hx:x.toNat % 128<128:=Nat.mod_lt _ (by omega)
    unfold getUF at h ⊢
    by_cases c1:(i=9∧1<x.toNat)∨(0<i∧x.toNat=0)
    · rw[if_pos c1] at h;cases h
    · rw [if_neg c1] at h ⊢
      have h9:i=9→x.toNat % 128≤1:=by intro e;have:¬ 1<x.toNat:=fun h=>c1 (.inl ⟨e,h⟩);omega
      by_cases c2:x.toNat<128
      · rw [if_pos c2] at h ⊢
        simp only[List.length_cons]
        have:=Ux hn hi hx h9
        omega
      · rw [if_neg c2] at h ⊢
        have hi':i+1≤9:=by
          apply Classical.byContradiction
          intro hc
          exact c1 (.inl ⟨by omega,by omega⟩)
        have:=Ls r (i+1) _ (Pp hn hx) hi' h
        simp only[List.length_cons]
        omega
theorem Pq:∀ (l:List UInt8) (i n:Nat),(getUF i n l).2.2≠0→(getUF i n l).1=0∧(getUF i n l).2.1=0∧((getUF i n l).2.2=3∨(getUF i n l).2.2=4)
  | [],i,n,_=>by simp[getUF]
  | x :: r, i, n, h => by
    unfold getUF at h ⊢
    by_cases c1:(i=9∧1<x.toNat)∨(0<i∧x.toNat=0)
    · rw[if_pos c1];simp
    · rw [if_neg c1] at h ⊢
      by_cases c2:x.toNat<128
      · rw[if_pos c2] at h;simp at h
      · rw[if_neg c2] at h ⊢;exact Pq r _ _ h
theorem F8 {b:List UInt8} (h:(getU b).2.2=0):(getU b).2.1≤b.length∧(getU b).2.1≤10∧0<(getU b).2.1∧(getU b).1<18446744073709551616:=by
  have:=Ls b 0 0 (by simp) (by omega) h
  unfold getU;omega
theorem Ml {b:List UInt8} (h:(getU b).2.2≠0):(getU b).1=0∧(getU b).2.1=0∧((getU b).2.2=3∨(getU b).2.2=4):=Pq b 0 0 h
def grpF:Nat→Nat→List UInt8→Nat×Int
  | 0,_,_=>(0,4)
  | _+1,_,[]=>(0,3)
  | k+1,i,x :: r=>if x.toNat<128 then (i+1,0) else grpF k (i+1) r
def grp (b:List UInt8):Nat×Int:=grpF 10 0 b
def rv:List UInt8→Nat
  | []=>0
  | x :: r=>(x.toNat % 128+128 * rv r) % 18446744073709551616
theorem Ad3:∀ l,rv l<18446744073709551616
  | []=>by simp[rv]
  | x :: r=>by unfold rv;omega
def V:List UInt8→Nat
  | []=>0
  | x :: r=>x.toNat % 128+128 * V r
theorem Ae5:∀ l,rv l=V l % 18446744073709551616
  | []=>rfl
  | x :: r=>by unfold rv V;rw[Ae5 r];omega
def Gp:List UInt8→Prop
  | []=>False
  | [x]=>x.toNat<128
  | x :: y :: r=>128≤x.toNat∧Gp (y :: r)
def lastB:List UInt8→Nat
  | []=>0
  | [x]=>x.toNat
  | _ :: y :: r=>lastB (y :: r)
theorem Ae1 (m:Nat):V (lebU m)=m:=by
  induction m using Nat.strongRecOn with
  | _ m ih =>
    by_cases h:m<128
    · rw [Fg h]
      have e:(UInt8.ofNat m).toNat=m:=by simp;omega
      simp only[V,e];omega
    · rw [Hg h]
      have e:(UInt8.ofNat (m % 128+128)).toNat=m % 128+128:=by simp;omega
      simp only[V,e,ih (m / 128) (by omega)];omega
theorem Th:∀ s,Gp s→∃ v,V s=v+lastB s * 2 ^ (7 * (s.length - 1))∧v<2 ^ (7 * (s.length - 1))∧lastB s<128
  | [x],h=>⟨0,by simp only[V,lastB,List.length_singleton];have:x.toNat<128:=h;simp;omega,by simp,h⟩
  | x :: y :: r, h => by
    obtain⟨v,h1,h2,h3⟩:=Th (y :: r) h.2
    have e:7 * ((x :: y :: r).length - 1)=7 * ((y :: r).length - 1+1):=by simp
    refine⟨x.toNat % 128+128 * v,?_,?_,h3⟩
    · rw [e, I5]
      show x.toNat % 128+128 * V (y :: r)=x.toNat % 128+128 * v+lastB (y :: r) * (128 * 2 ^ (7 * ((y :: r).length - 1)))
      rw[h1,Nat.mul_left_comm (lastB (y :: r)) 128];omega
    · rw[e,I5];omega
theorem Ad4:∀ s,Gp s→(s.length=1∨lastB s≠0)→lebU (V s)=s
  | [x], h, _ => by
    have hx:x.toNat<128:=h
    have e:V [x]=x.toNat:=by simp only[V];omega
    rw[e,Fg hx];simp
  | x :: y :: r, h, hl => by
    have hx:128≤x.toNat:=h.1
    have hx2:=x.toNat_lt
    have hl':lastB (y :: r)≠0:=by rcases hl with hl | hl;(· simp at hl);(· exact hl)
    obtain⟨v,h1,h2,h3⟩:=Th (y :: r) h.2
    have hp:0<2 ^ (7 * ((y :: r).length - 1)):=Nat.two_pow_pos _
    have hpos:0<V (y :: r):=by
      have:1 * 1≤lastB (y :: r) * 2 ^ (7 * ((y :: r).length - 1)):=Nat.mul_le_mul (by omega) hp
      omega
    have e:V (x :: y :: r)=x.toNat % 128+128 * V (y :: r):=rfl
    rw[e,Hg (by omega),show (x.toNat % 128+128 * V (y :: r)) / 128=V (y :: r) from by omega,Ad4 (y :: r) h.2 (.inr hl')]
    congr 1
    have e2:(x.toNat % 128+128 * V (y :: r)) % 128+128=x.toNat:=by omega
    rw[e2];simp
theorem Y6 (m:Nat):m=0∨lastB (lebU m)≠0:=by
  induction m using Nat.strongRecOn with
  | _ m ih =>
    by_cases h:m<128
    · rcases Nat.eq_zero_or_pos m with h0 | h0
      · exact .inl h0
      · right
        rw[Fg h]
        have e:(UInt8.ofNat m).toNat=m:=by simp;omega
        simp only[lastB,e];omega
    · right
      have h1:=ih (m / 128) (by omega)
      rw[Hg h]
      have hp:=Aa7 (m / 128)
      cases hl:lebU (m / 128) with
      | nil=>rw[hl] at hp;simp at hp
      | cons y r =>
        rw[hl] at h1
        show lastB (y :: r)≠0
        rcases h1 with h1 | h1
        · omega
        · exact h1
theorem Adh {s:List UInt8} {m:Nat} (hs:1<s.length) (hl:lastB s=0):lebU m≠s:=by
  intro e
  rcases Y6 m with h | h
  · subst h
    rw[Fg (by omega)] at e
    rw[← e] at hs;simp at hs
  · rw[e] at h;exact h hl
def I6 (k x:Nat):Prop:=(k=10→x≤1)∧(k=1∨x≠0)
instance (k x : Nat) : Decidable (I6 k x) := inferInstanceAs (Decidable (_ ∧ _))
theorem Aeo {s:List UInt8} (h:Gp s) (hl:s.length≤10):(lebU (rv s)=s↔I6 s.length (lastB s))∧(I6 s.length (lastB s)→rv s=V s):=by
  obtain⟨v,h1,h2,h3⟩:=Th s h
  have hpos:0<s.length:=by cases s with | nil=>exact h.elim | cons=>simp
  have hV:V s<18446744073709551616↔(s.length=10→lastB s≤1):=by
    by_cases e:s.length=10
    · rw [e] at h1 h2
      have p:2 ^ (7 * (10 - 1))=9223372036854775808:=by decide
      rw[p] at h1 h2
      constructor
      · intro hv _;omega
      · intro hv;have:=hv e;omega
    · have hle : 7 * (s.length - 1) + 7 ≤ 63 := by omega
      have p:2 ^ (7 * (s.length - 1)) * 128≤2 ^ 63:=by
        have:2 ^ (7 * (s.length - 1)) * 2 ^ 7=2 ^ (7 * (s.length - 1)+7):=(Nat.pow_add _ _ _).symm
        rw[show (128:Nat)=2 ^ 7 from rfl,this]
        exact Nat.pow_le_pow_right (by omega) hle
      have q:lastB s * 2 ^ (7 * (s.length - 1))≤127 * 2 ^ (7 * (s.length - 1)):=Nat.mul_le_mul_right _ (by omega)
      constructor
      · intro _ h;exact absurd h e
      · intro _;omega
  have key:I6 s.length (lastB s)→rv s=V s:=fun hk=>by rw[Ae5,Nat.mod_eq_of_lt (hV.2 hk.1)]
  refine⟨⟨fun e=>?_,fun hk=>?_⟩,key⟩
  · have hv : V s = rv s := by rw [← e, Ae1, e]
    have:=Ad3 s
    refine⟨hV.1 (by omega),?_⟩
    rcases Nat.lt_or_ge 1 s.length with h4 | h4
    · right;intro h5;exact Adh h4 h5 e
    · left;omega
  · rw [key hk]
    exact Ad4 s h hk.2
theorem Hj:∀ (m i:Nat) (l:List UInt8),(grpF m i l).2=0→i<(grpF m i l).1∧(grpF m i l).1≤i+m∧(grpF m i l).1 - i≤l.length∧Gp (l.take ((grpF m i l).1 - i))∧lastB (l.take ((grpF m i l).1 - i))=(l.getD ((grpF m i l).1 - 1 - i) 0).toNat
  | 0,i,l,h=>by simp[grpF] at h
  | m+1,i,[],h=>by simp[grpF] at h
  | m + 1, i, x :: r, h => by
    unfold grpF at h ⊢
    by_cases hx:x.toNat<128
    · rw [if_pos hx] at h ⊢
      simp only[List.length_cons]
      refine⟨by omega,by omega,by omega,?_,?_⟩
      · rw[show i+1 - i=1 from by omega];simpa [Gp] using hx
      · rw[show i+1 - i=1 from by omega,show i+1 - 1 - i=0 from by omega];simp[lastB]
    · rw [if_neg hx] at h ⊢
      obtain⟨h1,h2,h3,h4,h5⟩:=Hj m (i+1) r h
      generalize (grpF m (i+1) r).1=k at *
      obtain⟨j,rfl⟩:∃ j,k=i+1+(j+1):=⟨k - (i+1) - 1,by omega⟩
      rw[show i+1+(j+1) - (i+1)=j+1 from by omega] at h3 h4 h5
      rw[show i+1+(j+1) - 1 - (i+1)=j from by omega] at h5
      rw[show i+1+(j+1) - i=j+1+1 from by omega,show i+1+(j+1) - 1 - i=j+1 from by omega]
      refine⟨by omega,by omega,by simp;omega,?_,?_⟩
      · rw [List.take_succ_cons]
        cases hr:r.take (j+1) with
        | nil=>rw[hr] at h4;exact h4.elim
        | cons y q=>rw[hr] at h4;exact⟨by omega,h4⟩
      · rw [List.take_succ_cons, List.getD_cons_succ, ← h5]
        cases hr:r.take (j+1) with
        | nil=>rw[hr] at h4;exact h4.elim
        | cons y q=>rfl
theorem Rx:∀ (l:List UInt8) (i n:Nat),i≤9→getUF i n l=if (grpF (10 - i) i l).2≠0 then (0,0,(grpF (10 - i) i l).2) else
    if I6 (grpF (10 - i) i l).1 (l.getD ((grpF (10 - i) i l).1 - 1 - i) 0).toNat then (n+V (l.take ((grpF (10 - i) i l).1 - i)) * 2 ^ (7 * i),(grpF (10 - i) i l).1,0) else (0,0,4)
  | [], i, n, hi => by
    obtain⟨m,hm⟩:∃ m,10 - i=m+1:=⟨9 - i,by omega⟩
    rw[hm];simp[getUF,grpF]
  | x :: r, i, n, hi => by
    obtain⟨m,hm⟩:∃ m,10 - i=m+1:=⟨9 - i,by omega⟩
    rw[hm]
    unfold getUF grpF
    by_cases hx:x.toNat<128
    · rw [if_pos hx, if_pos hx]
      simp only[show i+1 - 1 - i=0 from by omega,show i+1 - i=1 from by omega,List.getD_cons_zero,ne_eq,not_true_eq_false,if_false,List.take_succ_cons,List.take_zero,V,Nat.mul_zero,Nat.add_zero]
      by_cases c:(i=9∧1<x.toNat)∨(0<i∧x.toNat=0)
      · rw[if_pos c,if_neg (by unfold I6;omega)]
      · rw[if_neg c,if_pos (by unfold I6;omega)]
    · rw [if_neg hx, if_neg hx]
      by_cases h9:i=9
      · subst h9
        have:m=0:=by omega
        subst this
        rw[if_pos (.inl ⟨rfl,by omega⟩)]
        simp[grpF]
      · rw [if_neg (by omega), Rx r (i + 1) _ (by omega), show 10 - (i + 1) = m from by omega]
        by_cases he:(grpF m (i+1) r).2=0
        · obtain ⟨h1, h2, h3, h4, h5⟩ := Hj m (i + 1) r he
          generalize (grpF m (i+1) r).1=k at *
          obtain⟨j,rfl⟩:∃ j,k=i+1+(j+1):=⟨k - (i+1) - 1,by omega⟩
          simp only[he,ne_eq,not_true_eq_false,if_false]
          rw[show i+1+(j+1) - (i+1)=j+1 from by omega,show i+1+(j+1) - 1 - (i+1)=j from by omega,show i+1+(j+1) - i=j+1+1 from by omega,show i+1+(j+1) - 1 - i=j+1 from by omega]
          rw[List.getD_cons_succ,List.take_succ_cons]
          have e:n+x.toNat % 128 * 2 ^ (7 * i)+V (r.take (j+1)) * 2 ^ (7 * (i+1))=n+V (x :: r.take (j+1)) * 2 ^ (7 * i):=by
            rw[I5]
            show _=n+(x.toNat % 128+128 * V (r.take (j+1))) * 2 ^ (7 * i)
            rw[Nat.add_mul,Nat.mul_assoc,Nat.mul_left_comm (V _) 128];omega
          rw[e]
        · simp[he]
def refU (b:List UInt8):Nat×Nat×Int :=
  if (grp b).2≠0 then (0,0,(grp b).2) else if lebU (rv (b.take (grp b).1))=b.take (grp b).1 then (rv (b.take (grp b).1),(grp b).1,0) else (0,0,4)
theorem Ka (b:List UInt8):getU b=refU b:=by
  unfold getU refU grp
  rw[Rx b 0 0 (by omega)]
  simp only[Nat.sub_zero,Nat.mul_zero,Nat.pow_zero,Nat.mul_one,Nat.zero_add]
  by_cases he:(grpF 10 0 b).2=0
  · obtain ⟨h1, h2, h3, h4, h5⟩ := Hj 10 0 b he
    simp only[Nat.sub_zero] at h3 h4 h5
    simp only[he,ne_eq,not_true_eq_false,if_false]
    have hlen:(b.take (grpF 10 0 b).1).length=(grpF 10 0 b).1:=by simp;omega
    obtain⟨k1,k2⟩:=Aeo h4 (by omega)
    rw[hlen,h5] at k1 k2
    by_cases c:I6 (grpF 10 0 b).1 (b.getD ((grpF 10 0 b).1 - 1) 0).toNat
    · rw[if_pos c,if_pos (k1.2 c),k2 c]
    · rw[if_neg c,if_neg (fun e=>c (k1.1 e))]
  · simp[he]
theorem Abh {i:Nat} (hi:i<10):grpF (10 - i) i []=(0,3):=by
  obtain⟨m,hm⟩:∃ m,10 - i=m+1:=⟨9 - i,by omega⟩
  rw[hm];rfl
theorem Ado {i:Nat} (hi:i<10) {x:UInt8} {r:List UInt8} (hx:x.toNat<128):grpF (10 - i) i (x :: r)=(i+1,0):=by
  obtain⟨m,hm⟩:∃ m,10 - i=m+1:=⟨9 - i,by omega⟩
  rw[hm];unfold grpF;rw[if_pos hx]
theorem Adp {i:Nat} (hi:i<10) {x:UInt8} {r:List UInt8} (hx:¬ x.toNat<128):grpF (10 - i) i (x :: r)=grpF (10 - (i+1)) (i+1) r:=by
  obtain⟨m,hm⟩:∃ m,10 - i=m+1:=⟨9 - i,by omega⟩
  rw[hm,show 10 - (i+1)=m from by omega]
  conv=>lhs;unfold grpF
  rw[if_neg hx]
theorem Afa (m r:Nat) (hr:r<128):Cu .or .u64 (IntKind.u64.wrap ((m:Int) * 2 ^ min (7:Int).toNat IntKind.u64.bits)) ((r:Nat):Int)=(((r+128 * m) % 18446744073709551616:Nat):Int):=by
  have e0:IntKind.u64.wrap ((m:Int) * 2 ^ min (7:Int).toNat IntKind.u64.bits)=((m % 144115188075855872 * 2 ^ 7:Nat):Int):=by
    show IntKind.u64.wrap ((m:Int) * 2 ^ 7)=_
    rw[Oo];omega
  rw[e0,show Cu .or .u64 ((m % 144115188075855872 * 2 ^ 7:Nat):Int) (r:Int)=Cu .or .u64 (r:Int) ((m % 144115188075855872 * 2 ^ 7:Nat):Int) from ?_,Aas (k:=7) (by omega) (by omega)]
  · congr 1;omega
  · show IntKind.u64.wrap _ = IntKind.u64.wrap _
    congr 2
    exact congrArg BitVec.toNat (BitVec.or_comm _ _)
theorem Fm {a b:List UInt8} (h:toStr a=toStr b):a=b:=by
  unfold toStr at h
  injection h with h
  injection h
theorem Ac1 {xs:List UInt8} {j k:Nat} (hj:j+1≤k) (hk:k≤xs.length):rv ((xs.drop j).take (k - j))=((xs.getD j 0).toNat % 128+128 * rv ((xs.drop (j+1)).take (k - (j+1)))) % 18446744073709551616:=by
  rw[Gy (by omega),show k - j=k - (j+1)+1 from by omega,List.take_succ_cons]
  rfl
theorem Wu {b:List UInt8} (h:(grp b).2=0):0<(grp b).1∧(grp b).1≤10∧(grp b).1≤b.length:=by
  unfold grp at h ⊢
  obtain⟨h1,h2,h3,_⟩:=Hj 10 0 b h
  omega
def Only (Q:Exit→Act→World→Prop):Exit→Act→World→Prop
  | .normal,a,w=>Q .normal a w
  | _,_,_=>False
structure Hl (P:Program) (ops:Array Oper) (Q:Exit→Act→World→Prop) (S:World→Prop) (fuel:Nat) (listed:Array Bool) (a:Act) (w:World):Prop where
  mk :: (out:wpAnyH P .any ops (Only Q) S fuel listed a w)
structure Hop (P:Program) (ops:Array Oper) (Q:Exit→Act→World→Prop) (o:Oper) (K:Act→World→Prop) (a:Act) (w:World):Prop where
  mk :: (out:(if Region.wanted o (yielded ops a.tmps) then o.wp P a w K (Only Q)∨(o.asks P a w∧LetsOut (Only Q)) else K (a.put o.dst undef) w))
section
variable {P : Program} {ops : Array Oper} {Q : Exit → Act → World → Prop} {S : World → Prop} {n : Nat} {f : Nat → Value} {w : World} {fuel : Nat} {listed : Array Bool} {id : Nat} {l : List Oper} {K : Act → World → Prop}
variable {op : Op} {ty : TypeId} {pos : String} {aft : Array Edge} {d : Nat} {v : Value}
theorem Bj (S:World→World→Prop) (hm:P.follows .mixedOrders=true) (h:∀ w',Ext w w'→Hl P l.toArray Q (S w') l.toArray.size (Array.replicate l.toArray.size false) (fr n f) w'):Wp P (Code.region id l.toArray true) Q (fr n f) w :=
  ⟨wp_mono (wp_region_held (S:=S w.drew) hm (h w.drew (Ext.drew w)).out) fun e a w hq=>by cases e <;> first | exact hq | exact hq.elim⟩
theorem A4 (i:Nat) (hi:ops[i]? = some ⟨some d,op,ty,pos,aft,none⟩) (hs:Region.noSelect ops=true) (hf:Region.free .any ops listed i=true) (hr:(Region.ready .any ops listed).contains i=true) (hS:S w)
    (h:∀ w,S w→Ex P w n f ⟨some d,op,ty,pos,aft,none⟩ v) (k:Hl P ops Q S fuel (listed.setIfInBounds i true) (fr n (upd f d v)) w):Hl P ops Q S (fuel+1) listed (fr n f) w:=by
  refine⟨wpAnyH_take hi hs hf hr (fun c a w q=>q.elim) (v:=v) (.inl ⟨rfl,fun w hw=>?_⟩) hS ?_⟩
  · rw[Bn];exact h w hw
  · rw[Du];exact k.out
theorem F7 (i:Nat) (o:Oper) (hi:ops[i]? = some o) (hr:Region.ready .any ops listed=[i]) (h:Hop P ops Q o (fun a' w'=>S w'∧Hl P ops Q S fuel (listed.setIfInBounds i true) a' w') (fr n f) w):Hl P ops Q S (fuel+1) listed (fr n f) w:=by
  refine⟨wpAnyH_all hr (by simp) (fun j hj=>?_)⟩
  have:j=i:=by simpa using hj
  subst this
  refine wpOp_mono (K:=fun a' w'=>S w'∧Hl P ops Q S fuel (listed.setIfInBounds j true) a' w') (fun a w hk=>⟨hk.1,hk.2.out⟩) ?_
  unfold wpOp
  simp only[hi]
  exact h.out
theorem Lq (i j:Nat) (o o2:Oper) (hi:ops[i]? = some o) (hj:ops[j]? = some o2) (hr:Region.ready .any ops listed=[i,j]) (h:Hop P ops Q o (fun a' w'=>S w'∧Hl P ops Q S fuel (listed.setIfInBounds i true) a' w') (fr n f) w)
    (h2:Hop P ops Q o2 (fun a' w'=>S w'∧Hl P ops Q S fuel (listed.setIfInBounds j true) a' w') (fr n f) w):Hl P ops Q S (fuel+1) listed (fr n f) w:=by
  refine⟨wpAnyH_all hr (by simp) (fun m hm=>?_)⟩
  have:m=i∨m=j:=by simpa using hm
  rcases this with rfl | rfl
  · refine wpOp_mono (K := fun a' w' => S w' ∧ Hl P ops Q S fuel (listed.setIfInBounds m true) a' w') (fun a w hk => ⟨hk.1, hk.2.out⟩) ?_
    unfold wpOp
    simp only[hi]
    exact h.out
  · refine wpOp_mono (K := fun a' w' => S w' ∧ Hl P ops Q S fuel (listed.setIfInBounds m true) a' w') (fun a w hk => ⟨hk.1, hk.2.out⟩) ?_
    unfold wpOp
    simp only[hj]
    exact h2.out
theorem A7 (hr:Region.ready .any ops listed=[]) (h:Q .normal (fr n f) w):Hl P ops Q S fuel listed (fr n f) w:=⟨wpAnyH_done (Q:=Only Q) hr h fuel⟩
theorem A1 {o:Oper} (h:∀ Q':Exit→Act→World→Prop,(∀ a w,K a w→Q' .normal a w)→Lst P ops Q' [o] (fr n f) w):Hop P ops Q o K (fr n f) w:=by
  have h1:=(h (Exit.then K (Only Q)) (fun a w hk=>hk)).out
  refine⟨?_⟩
  unfold wpList at h1
  split
  · rename_i hw
    rw[if_pos hw] at h1
    refine h1.imp (fun h1=>?_) (fun h1=>⟨h1.1,by obtain⟨_,a,w,q⟩:=h1;exact⟨a,w,q⟩⟩)
    unfold Oper.wp at h1 ⊢
    generalize (execOp (fr n f).eval o).run P w=r at *
    cases r with
    | ok n w' =>
      cases n <;> simp only[Oper.upon] at h1 ⊢ <;>
        exact h1
    | halt x w'=>cases x <;> simp only[Oper.upon] at h1 ⊢ <;> exact h1
  · rename_i hw
    rw[if_neg hw] at h1
    exact h1
theorem An {Q':Exit→Act→World→Prop} {a:Act} (hQ:∀ a w,K a w→Q' .normal a w) (h:K a w):Lst P ops Q' [] a w:=⟨hQ _ _ h⟩
end
section
variable {P : Program} {ops : Array Oper} {Q : Exit → Act → World → Prop} {S : World → Prop} {n : Nat} {f : Nat → Value} {w : World} {fuel : Nat} {listed : Array Bool} {op : Op} {ty : TypeId} {pos : String} {aft : Array Edge} {d : Nat} {v : Value}
theorem hT (i : Nat) (hi : ops[i]? = some ⟨some d, op, ty, pos, aft, none⟩) (hS : S w) (h : ∀ w, S w → Ex P w n f ⟨some d, op, ty, pos, aft, none⟩ v) (k : Hl P ops Q S fuel (listed.setIfInBounds i true) (fr n (upd f d v)) w) (hs : Region.noSelect ops = true := by kernel_rfl) (hf : Region.free .any ops listed i = true := by kernel_rfl) (hr : (Region.ready .any ops listed).contains i = true := by kernel_rfl) : Hl P ops Q S (fuel + 1) listed (fr n f) w := A4 i hi hs hf hr hS h k
theorem h1L (i : Nat) {o : Oper} (h : ∀ Q' : Exit → Act → World → Prop, (∀ a w, (S w ∧ Hl P ops Q S fuel (listed.setIfInBounds i true) a w) → Q' .normal a w) → Lst P ops Q' [o] (fr n f) w) (hi : ops[i]? = some o := by exact rfl) (hr : Region.ready .any ops listed = [i] := by kernel_rfl) : Hl P ops Q S (fuel + 1) listed (fr n f) w := F7 i _ hi hr (A1 h)
end
section
variable {α : Type} {d : Kind α} {e : TypeId} {B B0 : Nat} {w w' : World} {p : Option Addr} {n c : Nat} {xs : List α}
theorem Own.block (h:Own d e B B0 w p n c xs) (hn:0<n):∃ g cur css,p=some ⟨g,0,none⟩∧B0≤g∧Blk w g cur e∧n≤c∧c≤9223372036854775807∧cur.size=c * d.sz∧d.All B w xs css∧css.flatten.length=n * d.sz∧cur.toList.take (n * d.sz)=css.flatten:=by
  obtain⟨css,ha,ho⟩:=h.row
  rcases ho.2 with ⟨_,h2⟩ | ⟨g,cap,cur,h1,h2,h3,h4,h5,h6,h7⟩
  · omega
  · injection h1 with e1 e2 e3
    subst e1 e3
    exact⟨g,cur,css,rfl,h2,h3,h4,h5,h6,ha,ho.1,h7⟩
theorem Own.remade {g m:Nat} {cur:Array Value} {ys:List α} {css:List (List Value)} (hg:B0≤g) (hB:Blk w' g cur e) (hm:m≤c) (hc:c≤9223372036854775807) (hs:cur.size=c * d.sz) (hl:ys.length=m) (ha:d.All B w' ys css) (ht:cur.toList.take (m * d.sz)=css.flatten) :
    Own d e B B0 w' (some ⟨g,0,none⟩) m c ys:=⟨hl,css,ha,by rw[ha.flat,hl],.inr ⟨g,c,cur,rfl,hg,hB,hm,hc,hs,ht⟩⟩
theorem All.set {B:Nat} {w:World} {y:α} {cy:List Value} (hy:d.K B w y cy):∀ {xs:List α} {css:List (List Value)} (i:Nat),d.All B w xs css→d.All B w (xs.set i y) (css.set i cy)
  | [],[],_,_=>trivial
  | _ :: _,_ :: _,0,h=>⟨hy,h.2⟩
  | _ :: _,_ :: _,i+1,h=>⟨h.1,All.set hy i h.2⟩
  | [],_ :: _,_,h=>h.elim
  | _ :: _,[],_,h=>h.elim
theorem Abr {B:Nat} {w:World} {xs:List α} {css:List (List Value)} (ha:d.All B w xs css) {i:Nat} (hi:i<css.length) (cy:List Value):(css.set i cy).flatten=css.flatten.take (i * d.sz)++cy++css.flatten.drop (i * d.sz+d.sz):=by
  rw[List.set_eq_take_append_cons_drop,if_pos hi,List.flatten_append,List.flatten_cons,ha.flat_take,ha.flat_drop,Nat.add_mul,Nat.one_mul]
  simp
theorem Own.put {i:Nat} {y:α} {cy:List Value} (h:Own d e B B0 w p n c xs) (hi:i<n) (hy:d.K B w y cy) (hBB:B≤B0) (hE:e∉d.E) {g:Nat} {cur:Array Value} (hB:Blk w g cur e) (hp:ab p=g)
    (hP:Put w w' g (cur.toList.take (i * d.sz)++cy++cur.toList.drop (i * d.sz+d.sz)).toArray e):Own d e B B0 w' p n c (xs.set i y)∧Mod B0 e w w':=by
  obtain⟨g',cur',css,rfl,h2,h3,h4,h5,h6,ha,hl,ht⟩:=h.block (by omega)
  have e1:g'=g:=hp
  subst e1
  have e2:cur'=cur:=by have e4:=h3.symm.trans hB;injection e4 with e4;injection e4
  subst e2
  have hm:=hP.mod B0 h2
  have hcy:=d.len hy
  have hxs:=h.len
  have hle:i * d.sz+d.sz≤n * d.sz:=by rw[← Nat.succ_mul];exact Nat.mul_le_mul_right _ hi
  have hcs:n * d.sz≤c * d.sz:=Nat.mul_le_mul_right _ h4
  refine⟨Own.remade h2 hP.blk h4 h5 ?_ (by simpa using h.len) (All.set (d.keep (hm.same hBB hE) hy) i (ha.keep (hm.same hBB hE))) ?_,hm⟩
  · simp only[List.size_toArray,List.length_append,List.length_take,List.length_drop,Array.length_toList];omega
  · have hcl : css.length = n := by rw [ha.length, hxs]
    rw[Abr ha (by omega),← ht]
    simp only[List.take_take,List.drop_take]
    have ea:(cur'.toList.take (i * d.sz)++cy).length=i * d.sz+d.sz:=by simp;omega
    rw[show n * d.sz=(cur'.toList.take (i * d.sz)++cy).length+(n * d.sz - (i * d.sz+d.sz)) from by omega,List.take_length_add_append]
    rw[show min (i * d.sz) ((cur'.toList.take (i * d.sz)++cy).length+(n * d.sz - (i * d.sz+d.sz)))=i * d.sz from by omega,ea]
    rw[show i * d.sz+d.sz+(n * d.sz - (i * d.sz+d.sz)) - (i * d.sz+d.sz)=n * d.sz - (i * d.sz+d.sz) from by omega]
section
variable {P : Program} {ops : Array Oper} {Q : Exit → Act → World → Prop} {rest : List Oper} {N : Nat} {f : Nat → Value}
variable {ty0 : TypeId} {pos : String} {aft : Array Edge} {v : Value} {x y : Operand} {T : TypeId}
theorem Y0 {i:Nat} (y0:α) {vs:Array Value} (hx:ev N f x = .pointer (some ⟨ab p,ao p+i * d.sz,none⟩)) (hy:ev N f y = .agg vs) (hO:Own d e B B0 w p n c xs) (hi:i<n) (ha:d.K B w y0 vs.toList) (hs:(P.info? T).map (·.size)=some d.sz) (hBB:B≤B0) (hE:e∉d.E)
    (k:∀ w',Own d e B B0 w' p n c (xs.set i y0)→Mod B0 e w w'→Lst P ops Q rest (fr N f) w'):Lst P ops Q (⟨none,.store T x y,ty0,pos,aft,none⟩ :: rest) (fr N f) w:=by
  obtain⟨g,cur,css,e1,h2,h3,h4,h5,h6,_⟩:=hO.block (by omega)
  have hab:ab p=g:=by rw[e1];rfl
  have hao:ao p=0:=by rw[e1];rfl
  have hcy:=d.len ha
  have hvs:vs.size=d.sz:=by simpa using hcy
  have hle:i * d.sz+d.sz≤c * d.sz:=by rw[← Nat.succ_mul];exact Nat.mul_le_mul_right _ (by omega)
  rw[hab,hao,Nat.zero_add] at hx
  refine Ff hx hy (d.one ha) (by rw[hs,hvs]) h3 (by omega) fun w' hP=>?_
  rw[hvs] at hP
  have:=hO.put hi ha hBB hE h3 hab hP
  exact k w' this.1 this.2
theorem l1n {op:Op} {w':World} (h:(execOp (ev N f) ⟨none,op,ty0,pos,aft,none⟩).run P w = .ok (.value v) w') (k:Lst P ops Q rest (fr N f) w'):Lst P ops Q (⟨none,op,ty0,pos,aft,none⟩ :: rest) (fr N f) w :=
  ⟨wpList_plain rfl fun K hK=>by
    unfold Oper.wp
    rw[Bn,h,Oper.upon_value]
    exact hK _ _ k.out⟩
theorem Adb {m c2 bytes:Nat} {z:Value} (hT:P.underlying T=some (.slice e)) (hi:(P.info? e).map (fun i=>(i.zero,i.size,i.bytes))=some (some z,d.sz,bytes)) (hz:z.cells.size=d.sz) (h1:∀ u∈z.cells.toList,u.oneCell'=true) (hsz:0<d.sz)
    (hx:ev N f x = .slice (adw p c m d.sz) (n - m) c2) (hO:Own d e B B0 w p n c xs) (hm:m≤n) (hBB:B≤B0) (hE:e∉d.E)
    (k:∀ w',Own d e B B0 w' p m c (xs.take m)→Mod B0 e w w'→Lst P ops Q rest (fr N f) w'):Lst P ops Q (⟨none,.call ⟨.builtin .clear,#[x],#[T]⟩,ty0,pos,aft,none⟩ :: rest) (fr N f) w:=by
  obtain⟨ii,hi0,hi1⟩:=Option.map_eq_some_iff.1 hi
  simp only[Prod.mk.injEq] at hi1
  obtain⟨hiz,his,hib⟩:=hi1
  have hzv:(zeroValue e).run P w = .ok z w:=by simp[zeroValue,typeInfo,hi0,hiz]
  by_cases h0:n - m=0
  · have hmn : m = n := by omega
    subst hmn
    refine l1n (w':=w) (v := .tuple #[]) ?_ (k w (by rw[List.take_of_length_le (by rw[hO.len];exact Nat.le_refl _)];exact hO) (.refl _ _ _))
    have hr:(Builtin.clear_ #[T] ty0 #[.slice (adw p c m d.sz) (m - m) c2]).run P w = .ok (.tuple #[]) w:=by
      rw[h0]
      cases adw p c m d.sz <;> simp[Builtin.clear_,run_underlying hT]
    simp only[execOp,resolve,invoke,builtin,Sem.run_bind,Sem.run_pure,Result.andThen_ok,List.map_toArray,List.map_cons,List.map_nil,hx,hr]
  · obtain ⟨g, cur, css, e1, h2, h3, h4, h5, h6, ha, hl, ht⟩ := hO.block (by omega)
    subst e1
    have hcm:c≠m:=by omega
    have hadw:adw (some ⟨g,0,none⟩) c m d.sz=some ⟨g,m * d.sz,none⟩:=by
      unfold adw;rw[if_neg hcm]
      show some (Addr.add ⟨g,0,none⟩ (m * d.sz))=_
      rw[Addr.add_mid,Nat.zero_add]
    rw[hadw] at hx
    let vs:=(Builtin.zeroCells z.cells (n - m)).toList
    have hvl:vs.length=(n - m) * d.sz:=by show (Builtin.zeroCells z.cells (n - m)).toList.length=_;rw[Array.length_toList,size_zeroCells,hz]
    have hnm:m * d.sz+(n - m) * d.sz=n * d.sz:=by rw[← Nat.add_mul];congr 1;omega
    have hnc:n * d.sz≤c * d.sz:=Nat.mul_le_mul_right _ h4
    have hst:=run_storeCells_cells (P:=P) g (m * d.sz) vs 0 w
      (fun j hj=>by rw[Nat.add_zero,h3.cell (v:=cur[m * d.sz+j]'(by omega)) (Array.getElem?_eq_getElem (by omega))];rfl)
      (fun j hj=>frozen_of_row w g _ cur e h3)
      (fun u hu=>by
        have hu':u∈Builtin.zeroCells z.cells (n - m):=by simpa [vs] using hu
        simp only[Builtin.zeroCells,Array.mem_map] at hu'
        obtain⟨q,_,rfl⟩:=hu'
        have:0<z.cells.size:=by omega
        rw[getElem!_pos z.cells _ (Nat.mod_lt _ this)]
        exact h1 _ (by simp))
    rw[Nat.add_zero] at hst
    have hP:=Gg vs h3 (o:=m * d.sz) (by omega)
    have hm':=hP.mod B0 h2
    refine l1n (w':=w.setCells g (m * d.sz) vs) (v := .tuple #[]) ?_ (k _ (Own.remade h2 hP.blk (by omega) h5 ?_ (by rw[List.length_take,hO.len];omega) ((ha.keep (hm'.same hBB hE)).take m) ?_) hm')
    · have hr : (Builtin.clear_ #[T] ty0 #[.slice (some ⟨g, m * d.sz, none⟩) (n - m) c2]).run P w = .ok (.tuple #[]) (w.setCells g (m * d.sz) vs) := by
        obtain⟨q,hq⟩:∃ q,n - m=q+1:=⟨n - m - 1,by omega⟩
        have hst':=hst
        simp only[vs] at hst' ⊢
        rw[hq] at hst' ⊢
        simp[Builtin.clear_,run_underlying hT,hzv,hst']
      simp only[execOp,resolve,invoke,builtin,Sem.run_bind,Sem.run_pure,Result.andThen_ok,List.map_toArray,List.map_cons,List.map_nil,hx,hr]
    · simp only[List.size_toArray,List.length_append,List.length_take,List.length_drop,Array.length_toList];omega
    · rw [ha.flat_take, ← ht]
      simp only[List.take_take]
      rw[List.append_assoc,List.take_append_of_le_length (by simp;omega),List.take_take]
      congr 1;omega
end
end
section
variable {P : Program} {ops : Array Oper} {Q : Exit → Act → World → Prop} {rest : List Oper} {n : Nat} {f : Nat → Value} {w : World}
variable {ty : TypeId} {pos : String} {aft : Array Edge} {v : Value} {x y : Operand} {T T' : TypeId} {op : Op} {dst : Option Nat} {gd : Option (Nat × Bool)}
theorem Cd {j:Nat} {want:Bool} (d':Nat) (hd:(ops[j]?).bind (·.dst)=some d') (hv:ev n f (.tmp d') = .bool want)
    (k:Lst P ops Q (⟨dst,op,ty,pos,aft,none⟩ :: rest) (fr n f) w):Lst P ops Q (⟨dst,op,ty,pos,aft,some (j,want)⟩ :: rest) (fr n f) w:=by
  have h:=k.out
  refine⟨?_⟩
  unfold wpList at h ⊢
  rw[if_pos (Ju hd hv)]
  have hw:Region.wanted ⟨dst,op,ty,pos,aft,none⟩ (yielded ops (fr n f).tmps)=true:=rfl
  rw[if_pos hw] at h
  exact h
theorem E4 {e:TypeId} (hT:P.underlying T=some (.slice e)) {p:Option Addr} {l c:Nat} (hx:ev n f x = .slice p l c) (hy:ev n f y = .slice none 0 0):Ex P w n f ⟨dst,.binOp .eql T x y T',ty,pos,aft,gd⟩ (.bool (decide (p=none))) :=
  Ci hx hy Uv (by simp[binOp,run_equal_slice_nil w T e p l c hT];cases p <;> simp)
theorem Vl (hT:P.underlying T=some .bool) {a b:Bool} (hx:ev n f x = .bool a) (hy:ev n f y = .bool b):Ex P w n f ⟨dst,.binOp .eql T x y T',ty,pos,aft,gd⟩ (.bool (decide (a=b))) :=
  Ci hx hy (Pm _ _) (by simp[binOp,run_equal_bool w T a b hT];cases a <;> cases b <;> simp)
theorem Oi (hT:P.underlying T=some .bool) {a b:Bool} (hx:ev n f x = .bool a) (hy:ev n f y = .bool b):Ex P w n f ⟨dst,.binOp .neq T x y T',ty,pos,aft,gd⟩ (.bool (decide (a≠b))) :=
  Ci hx hy (Pm _ _) (by simp[binOp,run_equal_bool w T a b hT];cases a <;> cases b <;> simp)
end
theorem Mod.mod {B:Nat} {t:TypeId} {a b c:World} (h:Mod B t a b) (k:Mod B t b c) (_:True):Mod B t a c:=h.trans k
section
variable {P : Program} {n : Nat} {f : Nat → Value} {w : World} {dst : Option Nat} {ty0 : TypeId} {pos : String} {aft : Array Edge} {gd : Option (Nat × Bool)} {x y : Operand} {T e : TypeId}
theorem Bs {sz:Nat} (hT:P.underlying T=some (.slice e)) (hz:(P.info? e).map (·.size)=some sz) {p:Option Addr} {len cap:Nat} {k:IntKind} {m:Nat} (hx:ev n f x = .slice p len cap) (hy:ev n f y = .int k (m:Int)) (h1:m≤len) :
    Ex P w n f ⟨dst,.slice T x (some y) none none,ty0,pos,aft,gd⟩ (.slice (adw p cap m sz) (len - m) (cap - m)):=Qn hT hz hx hy (by omega) (by omega)
theorem Cv {sz:Nat} (hT:P.underlying T=some (.slice e)) (hz:(P.info? e).map (·.size)=some sz) {p:Option Addr} {len cap:Nat} {k:IntKind} {m:Nat} (hx:ev n f x = .slice p len cap) (hy:ev n f y = .int k (m:Int)) (h1:m≤cap) :
    Ex P w n f ⟨dst,.slice T x none (some y) none,ty0,pos,aft,gd⟩ (.slice p m cap):=by
  have h:=Ya (w:=w) (dst':=dst) (ty0:=ty0) (pos:=pos) (aft:=aft) (gd:=gd) hT hz hx hy (by omega) (by omega)
  rw[Acd] at h
  exact h
end
section
variable {α : Type} {sz : Nat} {enc : α → List Value} {hl : ∀ x, (enc x).length = sz} {h1 : ∀ x, ∀ v ∈ enc x, v.oneCell' = true}
theorem Sl.pureRow {e:TypeId} {B:Nat} {w:World} {p:Option Addr} {n c:Nat} {xs:List α} (h:Sl (Kind.pure sz enc hl h1) e B w p n c xs):RowIn B e w p (xs.map enc).flatten:=by
  obtain⟨css,ha,hr⟩:=h.row
  rw[Ia ha] at hr
  exact hr
theorem Kg (hl:∀ x,(enc x).length=sz):∀ xs:List α,(xs.map enc).flatten.length=xs.length * sz
  | []=>by simp
  | x :: xs=>by rw[List.map_cons,List.flatten_cons,List.length_append,hl,Kg hl xs,List.length_cons,Nat.add_mul];omega
theorem Ba {P:Program} {tx e e':TypeId} (hk:P.underlying tx=some (.slice e')) {B:Nat} {w:World} {p:Option Addr} {n c:Nat} {xs:List α} (h:Sl (Kind.pure sz enc hl h1) e B w p n c xs) (hsz:0<sz) :
    Src P sz tx (.slice p n c) n (xs.map enc).flatten w :=
  J0 hk h.pureRow.row (by rw[Kg hl,h.len]) hsz (fun u hu=>by
    obtain⟨cs,hcs,hu⟩:=List.mem_flatten.1 hu
    obtain⟨x,_,rfl⟩:=List.mem_map.1 hcs
    exact h1 x u hu)
end
section
variable {P : Program} {n : Nat} {f : Nat → Value} {w : World} {dst : Option Nat} {ty0 : TypeId} {pos : String} {aft : Array Edge} {gd : Option (Nat × Bool)} {T e : TypeId}
theorem Zx {parts:List (Nat×Operand)} {ps:List (Nat×Value)} {cs:Array Value} (hb:P.built T ps=some cs) (hp:evP n f parts=ps):Ex P w n f ⟨dst,.build T parts.toArray,ty0,pos,aft,gd⟩ (.agg cs):=by
  rw[← hp,← Tc] at hb
  unfold Ex execOp
  simp only[Sem.run_bind,run_build (P:=P) w T _ cs hb,Result.andThen_ok]
  rfl
end
theorem U0 (o:Nat):∀ (l:List Value) (j:Nat) (b:Array Value),o+j+l.length≤b.size→(l.zipIdx j).foldl (fun cs (p:Value×Nat)=>cs.setIfInBounds (o+p.2) p.1) b=(b.toList.take (o+j)++l++b.toList.drop (o+j+l.length)).toArray
  | [],j,b,h=>by simp
  | u :: l, j, b, hb => by
    simp only[List.length_cons] at hb
    rw[List.zipIdx_cons,List.foldl_cons,U0 o l (j+1) _ (by simp;omega)]
    congr 1
    simp only[Array.toList_setIfInBounds]
    have hj:o+j<b.toList.length:=by simp;omega
    rw[List.drop_set_of_lt (by omega),List.take_set,← Nat.add_assoc,List.take_succ_eq_append_getElem hj,List.set_append_right _ _ (by simp;omega)]
    have:o+j - (b.toList.take (o+j)).length=0:=by simp;omega
    rw[this,List.length_cons,show o+j+(l.length+1)=o+j+1+l.length from by omega]
    simp
def numb:Nat→List Value→List (Nat×Value)
  | _,[]=>[]
  | j,v :: vs=>(j,v) :: numb (j+1) vs
theorem U3 {sz:Nat}:∀ (vs:List Value) (j:Nat) (base:Array Value),(∀ v∈vs,v.cells.size=sz)→base.size=(j+vs.length) * sz →
    Instr.fill (fun i=>some (i * sz,sz)) base (numb j vs)=some (base.toList.take (j * sz)++(vs.map (·.cells.toList)).flatten).toArray
  | [], j, base, _, hb => by
    simp only[List.length_nil,Nat.add_zero] at hb
    unfold numb Instr.fill
    rw[← hb,List.take_of_length_le (by simp)]
    simp
  | v :: vs, j, base, h, hb => by
    have hv:=h v (by simp)
    simp only[List.length_cons] at hb
    have hle:j * sz+sz≤base.size:=by rw[hb,← Nat.succ_mul];exact Nat.mul_le_mul_right _ (by omega)
    unfold numb Instr.fill
    simp only
    rw[if_neg (by simp[hv];omega)]
    have hf:=U0 (j * sz) v.cells.toList 0 base (by simp[hv];omega)
    simp only[Nat.add_zero] at hf
    rw[← Array.foldl_toList,Array.toList_zipIdx,hf]
    have hl:v.cells.toList.length=sz:=by simpa using hv
    rw[U3 vs (j+1) _ (fun u hu=>h u (by simp[hu])) (by simp[hl];rw[show min (j * sz) base.size=j * sz from by omega,show j+1+vs.length=j+(vs.length+1) from by omega,← hb];omega)]
    congr 1
    have ht:(base.toList.take (j * sz)++v.cells.toList).length=(j+1) * sz:=by rw[List.length_append,hl,List.length_take,Nat.add_mul];simp;omega
    rw[← ht,List.take_left,List.map_cons,List.flatten_cons]
    simp
theorem Ed {sz:Nat} (vs:List Value) (h:∀ v∈vs,v.cells.size=sz) (base:Array Value) (hb:base.size=vs.length * sz) :
    Instr.fill (fun i=>some (i * sz,sz)) base (numb 0 vs)=some ((vs.map (·.cells.toList)).flatten).toArray:=by
  have:=U3 vs 0 base h (by rw[Nat.zero_add];exact hb)
  simpa using this
section
variable {α : Type} {sz : Nat} {enc : α → List Value} {hl : ∀ x, (enc x).length = sz} {h1 : ∀ x, ∀ v ∈ enc x, v.oneCell' = true}
theorem B4 {e:TypeId} {B0:Nat} {w w':World} {g:Nat} (xs:List α) (hN:New w w' g (xs.map enc).flatten.toArray e) (hB:B0≤w.heap.size) (hs:xs.length≤9223372036854775807):Own (Kind.pure sz enc hl h1) e 0 B0 w' (some ⟨g,0,none⟩) xs.length xs.length xs :=
  Own.made _ e 0 B0 hN xs (xs.map enc) _ _ rfl (C6 0 w' xs) hB (Nat.le_refl _) hs (by rw[List.size_toArray,Kg hl];rfl) (by rw[List.take_of_length_le (by simp only[Kg hl];exact Nat.le_refl _)])
end
theorem E6 (h:Hash):∀ v∈(hv h).toList,v.oneCell'=true:=fun v hv'=>S0 h v (by simpa [hv] using hv')
section
variable {P : Program} {ops : Array Oper} {Q : Exit → Act → World → Prop} {S : World → Prop} {n : Nat} {f : Nat → Value} {w : World} {fuel : Nat} {listed : Array Bool} {K : Act → World → Prop}
variable {op : Op} {ty : TypeId} {pos : String} {aft : Array Edge} {d : Nat} {v : Value}
theorem Bh (i:Nat) {j:Nat} {want:Bool} (d':Nat) (hd:(ops[j]?).bind (·.dst)=some d') (hv:ev n f (.tmp d') = .bool want) (hi:ops[i]? = some ⟨some d,op,ty,pos,aft,some (j,want)⟩) (hs:Region.noSelect ops=true) (hf:Region.free .any ops listed i=true) (hr:(Region.ready .any ops listed).contains i=true) (hS:S w)
    (h:∀ w,S w→Ex P w n f ⟨some d,op,ty,pos,aft,some (j,want)⟩ v) (k:Hl P ops Q S fuel (listed.setIfInBounds i true) (fr n (upd f d v)) w):Hl P ops Q S (fuel+1) listed (fr n f) w:=by
  refine⟨wpAnyH_take hi hs hf hr (fun c a w q=>q.elim) (v:=v) (.inl ⟨Ju hd hv,fun w hw=>?_⟩) hS ?_⟩
  · rw[Bn];exact h w hw
  · rw[Du];exact k.out
end
section
variable {α : Type} {d : Kind α} {e : TypeId} {B B0 : Nat} {w w' : World} {p : Option Addr} {n c : Nat} {xs : List α}
theorem Own.below (h:Own d e B B0 w p n c xs):p=none∨ab p<w.heap.size:=by
  rcases h.form with ⟨h1,_⟩ | ⟨g,cur,h1,_,h3,_⟩
  · exact .inl h1
  · right;rw[h1];exact h3.lt
theorem Own.modB (h:Own d e B B0 w p n c xs) {B':Nat} {t:TypeId} (m:Mod B' t w w') (hB:B≤B') (hE:t∉d.E) (hp:p=none∨ab p<B'):Own d e B B0 w' p n c xs :=
  h.of_heap (m.same hB hE) (fun k hk hlt=>by
    rcases hp with hp | hp
    · rw[hp] at hk;cases hk
    · rw[hk] at hp;exact m.old k hlt (.inl hp))
variable {P : Program} {ops : Array Oper} {Q : Exit → Act → World → Prop} {rest : List Oper} {N : Nat} {f : Nat → Value}
variable {ty0 : TypeId} {pos : String} {aft : Array Edge} {v : Value} {x y : Operand} {T : TypeId}
end
def Hash.put (h:Hash) (j:Nat) (b:UInt8):Hash:=⟨h.1.set j b,by rw[List.length_set];exact h.2⟩
section
variable {P : Program} {ops : Array Oper} {Q : Exit → Act → World → Prop} {rest : List Oper} {n : Nat} {f : Nat → Value} {w : World}
variable {ty0 : TypeId} {pos : String} {aft : Array Edge} {x y : Operand} {T t : TypeId}
theorem Al {g:Nat} {cs vs:Array Value} (hx:ev n f x = .pointer (some ⟨g,0,none⟩)) (hy:ev n f y = .agg vs) (hv:∀ u∈vs.toList,u.oneCell'=true) (hs:(P.info? T).map (·.size)=some vs.size) (hB:Blk w g cs t) (ho:vs.size=cs.size)
    (k:∀ w',Put w w' g vs t→Lst P ops Q rest (fr n f) w'):Lst P ops Q (⟨none,.store T x y,ty0,pos,aft,none⟩ :: rest) (fr n f) w :=
  Ff hx hy hv hs hB (by omega) fun w' hP=>k w' (by
    have e:(cs.toList.take 0++vs.toList++cs.toList.drop (0+vs.size)).toArray=vs:=by
      rw[List.take_zero,List.nil_append,List.drop_of_length_le (by simp;omega),List.append_nil]
    rw[e] at hP;exact hP)
end
theorem Hi (h:Hash):(hv h).size=32:=by simp[hv,Ec]
def fnc (ro:Option Nat):Fence:={ Fence.wide with round:=ro }
structure Wf (ro:Option Nat) (P:Program) (c:Code) (Q:Exit→Act→World→Prop) (a:Act) (w:World):Prop where
  mk :: (out:c.wpIn (fnc ro) 0 P Q a w)
structure Lf (ro:Option Nat) (P:Program) (ops:Array Oper) (Q:Exit→Act→World→Prop) (l:List Oper) (a:Act) (w:World):Prop where
  mk :: (out:wpListIn (fnc ro) 0 P ops Q l a w)
section
variable {ro : Option Nat} {P : Program} {Q : Exit → Act → World → Prop} {K : Act → World → Prop} {a : Act} {w : World} {n : Nat} {f : Nat → Value}
theorem Wf.toWp {c:Code} (h:Wf none P c Q a w):Wp P c Q a w:=⟨wpIn_wide.1 h.out⟩
theorem X2 {x y:Code} (h:Wf ro P x (Exit.then (Wf ro P y Q) Q) a w):Wf ro P (Code.seq x y) Q a w :=
  ⟨wpIn_seq (wpIn_mono h.out fun e a w hq=>by cases e <;> first | exact Wf.out hq | exact hq)⟩
theorem Aes (h:Q .normal a w):Wf ro P .skip Q a w:=⟨wpIn_skip h⟩
theorem Afe (h:Q .ret a w):Wf ro P .ret Q a w:=⟨wpIn_ret h⟩
theorem X3 {i:Nat} {c:Code} (h:Wf ro P c (Exit.inBlock i Q) a w):Wf ro P (.block i c) Q a w:=⟨wpIn_block h.out⟩
theorem Afi {c:Operand} {x y:Code} {b:Bool} (hc:ev n f c = .bool b) (ht:b=true→Wf ro P x Q (fr n f) w) (hf:b=false→Wf ro P y Q (fr n f) w):Wf ro P (Code.cond c x y) Q (fr n f) w :=
  ⟨wpIn_cond_split (t:=b) (by rw[Bn];exact hc) (fun h=>(ht h).out) (fun h=>(hf h).out)⟩
theorem Aff {c:Operand} {x y:Code} {p:Prop} [Decidable p] (hc:ev n f c = .bool (decide p)) (ht:p→Wf ro P x Q (fr n f) w) (hf:¬ p→Wf ro P y Q (fr n f) w):Wf ro P (Code.cond c x y) Q (fr n f) w :=
  Afi hc (fun h=>ht (of_decide_eq_true h)) (fun h=>hf (of_decide_eq_false h))
def J4 (o:Oper):Bool:=match o.op with | .defer _=>false | _=>true
def noQ:Exit→Act→World→Prop:=fun _ _ _=>False
theorem Ac7 {o:Oper} (hd:J4 o=true) {next next':Act→World→Prop} {Q':Exit→Act→World→Prop} {Q0:Exit→Act→World→Prop} (hp:∀ c a w,¬ Q0 (.panic c) a w) (ho:∀ a w,¬ Q0 .outgrown a w) (hn:∀ a w,next a w→next' a w) (h:o.wp P a w next Q0∨(o.asks P a w∧LetsOut Q0)):o.wpIn (fnc ro) 0 P a w next' Q':=by
  rcases h with h | ⟨_,h⟩
  · refine ⟨fun _ _ => trivial, ?_⟩
    rw[Oper.semAt_eq _ _ _ (fun c hc=>by unfold J4 at hd;rw[hc] at hd;cases hd)]
    unfold Oper.wp at h
    cases hr:(execOp a.eval o).run P w with
    | ok r w1 =>
      rw[hr] at h
      cases r with
      | value v=>exact hn _ _ h
      | skip=>exact hn _ _ h
      | defer d=>exact hn _ _ h
      | enter g args =>
        refine⟨fun hd=>(by cases hd),?_⟩
        have h2:Calls P g args w1 _:=h
        refine (callsIn_wide (n:=0)).2 (Calls.mono h2 fun e w' hk=>?_)
        cases e with
        | returned v=>exact hn _ _ hk
        | panicked c=>exact(hp _ _ _ hk).elim
        | outgrown=>obtain⟨_,_,hk⟩:=hk;exact(ho _ _ hk).elim
      | row row args =>
        refine⟨fun hd=>(by cases hd),?_⟩
        have h2:Rows P row args w1 _:=h
        intro c cs _
        obtain⟨v,w',hk,hs⟩:=h2 c cs
        exact⟨v,w',hn _ _ hk,stepsIn_wide.2 hs⟩
      | _=>exact h.elim
    | halt hh w1 =>
      rw[hr] at h
      cases hh <;> first | exact(hp _ _ _ h).elim | exact h.elim
  · obtain⟨_,_,h⟩:=h;exact(ho _ _ h).elim
theorem Ln {ops:Array Oper} {rest:List Oper}:∀ (l1:List Oper) (a:Act) (w:World),l1.all J4=true→wpList P ops (Exit.then (fun a w=>wpListIn (fnc ro) 0 P ops Q rest a w) noQ) l1 a w→wpListIn (fnc ro) 0 P ops Q (l1++rest) a w
  | [],a,w,_,h=>h
  | o :: l1, a, w, hd, h => by
    simp only[List.all_cons,Bool.and_eq_true] at hd
    unfold wpList at h
    show (if Region.wanted o (yielded ops a.tmps) then _ else _)
    split
    · rename_i hw
      rw[if_pos hw] at h
      exact Ac7 hd.1 (fun _ _ _ h=>h) (fun _ _ h=>h) (fun a w h=>Ln l1 a w hd.2 h) h
    · rename_i hw
      rw[if_neg hw] at h
      exact⟨fun _ _=>trivial,Ln l1 _ w hd.2 h⟩
theorem Is {l:List Oper} {id:Nat} (hd:l.all J4=true) (h:Lst P l.toArray (Exit.then (fun a w=>Q .normal a w) noQ) l (fr n f) w):Wf ro P (Code.region id l.toArray false) Q (fr n f) w :=
  ⟨wpIn_region_lit (by
    have:=Ln (ro:=ro) (Q:=Q) (rest:=[]) l (fr n f) w hd h.out
    rw[List.append_nil] at this
    exact this)⟩
theorem P0 {l:List Oper} {id:Nat} (k:Nat) (hd:(l.take k).all J4=true) (h:Lst P l.toArray (Exit.then (Lf ro P l.toArray Q (l.drop k)) noQ) (l.take k) (fr n f) w):Wf ro P (Code.region id l.toArray false) Q (fr n f) w :=
  ⟨wpIn_region_lit (by
    have:=Ln (ro:=ro) (Q:=Q) (rest:=l.drop k) (l.take k) (fr n f) w hd (E5 (fun e a w h=>by cases e <;> first | exact h.out | exact h) _ _ _ h.out)
    rw[List.take_append_drop] at this
    exact this)⟩
theorem Mv {ops:Array Oper} {l:List Oper} (hd:l.all J4=true) (h:Lst P ops (Exit.then (fun a w=>Q .normal a w) noQ) l (fr n f) w):Lf ro P ops Q l (fr n f) w :=
  ⟨by
    have:=Ln (ro:=ro) (Q:=Q) (rest:=[]) l (fr n f) w hd h.out
    rw[List.append_nil] at this
    exact this⟩
theorem Sr {ops:Array Oper} {rest:List Oper} {ty:TypeId} {pos:String} {aft:Array Edge} {d l:Nat} {x:Operand} {oas:List Operand} {ats:Array TypeId} {vs:List Value} {R:Ending→World→Prop}
    (hx:ev n f x = .func (.yield l) #[] #[]) (ha:evL n f oas=vs) (hy:YieldAt (fnc none) 0 P l vs.toArray w R) (hR:∀ e w',R e w'→∃ v,e = .returned v)
    (k:∀ v w',R (.returned v) w'→Lf none P ops Q rest (fr n (upd f d v)) w') :
    Lf none P ops Q (⟨some d,.call ⟨.value x,oas.toArray,ats⟩,ty,pos,aft,none⟩ :: rest) (fr n f) w:=by
  refine⟨?_⟩
  obtain⟨fn,tmps,assign,body,hrun,hround⟩:=hy
  have ha':oas.toArray.map (ev n f)=vs.toArray:=by rw[List.map_toArray,Fi,ha]
  refine wpListIn_plain rfl fun K hK=>⟨fun _ _=>trivial,?_⟩
  rw[Oper.semAt_eq _ _ _ (fun c hc=>by cases hc),Bn]
  have he:(execOp (ev n f) ⟨some d,.call ⟨.value x,oas.toArray,ats⟩,ty,pos,aft,none⟩).run P w = .ok (.round l fn tmps assign body) w:=by
    simp[execOp,resolve,ha',hx,Deferred.ofValue,invoke,Sem.run_bind,hrun]
  rw[he]
  refine⟨fun hd=>(by cases hd),hround.mono fun e w' hr=>?_⟩
  obtain⟨v,rfl⟩:=hR e w' hr
  show K ((fr n f).put (some d) v) w'
  rw[Du]
  exact hK _ _ (k v w' hr).out
end
structure Lp (B:Nat) (w w':World):Prop where
  size:w'.heap.size=w.heap.size
  old:∀ k,(k<B∨ty w k≠none)→w'.heap[k]? = w.heap[k]?
  drawn:drw w'=drw w
  os:w'.os=w.os
  tape:w'.tape=w.tape
  output:w'.output=w.output
structure Rnd (E:List TypeId) (w w':World):Prop where
  size:w.heap.size≤w'.heap.size
  old:∀ k t,ty w k=some t→t∉E→w'.heap[k]? = w.heap[k]?
section
variable {B B' B0 : Nat} {E : List TypeId} {t : TypeId} {w w' w0 a b c : World}
theorem Lp.refl (B:Nat) (w:World):Lp B w w:=⟨rfl,fun _ _=>rfl,rfl,rfl,rfl,rfl⟩
theorem Lp.put {w:World} {l:Nat} {o o':Obj} (hl:w.heap[l]? = some o) (ho:Eng.ty w l=none) (hB:B≤l):Lp B w (w.putObj l o') :=
  ⟨World.putObj_size,fun k hk=>World.putObj_heap_other (fun e=>by rw[e] at hk;rcases hk with hk | hk;(· omega);(· exact hk ho)),rfl,rfl,rfl,rfl⟩
theorem Ext.lp (h:Ext w0 w) (m:Lp B w w') (hB:w0.heap.size≤B):Ext w0 w' :=
  ⟨by rw[m.size];exact h.size,fun k hk=>(m.old k (.inl (by omega))).trans (h.old k hk),m.os.trans h.os,m.tape.trans h.tape,m.output.trans h.output,by rw[m.drawn];exact h.drawn⟩
theorem Lp.same (m:Lp B w w') {F:List TypeId} (hB:B'≤B):Same B' F w w':=fun k hk ho=>m.old k (ho.imp (fun h=>by omega) fun ⟨u,_,e⟩=>by rw[e];simp)
theorem Blk.lp {g:Nat} {cs:Array Value} {u:TypeId} (h:Blk w g cs u) (m:Lp B w w'):Blk w' g cs u:=(m.old g (.inr (by rw[h.ty];simp))).trans h
variable {α : Type} {d : Kind α} {e : TypeId} {p : Option Addr} {n cc : Nat} {xs : List α}
theorem Sl.lp (h:Sl d e B w p n cc xs) (m:Lp B' w w') (hB:B≤B'):Sl d e B w' p n cc xs:=h.keep (m.same hB)
theorem Own.lp (h:Own d e B B0 w p n cc xs) (m:Lp B' w w') (hB:B≤B'):Own d e B B0 w' p n cc xs :=
  h.of_heap (m.same hB) (fun k hk hlt=>by
    rcases h.form with ⟨h1,_,_⟩ | ⟨g,cur,h1,_,h3,_⟩
    · rw[h1] at hk;cases hk
    · rw [h1] at hk; injection hk with hk; injection hk with hk; subst hk
      exact m.old _ (.inr (by rw[h3.ty];simp)))
theorem Rnd.refl (E:List TypeId) (w:World):Rnd E w w:=⟨Nat.le_refl _,fun _ _ _ _=>rfl⟩
theorem Rnd.trans (h:Rnd E a b) (k:Rnd E b c):Rnd E a c:=⟨Nat.le_trans h.size k.size,fun i t hi ht=>(k.old i t (by rw[B7 (h.old i t hi ht)];exact hi) ht).trans (h.old i t hi ht)⟩
theorem Rnd.ofExt (h:Ext a b):Rnd E a b:=⟨h.size,fun k t hk _=>h.old k (by
  rcases Nat.lt_or_ge k a.heap.size with h1 | h1
  · exact h1
  · unfold Eng.ty at hk;rw[Array.getElem?_eq_none h1] at hk;cases hk)⟩
theorem Rnd.ext (h:Rnd E a b) (k:Ext b c):Rnd E a c:=h.trans (.ofExt k)
theorem Rnd.ofLp (h:Lp B a b):Rnd E a b:=⟨Nat.le_of_eq h.size.symm,fun k t hk _=>h.old k (.inr (by rw[hk];simp))⟩
theorem Rnd.ofMod (h:Mod B t a b) (ht:t∈E):Rnd E a b:=⟨h.size,fun k u hk hu=>h.old k (by
  rcases Nat.lt_or_ge k a.heap.size with h1 | h1
  · exact h1
  · unfold Eng.ty at hk;rw[Array.getElem?_eq_none h1] at hk;cases hk) (.inr (by rw[hk];intro e;injection e with e;exact hu (by rw[e];exact ht)))⟩
theorem Rnd.mod (h:Rnd E a b) (m:Mod B t b c) (ht:t∈E):Rnd E a c:=h.trans (.ofMod m ht)
theorem Rnd.put {g:Nat} {cs:Array Value} (h:Rnd E a b) (m:Put b c g cs t) (ht:t∈E):Rnd E a c:=h.trans (.ofMod (m.mod 0 (Nat.zero_le _)) ht)
end
def Dfr (w:World) (D:Nat):Prop:=w.heap[D]? = some (.deferred (some []))
theorem Jl {w:World} {D:Nat} (h:Dfr w D):ty w D=none:=by unfold ty;rw[h]
theorem Jm {w:World} {D:Nat} (h:Dfr w D):D<w.heap.size:=(Array.getElem?_eq_some_iff.1 h).1
structure Dfs (B:Nat) (w:World) (Ds:List Nat):Prop where
  nd:Ds.Nodup
  all:∀ D∈Ds,B≤D∧Dfr w D
def encDs:List Nat→Value
  | []=>undef
  | D :: Ds => .tuple ((D :: Ds).map fun D:Nat=>Value.int .u64 (D:Int)).toArray
theorem L3:∀ Ds:List Nat,decD (encDs Ds)=Ds.map fun D=>{ target := .collected D,args:=#[] }
  | []=>rfl
  | D :: Ds => by
    unfold encDs decD
    simp[dec1]
namespace Dfs
variable {B B' : Nat} {w w' : World} {Ds : List Nat} {t : TypeId}
theorem nil (B:Nat) (w:World):Dfs B w []:=⟨List.nodup_nil,by simp⟩
theorem mod (h:Dfs B w Ds) (m:Mod B' t w w') (_:0≤B') (_:True):Dfs B w' Ds:=⟨h.nd,fun D hD=>⟨(h.all D hD).1,(m.old D (Jm (h.all D hD).2) (.inr (by rw[Jl (h.all D hD).2];simp))).trans (h.all D hD).2⟩⟩
theorem cons (h:Dfs B w Ds) {D:Nat} (hD:Dfr w D) (hB:B≤D) (hn:D∉Ds):Dfs B w (D :: Ds):=⟨List.nodup_cons.2 ⟨hn,h.nd⟩,fun E hE=>by
  rcases List.mem_cons.1 hE with rfl | hE
  · exact⟨hB,hD⟩
  · exact h.all E hE⟩
theorem lower (h:Dfs B w Ds) (hB:B'≤B):Dfs B' w Ds:=⟨h.nd,fun D hD=>⟨Nat.le_trans hB (h.all D hD).1,(h.all D hD).2⟩⟩
end Dfs
structure SeqOk {α:Type} (P:Program) (gf:FuncId) (lb:List Value) (encs:α→List Value) (E:World→World→Prop) (S Sp:List α→Prop) (X:List α→α→World→Prop) (Rl:World→World→Prop) (w:World):Prop where
  mk :: (out:∀ (l:Nat) (J Jx:List α→World→Prop) (W:World),Ext w W→(∀ s A B,J s A→Rl A B→J s B)→(∀ s A B,Jx s A→Rl A B→Jx s B) →
    (∀ pre x W1,J pre W1→X pre x W1→YieldAt (fnc none) 0 P l (encs x).toArray W1 fun e W'=>(e = .returned (.bool true)∧J (pre++[x]) W'∧E W1 W')∨(e = .returned (.bool false)∧Jx (pre++[x]) W')) →
    J [] W→Calls P gf (.func (.yield l) #[] #[] :: lb).toArray W fun e W'=>(∃ v,e = .returned v)∧((∃ xs,S xs∧J xs W')∨(∃ pre,Sp pre∧Jx pre W')))
theorem SeqOk.ext {α:Type} {P:Program} {gf:FuncId} {lb:List Value} {encs:α→List Value} {E:World→World→Prop} {S Sp:List α→Prop} {X:List α→α→World→Prop} {Rl:World→World→Prop} {w w':World} (h:SeqOk P gf lb encs E S Sp X Rl w) (x:Ext w w'):SeqOk P gf lb encs E S Sp X Rl w' :=
  ⟨fun l J Jx W hW=>h.out l J Jx W (x.trans hW)⟩
def N7 {α:Type} (E:World→World→Prop) (I:List α→World→Prop) (Ix:Code→List α→World→Prop) (xs:List α) (W:World):Exit→Act→World→Prop
  | .normal,_,W'=>E W W'∧(∀ k,ty W k=none→k<W.heap.size→W'.heap[k]? = W.heap[k]?)∧I xs W'
  | .ret,_,W'=>(∀ k,ty W k=none→k<W.heap.size→W'.heap[k]? = W.heap[k]?)∧Ix .ret xs W'
  | .exit id,_,W'=>(∀ k,ty W k=none→k<W.heap.size→W'.heap[k]? = W.heap[k]?)∧Ix (.exit id) xs W'
  | _,_,_=>False
def updP (f:Nat→Value):List (Nat×Value)→Nat→Value
  | []=>f
  | (d,v) :: l=>updP (upd f d v) l
theorem Uz (n:Nat):∀ (l:List (Nat×Value)) (f:Nat→Value),(l.foldl (fun t p=>t.setIfInBounds p.1 p.2) (fr n f).tmps)=(fr n (updP f l)).tmps
  | [],_=>rfl
  | (d, v) :: l, f => by
    have h:=congrArg Act.tmps (Du n f d v)
    show l.foldl _ ((fr n f).tmps.setIfInBounds d v)=_
    have h2:(fr n f).tmps.setIfInBounds d v=(fr n (upd f d v)).tmps:=h
    rw[h2]
    exact Uz n l (upd f d v)
theorem L8 (n:Nat) (f:Nat→Value) (v:Value):(fr n (updR f sp v)).tmps=(fr n f).tmps:=by
  show Array.ofFn _=Array.ofFn _
  congr 1
  funext i
  exact K6 (by have:=i.2;omega)
theorem Nl (n:Nat) (f:Nat→Value) (l:List (Nat×Value)):({ tmps:=l.foldl (fun t p=>t.setIfInBounds p.1 p.2) (fr n f).tmps,defers:=[] }:Act)=fr n (updR (updP f l) sp undef):=by
  rw[Uz,← L8 n (updP f l) undef]
  have:decD (updR (updP f l) sp undef sp)=[]:=by rw[Jv];rfl
  show _=Act.mk _ _
  rw[this];rfl
section
variable {P : Program} {Q : Exit → Act → World → Prop} {n : Nat} {f : Nat → Value} {w : World}
theorem Mn:∀ (ps:List Nat) (vs:List Value) (t:Array Value),(ps.zip vs).foldl (fun (t:Array Value) (p:Nat×Value)=>match p with | (p,v)=>t.setIfInBounds p v) t=(ps.zip vs).foldl (fun t p=>t.setIfInBounds p.1 p.2) t
  | [],_,_=>rfl
  | _ :: _,[],_=>rfl
  | p :: ps,v :: vs,t=>Mn ps vs _
theorem Vd {α:Type} {g:Operand} {ps:List Nat} {assign body:Code} {gf:FuncId} {lb:List Value} {encs:α→List Value} {E:World→World→Prop} {S Sp:List α→Prop} {X:List α→α→World→Prop} {Rl:World→World→Prop} {fn:Func}
    (I:List α→World→Prop) (Ix:Code→List α→World→Prop) (a₁:α→Nat→Value)
    (hg : ev n f g = .func (.func gf) #[] lb.toArray) (hfn : P.funcs[gf]? = some fn) (hn : (fn.name == "runtime.NumGoroutine") = false) (hb : fn.body.isNone = false)
    (hEs:∀ A B,E A B→A.heap.size≤B.heap.size) (hEl:∀ A B,Lp w.heap.size A B→E A B) (hEt:∀ A B C,E A B→E B C→E A C) (hseq:SeqOk P gf lb encs E S Sp X Rl w) (hRe:∀ A B,Ext A B→Rl A B) (hRl:∀ A B,Rl A B→A.heap.size≤B.heap.size∧∀ k,ty A k=none→k<A.heap.size→B.heap[k]? = A.heap[k]?) (hXx:∀ s x A B,X s x A→Lp w.heap.size A B→X s x B) (hps:∀ x,(encs x).length=ps.length)
    (hIe:∀ s A B,I s A→Rl A B→I s B) (hIl:∀ s A B,I s A→Lp w.heap.size A B→I s B) (hXe:∀ c s A B,Ix c s A→Rl A B→Ix c s B) (hXl:∀ c s A B,Ix c s A→Lp w.heap.size A B→Ix c s B)
    (h0:I [] w)
    (hassign:∀ l x W,Wf (some l) P assign (Exit.then (fun a W2=>a=fr n (a₁ x)∧W2=W) noQ) (fr n (updR (updP f (ps.zip (encs x))) sp undef)) W)
    (hbody:∀ l pre x W,w.heap.size≤W.heap.size→I pre W→X pre x W→Wf (some l) P body (N7 E I Ix (pre++[x]) W) (fr n (a₁ x)) W)
    (hdone:∀ D xs W,w.heap.size≤D→S xs→I xs W→Dfr W D→decD (f sp)=decD (f sp)→Q .normal { fr n f with defers:={ target := .collected D,args:=#[] } :: decD (f sp) } W)
    (hstop:∀ D c pre W,w.heap.size≤D→Sp pre→Ix c pre W→Dfr W D→Wp P c Q { fr n f with defers:={ target := .collected D,args:=#[] } :: decD (f sp) } W) :
    Wp P (Code.rangeFunc g ps.toArray assign body) Q (fr n f) w:=by
  refine Wf.toWp ⟨?_⟩
  refine wpIn_rangeFunc ?_
  intro fnid _
  obtain⟨rec,hrec⟩:∃ rec:LoopState→Option Code→Loop,rec=fun st pe=>{ state:=st,pending:=pe,fn:=fnid,tmps:=(fr n f).tmps,params:=ps.toArray,assign,body,defers:=w.heap.size }:=⟨_,rfl⟩
  obtain⟨W1,hW1⟩:∃ W1,(w.alloc (.deferred (some []))).alloc (.loop (rec .ready none))=W1:=⟨_,rfl⟩
  have hL1:W1.heap[w.heap.size+1]? = some (.loop (rec .ready none)):=by
    rw[← hW1];have:=World.alloc_heap_new (w.alloc (.deferred (some []))) (.loop (rec .ready none));rwa [World.size_alloc] at this
  have hK1:Dfr W1 w.heap.size:=by
    unfold Dfr
    rw[← hW1];exact(Below.heap_alloc _ _ _ (by simp)).trans (World.alloc_heap_new w _)
  have hx1:Ext w W1:=by rw[← hW1];exact(Ext.alloc _ _).trans (Ext.alloc _ _)
  have hI1:I [] W1:=hIe _ _ _ h0 (hRe _ _ hx1)
  refine⟨w.heap.size+1,[{ target := .collected w.heap.size,args:=#[] }],W1,{ target := .fn (.func gf) lb.toArray,args:=#[.func (.yield (w.heap.size+1)) #[] #[]] },W1,gf,
    (.func (.yield (w.heap.size+1)) #[] #[] :: lb).toArray,W1,?_,?_,fun _ _=>trivial,?_,fun hd=>(by cases hd),?_⟩
  · rw[← hW1,hrec];exact run_enterLoop_outer _ _ _ _ _
  · simp only [resolve, Bn, hg]
    simp[Deferred.ofValue,Sem.run_bind]
    rfl
  · have hn' : ¬ fn.name = "runtime.NumGoroutine" := by simpa using hn
    have hb':¬ fn.body=none:=by intro e;rw[e] at hb;cases hb
    simp[invoke,callFunc,hfn,hn',hb',Sem.run_bind,Sem.run]
  · have lty : ∀ {W : World} {r : Loop} {k : Nat}, W.heap[k]? = some (.loop r) → ty W k = none := fun h => by unfold ty; rw [h]
    refine (callsIn_wide (n:=0)).2 (Calls.mono (hseq.out (w.heap.size+1)
      (fun pre W=>(I pre W∧w.heap.size≤W.heap.size)∧W.heap[w.heap.size+1]? = some (.loop (rec .ready none))∧Dfr W w.heap.size)
      (fun pre W=>∃ c,Ix c pre W∧W.heap[w.heap.size+1]? = some (.loop (rec .done (some c)))∧Dfr W w.heap.size)
      W1 hx1
      (fun s A B hs hx=>⟨⟨hIe _ _ _ hs.1.1 hx,Nat.le_trans hs.1.2 (hRl _ _ hx).1⟩,((hRl _ _ hx).2 _ (lty hs.2.1) (Array.getElem?_eq_some_iff.1 hs.2.1).1).trans hs.2.1,((hRl _ _ hx).2 _ (Jl hs.2.2) (Jm hs.2.2)).trans hs.2.2⟩)
      (fun s A B hs hx=>by obtain⟨c,h1,h2,h3⟩:=hs;exact⟨c,hXe _ _ _ _ h1 hx,((hRl _ _ hx).2 _ (lty h2) (Array.getElem?_eq_some_iff.1 h2).1).trans h2,((hRl _ _ hx).2 _ (Jl h3) (Jm h3)).trans h3⟩)
      ?_ ⟨⟨hI1,hx1.size⟩,hL1,hK1⟩) ?_)
    · -- one round
      rintro pre x W ⟨⟨hi,hsz⟩,hl,hk⟩ hlen
      have hlt:w.heap.size+1<W.heap.size:=(Array.getElem?_eq_some_iff.1 hl).1
      have hy:=run_yield (P:=P) (args:=(encs x).toArray) hl (by rw[hrec];simp[hps x])
      rw[hrec] at hy
      have hb0:Lp w.heap.size W (W.putObj (w.heap.size+1) (.loop { rec .ready none with state := .busy })):=Lp.put hl (lty hl) (by omega)
      refine⟨fnid,_,assign,body,hy,roundIn_of_wpIn trivial ?_⟩
      have hfr:({ tmps:=((ps.toArray.zip (encs x).toArray).foldl (fun (t:Array Value) (p:Nat×Value)=>match p with | (p,v)=>t.setIfInBounds p v) (fr n f).tmps),defers:=[] }:Act)=fr n (updR (updP f (ps.zip (encs x))) sp undef):=by
        rw[← Nl]
        congr 1
        rw[← Mn]
        simp
      refine (congrArg (fun a=>Code.wpIn _ _ P assign _ a W) hfr).mpr ?_
      refine wpIn_mono (hassign (w.heap.size+1) x W).out ?_
      rintro e a2 W2 hq
      cases e with
      | normal =>
        obtain⟨rfl,rfl⟩:=hq
        refine⟨_,run_beginRound hl (by rw[hrec]),?_⟩
        have hl2:(W2.putObj (w.heap.size+1) (.loop { rec .ready none with state := .busy })).heap[w.heap.size+1]? = some (.loop { rec .ready none with state := .busy }):=World.putObj_heap_same hlt
        have hk2:Dfr (W2.putObj (w.heap.size+1) (.loop { rec .ready none with state := .busy })) w.heap.size:=(World.putObj_heap_other (by omega)).trans hk
        refine wpIn_mono (hbody _ pre x _ (by rw[hb0.size];exact hsz) (hIl _ _ _ hi hb0) (hXx _ _ _ _ hlen hb0)).out ?_
        have fin:∀ (jump:Option Code) (W3:World),(∀ k,ty (W2.putObj (w.heap.size+1) (.loop { rec .ready none with state := .busy })) k=none→k<(W2.putObj (w.heap.size+1) (.loop { rec .ready none with state := .busy })).heap.size→W3.heap[k]? = (W2.putObj (w.heap.size+1) (.loop { rec .ready none with state := .busy })).heap[k]?) →
            (Instr.endRound (w.heap.size+1) jump).run P W3 = .ok (.bool jump.isNone) (W3.putObj (w.heap.size+1) (.loop (rec (if jump.isNone then .ready else .done) jump))) ∧
            Lp w.heap.size W3 (W3.putObj (w.heap.size+1) (.loop (rec (if jump.isNone then .ready else .done) jump))) ∧
            (W3.putObj (w.heap.size+1) (.loop (rec (if jump.isNone then .ready else .done) jump))).heap[w.heap.size+1]? = some (.loop (rec (if jump.isNone then .ready else .done) jump)) ∧
            Dfr (W3.putObj (w.heap.size+1) (.loop (rec (if jump.isNone then .ready else .done) jump))) w.heap.size:=fun jump W3 hk3=>by
          have hl3:=(hk3 _ (lty hl2) (Array.getElem?_eq_some_iff.1 hl2).1).trans hl2
          have:=run_endRound (P:=P) jump hl3
          rw[hrec] at this ⊢
          exact⟨this,Lp.put hl3 (lty hl3) (by omega),World.putObj_heap_same (Array.getElem?_eq_some_iff.1 hl3).1,(World.putObj_heap_other (by omega)).trans ((hk3 _ (Jl hk2) (Jm hk2)).trans hk2)⟩
        rintro e a3 W3 hp
        cases e with
        | normal =>
          obtain⟨hr3,hk3,hi3⟩:=hp
          obtain⟨hr,hlp,hl4,hk4⟩:=fin none W3 hk3
          refine⟨_,_,hr,.inl ⟨rfl,⟨⟨hIl _ _ _ hi3 hlp,?_⟩,hl4,hk4⟩,hEt _ _ _ (hEt _ _ _ (hEl _ _ hb0) hr3) (hEl _ _ hlp)⟩⟩
          have h1:=hEs _ _ hr3
          have h2:=hb0.size
          have h3:=hlp.size
          omega
        | ret =>
          obtain⟨hk3,hi3⟩:=hp
          obtain⟨hr,hlp,hl4,hk4⟩:=fin (some .ret) W3 hk3
          exact⟨_,_,hr,.inr ⟨rfl,.ret,hXl _ _ _ _ hi3 hlp,hl4,hk4⟩⟩
        | exit id =>
          obtain⟨hk3,hi3⟩:=hp
          obtain⟨hr,hlp,hl4,hk4⟩:=fin (some (.exit id)) W3 hk3
          exact⟨_,_,hr,.inr ⟨rfl,.exit id,hXl _ _ _ _ hi3 hlp,hl4,hk4⟩⟩
        | goto t=>exact hp.elim
        | panic ch=>exact hp.elim
        | outgrown=>exact hp.elim
      | _=>exact hq.elim
    · -- behind the iterator
      rintro e W2 ⟨⟨v,rfl⟩,(⟨xs,hS,⟨hi,_⟩,hl,hk⟩ | ⟨pre,hSp,c,hi,hl,hk⟩)⟩
      · have hr := run_endLoop (P := P) hl (by rw [hrec]; simp)
        have hlp:Lp w.heap.size W2 (W2.putObj (w.heap.size+1) (.loop { rec .ready none with state := .exhausted })):=Lp.put hl (lty hl) (by omega)
        refine⟨none,_,?_,hdone w.heap.size xs _ (Nat.le_refl _) hS (hIl _ _ _ hi hlp) ((World.putObj_heap_other (by omega)).trans hk) rfl⟩
        rw[hrec] at hr ⊢;exact hr
      · have hr := run_endLoop (P := P) hl (by rw [hrec]; simp)
        have hlp:Lp w.heap.size W2 (W2.putObj (w.heap.size+1) (.loop { rec .done (some c) with state := .exhausted })):=Lp.put hl (lty hl) (by omega)
        refine⟨some c,_,?_,wpIn_wide.2 (hstop w.heap.size c pre _ (Nat.le_refl _) hSp (hXl _ _ _ _ hi hlp) ((World.putObj_heap_other (by omega)).trans hk)).out⟩
        rw[hrec] at hr ⊢;exact hr
end
structure EndM (P:Program) (fn:Func) (R:Value→World→Prop) (e:Exit) (a:Act) (w:World):Prop where
  mk :: (out:bodyPostM Fence.wide 0 P fn (fun e w'=>∃ v,e = .returned v∧R v w') e a w)
theorem Aby {P:Program} {g:FuncId} {fn:Func} {c:Code} {w:World} {R:Value→World→Prop} (n:Nat) (vs:List Value)
    (hf:P.funcs[g]? = some fn) (hb:fn.body=some c) (hn:fn.ntmps=n) (hl:vs.length≤min n sp) (hn2:min n sp=n)
    (h:Wp P c (EndM P fn R) (fr n (fun t=>vs.getD t undef)) w):Ret P g vs w R:=by
  refine⟨(callsIn_wide (n:=0)).1 (callsIn_of_wp_marks hf hb trivial ?_ rfl)⟩
  subst hn
  have e:({ tmps:=vs.toArray++Array.replicate (fn.ntmps - vs.toArray.size) undef,defers:=[] }:Act)=fr fn.ntmps (fun t=>vs.getD t undef):=by
    unfold fr
    have hD:decD (vs.getD sp undef)=[]:=by
      rw[List.getD_eq_getElem?_getD,List.getElem?_eq_none (by omega)];rfl
    rw[hD]
    congr 1
    apply Array.ext (by simp only[Array.size_append,List.size_toArray,Array.size_replicate,Array.size_ofFn];omega)
    intro i h1 h2
    simp only[Array.getElem_ofFn,Array.getElem_append,List.size_toArray]
    by_cases hi:i<vs.length
    · simp[hi]
    · simp[hi]
  rw[e]
  exact wpIn_wide.2 (wp_mono h.out fun e a w k=>k.out)
theorem Sw {P:Program} {fn:Func} {tmps:Array Value} {R:Ending→World→Prop} {B:Nat}:∀ (Ds:List Nat) (w:World),Dfs B w Ds→(∀ w',Lp B w w'→LeavesIn Fence.wide 0 P fn tmps R [] .returning w') →
    LeavesInM Fence.wide 0 P fn tmps R (Ds.map fun D=>{ target := .collected D,args:=#[] }) .returning w
  | [],w,_,h=>h w (Lp.refl B w)
  | D :: Ds, w, hd, h => by
    have hD:=(hd.all D (by simp)).2
    have hB:=(hd.all D (by simp)).1
    have hlp:Lp B w (w.putObj D (.deferred none)):=Lp.put hD (Jl hD) hB
    refine⟨by simp,.inl ⟨D,_,rfl,run_takeDeferred hD,Sw (B:=B) Ds _ ?_ (fun w' h'=>h w' ?_)⟩⟩
    · have hn := List.nodup_cons.1 hd.nd
      exact⟨hn.2,fun E hE=>⟨(hd.all E (by simp[hE])).1,(World.putObj_heap_other (fun e=>hn.1 (by rw[← e];exact hE))).trans (hd.all E (by simp[hE])).2⟩⟩
    · exact⟨h'.size.trans hlp.size,fun k hk=>by
        have h1:=hlp.old k hk
        refine (h'.old k (hk.imp id fun hk=>?_)).trans h1
        rw[B7 h1];exact hk,h'.drawn.trans hlp.drawn,h'.os.trans hlp.os,h'.tape.trans hlp.tape,h'.output.trans hlp.output⟩
section
variable {P : Program} {fn : Func} {R : Value → World → Prop} {n : Nat} {f : Nat → Value} {w : World} {t u : Nat} {v x : Value} {B : Nat}
theorem end1M (Ds:List Nat) (hr:fn.results=#[.tmp t]) (hv:ev n f (.tmp t)=v) (hs:f sp=encDs Ds) (hD:Dfs B w Ds) (h:∀ w',Lp B w w'→R v w'):EndM P fn R .ret (fr n f) w:=by
  refine⟨?_⟩
  show LeavesInM _ _ _ _ _ _ (decD (f sp)) _ _
  rw[hs,L3]
  refine Sw Ds w hD fun w' hl=>⟨_,results_tmp hr _ _ _,v,?_,h w' hl⟩
  rw[← hv,← Bn];rfl
end
def hashAt (b:List UInt8) (o:Nat):Hash:=⟨(List.range 32).map (fun c=>b.getD (o+c) 0),by simp⟩
section
variable {α : Type}
def kSl (d:Kind α) (e:TypeId):Kind (List α) where
  sz:=1
  E:=e :: d.E
  K:=fun B w xs cs=>∃ p n c,cs=[.slice p n c]∧Sl d e B w p n c xs
  len:=by rintro _ _ _ _ ⟨p,n,c,rfl,_⟩;rfl
  one:=by
    rintro _ _ _ _ ⟨p,n,c,rfl,_⟩ v hv
    simp only[List.mem_singleton] at hv
    subst hv;rfl
  keep:=fun hs ⟨p,n,c,h1,h2⟩=>⟨p,n,c,h1,h2.keep hs⟩
  mono:=fun hB ⟨p,n,c,h1,h2⟩=>⟨p,n,c,h1,h2.mono hB⟩
theorem J9 {d:Kind α} {e:TypeId}:0<(kSl d e).sz:=Nat.one_pos
theorem Sl.slAt {d:Kind α} {e e2:TypeId} {B:Nat} {w:World} {p:Option Addr} {n c:Nat} {xss:List (List α)} (h:Sl (kSl d e) e2 B w p n c xss) (i:Nat) (hi:i<n) :
    ∃ q m c1,w.cell? ⟨ab p,ao p+i,none⟩=some (.slice q m c1)∧Sl d e B w q m c1 (xss.getD i []):=by
  obtain⟨cs,⟨q,m,c1,rfl,hs⟩,hr⟩:=h.get [] i hi
  have:=hr 0 _ rfl
  have e1:(kSl d e).sz=1:=rfl
  rw[e1] at this
  exact⟨q,m,c1,by simpa using this,hs⟩
end
section
variable {P : Program} {ops : Array Oper} {Q : Exit → Act → World → Prop} {rest : List Oper} {n : Nat} {f : Nat → Value} {w : World}
variable {ty0 : TypeId} {pos : String} {aft : Array Edge} {dst : Nat} {x y : Operand} {T Ti e : TypeId} {α : Type}
theorem Y1 (d:Kind α) {z:Value} {bytes m:Nat} {ki kq:IntKind} (hT:P.underlying T=some (.slice e)) (hTi:P.underlying Ti=some (.int ki)) (hi:(P.info? e).map (fun i=>(i.zero,i.size,i.bytes))=some (some z,d.sz,bytes)) (hz:z.cells.size=d.sz) (hsz:0<d.sz)
    (hx:ev n f x = .slice none 0 0) (hy:ev n f y = .int kq (m:Int)) (h0:0<m) (hb:(m+m / 4+192) * bytes≤281474976710656) (h62:m≤4611686018427387904)
    (k:∀ p c' w',(∀ B B0,B0≤w.heap.size→Own d e B B0 w' p 0 c' [])→m≤c'→Ext w w'→Lst P ops Q rest (fr n (upd f dst (.slice p m c'))) w') :
    Lst P ops Q (⟨some dst,.call ⟨.builtin .append,#[x,y],#[T,Ti]⟩,ty0,pos,aft,none⟩ :: rest) (fr n f) w:=by
  obtain⟨i,hi0,hiz,his,hib⟩:=Jb hi
  subst hib
  have hbm:m * i.bytes≤281474976710656:=Nat.le_trans (Nat.mul_le_mul_right _ (by omega)) hb
  have hr:=Lib.run_append_grow_zeros (P:=P) w T Ti ty0 e i z kq ki hT hTi hi0 hiz none 0 0 [] (run_firstCells_none w.drew i.size 0 0 0) m h0 (by omega) (by omega) (by omega) hbm (growslice_fits_wide (by omega) (by rw[Nat.zero_add];exact hb))
  rw[Nat.zero_add] at hr
  have hge:=grownCap_ge w m 0 e
  have hcm:grownCap w m 0 e≤maxLen:=grownCap_le_maxLen w m 0 e (by unfold maxLen;omega)
  have hN:New w.drew _ w.drew.heap.size _ e:=New.alloc w.drew (([]:List Value).toArray++Builtin.zeroCells z.cells m++Builtin.zeroCells z.cells (grownCap w m 0 e - m)) e
  refine l1 (v := .slice (some ⟨w.heap.size,0,none⟩) m (grownCap w m 0 e)) ?_ (k _ _ _ (fun B B0 hB=>?_) hge ((Ext.drew w).trans hN.ext))
  · simp only[execOp,resolve,invoke,builtin,Sem.run_bind,Sem.run_pure,Result.andThen_ok,List.map_toArray,List.map_cons,List.map_nil,hx,hy,hr]
  · refine Own.made d e B B0 hN [] [] 0 _ rfl trivial hB (Nat.zero_le _) (by unfold maxLen at hcm; omega) ?_ (by simp)
    simp only[Array.size_append,List.size_toArray,List.length_nil,size_zeroCells,hz,Nat.zero_add,← Nat.add_mul]
    congr 1;omega
theorem M5 {dst':Option Nat} {gd:Option (Nat×Bool)} {p:Option Addr} {l c:Nat} (hT:P.underlying T=some (.slice e)) (hx:ev n f x = .slice p l c):Ex P w n f ⟨dst',.call ⟨.builtin .cap,#[x],#[T]⟩,ty0,pos,aft,gd⟩ (.int .i64 (c:Int)):=by
  unfold Ex execOp;simp[resolve,invoke,builtin,hx,Builtin.cap_,run_underlying hT,Sem.run_bind,goInt]
end
theorem Fh {α:Type} {xss:List (List α)} {k:Nat} (h:k<xss.length):(xss.take (k+1)).flatten=(xss.take k).flatten++xss.getD k []:=by
  have e:xss.getD k []=xss[k]:=by rw[List.getD_eq_getElem?_getD,List.getElem?_eq_getElem h];rfl
  rw[e,List.take_succ_eq_append_getElem h,List.flatten_append];simp
theorem Lw {α:Type} (xss:List (List α)) (k:Nat):(xss.take k).flatten.length≤xss.flatten.length:=by
  conv=>rhs;rw[← List.take_append_drop k xss]
  rw[List.flatten_append,List.length_append];omega
theorem Hr {α:Type} {xss:List (List α)} {k:Nat} (h:k<xss.length):(xss.take k).flatten.length+(xss.getD k []).length≤xss.flatten.length:=by
  have h1:=Lw xss (k+1)
  rw[Fh h,List.length_append] at h1
  exact h1
structure SlS {α:Type} (enc:α→List Value) (e:TypeId) (S:Nat→Prop) (w:World) (p:Option Addr) (n c:Nat) (xs:List α):Prop where
  len:xs.length=n
  cap:n≤c
  fit:c≤9223372036854775807
  row:Row w p (xs.map enc).flatten
  fp:0<n→S (ab p)∧∃ cur,Blk w (ab p) cur e
section imp
variable {α : Type} {d d' : Kind α} {e : TypeId} {B B' B0 : Nat} {w w' : World} {p : Option Addr} {n c : Nat} {xs : List α}
theorem All.imp2 (hk:∀ x cs,d.K B w x cs→d'.K B' w' x cs):∀ {xs:List α} {css:List (List Value)},d.All B w xs css→d'.All B' w' xs css
  | [],[],_=>trivial
  | _ :: _,_ :: _,h=>⟨hk _ _ h.1,All.imp2 hk h.2⟩
  | [],_ :: _,h=>h.elim
  | _ :: _,[],h=>h.elim
theorem Sl.imp (h:Sl d e B w p n c xs) (hB:B≤B') (hk:∀ x cs,d.K B w x cs→d'.K B' w x cs):Sl d' e B' w p n c xs:=by
  obtain⟨css,ha,hr⟩:=h.row
  exact⟨h.len,h.cap,h.fit,css,All.imp2 hk ha,hr.mono hB⟩
end imp
section
variable {e : TypeId} {B : Nat} {w : World} {p : Option Addr} {n c : Nat}
theorem La {α:Type} {P:Program} {tx e':TypeId} {d:Kind α} (hk:P.underlying tx=some (.slice e')) {xs:List α} (h:Sl d e B w p n c xs) (hsz:0<d.sz):∃ css,d.All B w xs css∧Src P d.sz tx (.slice p n c) n css.flatten w:=by
  obtain⟨css,ha,hr⟩:=h.row
  exact⟨css,ha,J0 hk hr.row (by rw[ha.flat,h.len]) hsz ha.one⟩
end
theorem Dw {α β γ:Type} (r:Result α) (g:α→World→Result β) (k:β→World→Result γ):(r.andThen g).andThen k=r.andThen fun a w=>(g a w).andThen k:=by cases r <;> rfl
section ends
variable {P : Program} {fn : Func} {R : Value → World → Prop} {n : Nat} {f : Nat → Value} {w : World} {t u : Nat} {T t' : TypeId} {g : Nat} {cs : Array Value} {v : Value}
theorem Cl (hu:(P.underlying T).map TypeDesc.isRow=some true) (hv:ev n f (.tmp t) = .pointer (some ⟨g,0,none⟩)) (hB:Blk w g cs t') (hi:(P.info? T).map (·.size)=some cs.size) :
    ((asAddr ((fr n f).tmps.getD t undef)).run P w).andThen (fun a w₁=>(loadVar T a).run P w₁) = .ok (.agg cs) w:=by
  obtain⟨d,hu,hd⟩:=Option.map_eq_some_iff.1 hu
  have e1:(fr n f).tmps.getD t undef = .pointer (some ⟨g,0,none⟩):=by rw[← hv,← Bn];rfl
  rw[e1]
  have:=run_loadVar_mid w g 0 T cs.toList d hB.range hu hd (by simpa using hi)
  simpa [asAddr] using this
theorem end1c (hr:fn.results=#[.cell t T]) (hu:(P.underlying T).map TypeDesc.isRow=some true) (hv:ev n f (.tmp t) = .pointer (some ⟨g,0,none⟩)) (hB:Blk w g cs t') (hi:(P.info? T).map (·.size)=some cs.size) (h:R (.agg cs) w) (hd:decD (f sp)=[]:=by rfl) :
    End P fn R .ret (fr n f) w:=by
  refine⟨bodyPost_ret (v := .agg cs) ?_ hd ⟨_,rfl,h⟩⟩
  have hrun:=Cl hu hv hB hi
  simp only[results,hr]
  have e0:(fr n f).tmps[t]?.getD undef=(fr n f).tmps.getD t undef:=by simp
  simp[Sem.run_bind]
  rw[e0]
  exact hrun
theorem end2c (hr:fn.results=#[.cell t T,.tmp u]) (hu:(P.underlying T).map TypeDesc.isRow=some true) (hv:ev n f (.tmp t) = .pointer (some ⟨g,0,none⟩)) (hx:ev n f (.tmp u)=v) (hB:Blk w g cs t') (hi:(P.info? T).map (·.size)=some cs.size) (h:R (.tuple #[.agg cs,v]) w) (hd:decD (f sp)=[]:=by rfl) :
    End P fn R .ret (fr n f) w:=by
  refine⟨bodyPost_ret (v := .tuple #[.agg cs,v]) ?_ hd ⟨_,rfl,h⟩⟩
  have hrun:=Cl hu hv hB hi
  have e2:(fr n f).tmps.getD u undef=v:=by rw[← hx,← Bn];rfl
  rw[results_cell_tmp hr,e2,← Dw,hrun]
  rfl
end ends
section ptr
variable {P : Program} {n : Nat} {f : Nat → Value} {w : World} {dst : Option Nat} {ty0 : TypeId} {pos : String} {aft : Array Edge} {gd : Option (Nat × Bool)} {x y : Operand} {T T' e k : TypeId}
theorem Pa (hT:P.underlying T=some (.pointer e)):P.underlying T=some (.pointer (P.pointee T)):=by rw[hT];simp[Program.pointee,hT]
theorem Cc (hT:P.underlying T=some (.pointer e)) {p:Option Addr} (hx:ev n f x = .pointer p) (hy:ev n f y = .pointer none):Ex P w n f ⟨dst,.binOp .eql T x y T',ty0,pos,aft,gd⟩ (.bool (decide (p=none))) :=
  Ci hx hy Rv (by simp[binOp,run_equal_pointer_nil w T p (Pa hT)];cases p <;> simp)
theorem Fc (hT:P.underlying T=some (.pointer e)) {p:Option Addr} (hx:ev n f x = .pointer p) (hy:ev n f y = .pointer none):Ex P w n f ⟨dst,.binOp .neq T x y T',ty0,pos,aft,gd⟩ (.bool (decide (p≠none))) :=
  Ci hx hy Rv (by simp[binOp,run_equal_pointer_nil w T p (Pa hT)];cases p <;> simp)
theorem Dl {parts:List (Nat×Operand)} {pl:List (Nat×Nat)} {cs:Array Value} (hP:Co P T=some (.agg cs,pl)) (hp:evP n f parts=[]):Ex P w n f ⟨dst,.build T parts.toArray,ty0,pos,aft,gd⟩ (.agg cs) :=
  Eb hP hp (by rfl)
theorem Zy {x:Operand} {a z:Value} (hP:Co P T=some (.agg #[z],[(0,1)])) (hx:ev n f x=a) (ha:a.cells=#[a]):Ex P w n f ⟨dst,.build T #[(0,x)],ty0,pos,aft,gd⟩ (.agg #[a]) :=
  Eb (parts:=[(0,x)]) (ps:=[(0,a)]) hP (by rw[← hx];rfl) (by show Instr.fill _ #[z] _=_;simp[Instr.fill,ha] <;> rfl)
theorem I0 {x y:Operand} {a b z1 z2:Value} (hP:Co P T=some (.agg #[z1,z2],[(0,1),(1,1)])) (hx:ev n f x=a) (hy:ev n f y=b) (ha:a.cells=#[a]) (hb:b.cells=#[b]):Ex P w n f ⟨dst,.build T #[(0,x),(1,y)],ty0,pos,aft,gd⟩ (.agg #[a,b]) :=
  Eb (parts:=[(0,x),(1,y)]) (ps:=[(0,a),(1,b)]) hP (by rw[← hx,← hy];rfl) (by show Instr.fill _ #[z1,z2] _=_;simp[Instr.fill,ha,hb] <;> rfl)
end ptr
section callv
variable {P : Program} {ops : Array Oper} {Q : Exit → Act → World → Prop} {rest : List Oper} {n : Nat} {f : Nat → Value} {w : World}
variable {ty : TypeId} {pos : String} {aft : Array Edge} {d : Nat}
theorem Li {g : FuncId} {x : Operand} {oas : List Operand} {ats : Array TypeId} {fn : Func} {vs fs cs all : List Value} {R : Value → World → Prop} (hx : ev n f x = .func (.func g) fs.toArray cs.toArray) (hf : P.funcs[g]? = some fn) (hn : (fn.name == "runtime.NumGoroutine") = false) (hb : fn.body.isNone = false)
    (ha:evL n f oas=vs) (hall:fs++vs++cs=all) (hc:Ret P g all w R) (k:∀ v w',R v w'→Lst P ops Q rest (fr n (upd f d v)) w') :
    Lst P ops Q (⟨some d,.call ⟨.value x,oas.toArray,ats⟩,ty,pos,aft,none⟩ :: rest) (fr n f) w :=
  ⟨wpList_plain rfl fun K hK=>by
    have hn' : ¬ fn.name = "runtime.NumGoroutine" := by simpa using hn
    have hb':¬ fn.body=none:=by intro e;rw[e] at hb;cases hb
    have ha':oas.toArray.map (ev n f)=vs.toArray:=by rw[List.map_toArray,Fi,ha]
    have he:(execOp (ev n f) ⟨some d,.call ⟨.value x,oas.toArray,ats⟩,ty,pos,aft,none⟩).run P w = .ok (.enter g all.toArray) w:=by
      subst hall
      simp[execOp,resolve,ha',hx,Deferred.ofValue,invoke,callFunc,hf,hn',hb',Sem.run_bind,Sem.run]
    unfold Oper.wp
    rw[Bn,he,Oper.upon_enter]
    refine Calls.mono hc.out fun e w' hr=>?_
    obtain⟨v,rfl,hv⟩:=hr
    show K ((fr n f).put (some d) v) w'
    rw[Du]
    exact hK _ _ (k v w' hv).out⟩
end callv
section
variable {P : Program} {n : Nat} {f : Nat → Value} {w : World} {dst : Option Nat} {ty0 : TypeId} {pos : String} {aft : Array Edge} {gd : Option (Nat × Bool)} {T : TypeId}
theorem Ch {g:Fn} {xs ys:List Operand} {fs cs:List Value} (ha:evL n f xs=fs) (hb:evL n f ys=cs):Ex P w n f ⟨dst,.makeFunc g xs.toArray ys.toArray,ty0,pos,aft,gd⟩ (.func g fs.toArray cs.toArray):=by
  subst ha hb
  rw[← Fi,← Fi,← List.map_toArray,← List.map_toArray]
  rfl
theorem Om {x y u:Operand} {a b c z1 z2 z3:Value} (hP:Co P T=some (.agg #[z1,z2,z3],[(0,1),(1,1),(2,1)])) (hx:ev n f x=a) (hy:ev n f y=b) (hu:ev n f u=c) (ha:a.cells=#[a]) (hb:b.cells=#[b]) (hc:c.cells=#[c]) :
    Ex P w n f ⟨dst,.build T #[(0,x),(1,y),(2,u)],ty0,pos,aft,gd⟩ (.agg #[a,b,c]) :=
  Eb (parts:=[(0,x),(1,y),(2,u)]) (ps:=[(0,a),(1,b),(2,c)]) hP (by rw[← hx,← hy,← hu];rfl) (by show Instr.fill _ #[z1,z2,z3] _=_;simp[Instr.fill,ha,hb,hc] <;> rfl)
theorem M6 {x:Operand} {a z1 z2 z3:Value} (hP:Co P T=some (.agg #[z1,z2,z3],[(0,1),(1,1),(2,1)])) (hx:ev n f x=a) (ha:a.cells=#[a]) :
    Ex P w n f ⟨dst,.build T #[(0,x)],ty0,pos,aft,gd⟩ (.agg #[a,z2,z3]) :=
  Eb (parts:=[(0,x)]) (ps:=[(0,a)]) hP (by rw[← hx];rfl) (by show Instr.fill _ #[z1,z2,z3] _=_;simp[Instr.fill,ha] <;> rfl)
theorem M7 {x:Operand} {a z1 z2:Value} (hP:Co P T=some (.agg #[z1,z2],[(0,1),(1,1)])) (hx:ev n f x=a) (ha:a.cells=#[a]) :
    Ex P w n f ⟨dst,.build T #[(0,x)],ty0,pos,aft,gd⟩ (.agg #[a,z2]) :=
  Eb (parts:=[(0,x)]) (ps:=[(0,a)]) hP (by rw[← hx];rfl) (by show Instr.fill _ #[z1,z2] _=_;simp[Instr.fill,ha] <;> rfl)
end
structure Mod2 (B:Nat) (E:List TypeId) (w w':World):Prop where
  size:w.heap.size≤w'.heap.size
  old:∀ k,k<w.heap.size→(k<B∨∀ t∈E,ty w k≠some t)→w'.heap[k]? = w.heap[k]?
  tys:∀ k,k<w.heap.size→ty w' k=ty w k
  drawn:drw w≤drw w'
  os:w'.os=w.os
  tape:w'.tape=w.tape
  output:w'.output=w.output
section
variable {B B' B0 : Nat} {E : List TypeId} {t : TypeId} {w w' w0 a b c : World}
theorem Mod2.trans (h:Mod2 B E a b) (k:Mod2 B E b c):Mod2 B E a c :=
  ⟨Nat.le_trans h.size k.size,fun i hi ho=>(k.old i (Nat.lt_of_lt_of_le hi h.size) (ho.imp id fun e=>by rw[h.tys i hi];exact e)).trans (h.old i hi ho),
    fun i hi=>(k.tys i (Nat.lt_of_lt_of_le hi h.size)).trans (h.tys i hi),Nat.le_trans h.drawn k.drawn,k.os.trans h.os,k.tape.trans h.tape,k.output.trans h.output⟩
variable {α : Type} {d : Kind α} {e : TypeId} {p : Option Addr} {n cc : Nat} {xs : List α}
end
section
variable {P : Program} {ops : Array Oper} {Q : Exit → Act → World → Prop} {rest : List Oper} {N : Nat} {f : Nat → Value} {w : World} {α : Type}
variable {t0 : TypeId} {pos : String} {aft : Array Edge} {dst : Nat} {x y : Operand} {T tx : TypeId}
theorem Zr {n:Nat} {d:Option Nat} {gd:Option (Nat×Bool)} {k k':IntKind} {a b:Int} {ats:Array TypeId} (hx:ev n f x = .int k a) (hy:ev n f y = .int k' b):Ex P w n f ⟨d,.call ⟨.builtin .min,#[x,y],ats⟩,t0,pos,aft,gd⟩ (.int k (if b<a then b else a)):=by
  unfold Ex execOp
  simp[resolve,invoke,builtin,hx,hy,Sem.run_bind,Builtin.min_,Builtin.min2]
end
theorem Mod.putB {B:Nat} {t:TypeId} {a b c:World} (h:Mod B t a b) {g:Nat} {cs:Array Value} (p:Put b c g cs t) (hg:B≤g):Mod B t a c:=h.trans (p.mod B hg)
section
variable {P : Program} {w : World} {N : Nat} {f : Nat → Value} {x y z u : Operand} {T T' e : TypeId} {dst : Option Nat} {t0 : TypeId} {pos : String} {aft : Array Edge} {gd : Option (Nat × Bool)}
theorem Zs {k k':IntKind} {a b:Int} {ats:Array TypeId} (hx:ev N f x = .int k a) (hy:ev N f y = .int k' b):Ex P w N f ⟨dst,.call ⟨.builtin .max,#[x,y],ats⟩,t0,pos,aft,gd⟩ (.int k (if a<b then b else a)):=by
  unfold Ex execOp
  simp[resolve,invoke,builtin,hx,hy,Sem.run_bind,Builtin.max_,Builtin.max2]
theorem Qg {isSlice:Bool} {len cap:Nat} {k k':IntKind} {a b:Int} (h0:0≤a) (h1:a≤b) (h2:b≤(cap:Int)):(Instr.sliceBounds isSlice len cap none (some (.int k a)) (some (.int k' b))).run P w = .ok (0,a.toNat,b.toNat) w:=by
  have hb:0≤b:=by omega
  have ha:a≤((b.toNat:Nat):Int):=by omega
  simp[Instr.sliceBounds,Instr.sliceBound,asIntOf,Sem.run_bind,hb,h2,h0,ha]
  intro h
  exfalso
  omega
theorem Oh {sz:Nat} (hT:P.underlying T=some (.slice e)) (hz:(P.info? e).map (·.size)=some sz) {p:Option Addr} {len cap:Nat} {k k':IntKind} {a b:Int} (hx:ev N f x = .slice p len cap) (hy:ev N f y = .int k a) (hu:ev N f u = .int k' b) (h0:0≤a) (h1:a≤b) (h2:b≤(cap:Int)) :
    Ex P w N f ⟨dst,.slice T x none (some y) (some u),t0,pos,aft,gd⟩ (.slice p a.toNat b.toNat):=by
  obtain⟨ii,hi,hs⟩:=Option.map_eq_some_iff.1 hz
  unfold Ex execOp
  simp only[Option.map,hx,hy,hu]
  simp[Instr.sliceAt,Instr.slice,Sem.run_bind,run_underlying hT,Qg h0 h1 h2,sizeOf,typeInfo,hi,hs]
  cases p with
  | none=>intro _;rfl
  | some q=>intro _;show some (Addr.add q 0)=_;simp[Addr.add]
theorem Tj {sz:Nat} (hT:P.underlying T=some (.slice e)) (hz:(P.info? e).map (·.size)=some sz) {p:Option Addr} {len cap:Nat} {k k':IntKind} {a b:Nat} (hx:ev N f x = .slice p len cap) (hy:ev N f y = .int k (a:Int)) (hu:ev N f u = .int k' (b:Int)) (h1:a≤b) (h2:b≤cap) :
    Ex P w N f ⟨dst,.slice T x none (some y) (some u),t0,pos,aft,gd⟩ (.slice p a b):=Oh hT hz hx hy hu (by omega) (by omega) (by omega)
end
theorem S2 (n:Nat) (f:Nat→Value) (D:Nat) (Ds:List Nat) (h:f sp=encDs Ds):({ fr n f with defers:={ target := .collected D,args:=#[] } :: decD (f sp) }:Act)=fr n (updR f sp (encDs (D :: Ds))):=by
  have h1:(fr n (updR f sp (encDs (D :: Ds)))).tmps=(fr n f).tmps:=L8 n f _
  have h2:(fr n (updR f sp (encDs (D :: Ds)))).defers={ target := .collected D,args:=#[] } :: decD (f sp):=by
    rw[Gx,Jv,L3,h,L3];rfl
  show Act.mk _ _=_
  rw[← h1,← h2]
section
variable {P : Program} {Q : Exit → Act → World → Prop} {n : Nat} {f : Nat → Value} {w : World}
theorem Afj {α:Type} {g:Operand} {ps:List Nat} {assign body:Code} {gf:FuncId} {lb:List Value} {encs:α→List Value} {E:World→World→Prop} {S Sp:List α→Prop} {X:List α→α→World→Prop} {Rl:World→World→Prop} {fn:Func}
    (Ds:List Nat) (I:List α→World→Prop) (Ix:Code→List α→World→Prop) (hsp:f sp=encDs Ds)
    (hg : ev n f g = .func (.func gf) #[] lb.toArray) (hfn : P.funcs[gf]? = some fn) (hn : (fn.name == "runtime.NumGoroutine") = false) (hb : fn.body.isNone = false)
    (hEs:∀ A B,E A B→A.heap.size≤B.heap.size) (hEl:∀ A B,Lp w.heap.size A B→E A B) (hEt:∀ A B C,E A B→E B C→E A C) (hseq:SeqOk P gf lb encs E S Sp X Rl w) (hXx:∀ s x A B,X s x A→Lp w.heap.size A B→X s x B) (hRe:∀ A B,Ext A B→Rl A B) (hRl:∀ A B,Rl A B→A.heap.size≤B.heap.size∧∀ k,ty A k=none→k<A.heap.size→B.heap[k]? = A.heap[k]?)
    (hps:∀ x,(encs x).length=ps.length)
    (hIe:∀ s A B,I s A→Rl A B→I s B) (hIl:∀ s A B,I s A→Lp w.heap.size A B→I s B) (hXe:∀ c s A B,Ix c s A→Rl A B→Ix c s B) (hXl:∀ c s A B,Ix c s A→Lp w.heap.size A B→Ix c s B)
    (h0:I [] w)
    (hround:∀ x,∃ f₁:Nat→Value,(∀ l W,Wf (some l) P assign (Exit.then (fun a W2=>a=fr n f₁∧W2=W) noQ) (fr n (updR (updP f (ps.zip (encs x))) sp undef)) W) ∧
      ∀ l pre W,w.heap.size≤W.heap.size→I pre W→X pre x W→Wf (some l) P body (N7 E I Ix (pre++[x]) W) (fr n f₁) W)
    (hdone:∀ D xs W,w.heap.size≤D→S xs→I xs W→Dfr W D→Q .normal (fr n (updR f sp (encDs (D :: Ds)))) W)
    (hstop:∀ D c pre W,w.heap.size≤D→Sp pre→Ix c pre W→Dfr W D→Wp P c Q (fr n (updR f sp (encDs (D :: Ds)))) W) :
    Wp P (Code.rangeFunc g ps.toArray assign body) Q (fr n f) w :=
  Vd I Ix (fun x=>(hround x).choose) hg hfn hn hb hEs hEl hEt hseq hRe hRl hXx hps hIe hIl hXe hXl h0 (fun l x W=>(hround x).choose_spec.1 l W) (fun l pre x W h1 h2 h3=>(hround x).choose_spec.2 l pre W h1 h2 h3)
    (fun D xs W h1 h2 h3 h4 _=>by rw[S2 n f D Ds hsp];exact hdone D xs W h1 h2 h3 h4) (fun D c pre W h1 h2 h3 h4=>by rw[S2 n f D Ds hsp];exact hstop D c pre W h1 h2 h3 h4)
end
structure Hd {α:Type} (J:List α→World→Prop) (Rl:World→World→Prop) (s:List α) (w:World):Prop where
  h:J s w
  cl:∀ s A B,J s A→Rl A B→J s B
  rl:∀ A B,Ext A B→Rl A B
theorem Hd.ext {α:Type} {J:List α→World→Prop} {Rl:World→World→Prop} {s:List α} {w w':World} (h:Hd J Rl s w) (x:Ext w w'):Hd J Rl s w':=⟨h.cl _ _ _ h.h (h.rl _ _ x),h.cl,h.rl⟩
theorem Hd.rel {α:Type} {J:List α→World→Prop} {Rl:World→World→Prop} {s:List α} {w w':World} (h:Hd J Rl s w) (x:Rl w w'):Hd J Rl s w':=⟨h.cl _ _ _ h.h x,h.cl,h.rl⟩
theorem Hd.to {α:Type} {J:List α→World→Prop} {Rl:World→World→Prop} {s t:List α} {w w':World} (h:Hd J Rl s w) (k:J t w'):Hd J Rl t w':=⟨k,h.cl,h.rl⟩
def pNum (most:Nat) (b:List UInt8):Option (Nat×List UInt8):=if (getU b).2.2=0∧(getU b).1≤most then some ((getU b).1,b.drop (getU b).2.1) else none
def Took {α:Type} (p:Option (α×List UInt8)) (bad bad':Prop) (x:α) (R R':List UInt8):Prop :=
  R'.length≤R.length∧(bad→bad')∧(¬ bad→(¬ bad'∧p=some (x,R'))∨(bad'∧p=none))
theorem Hv {α:Type} {p:Option (α×List UInt8)} {bad bad':Prop} {x:α} {R:List UInt8} (h:bad') (hp:¬ bad→p=none):Took p bad bad' x R R :=
  ⟨Nat.le_refl _,fun _=>h,fun hn => .inr ⟨h,hp hn⟩⟩
theorem Jw {α:Type} {p:Option (α×List UInt8)} {bad bad':Prop} {x:α} {R:List UInt8} {k:Nat} (h:¬ bad') (hb:¬ bad) (hp:p=some (x,R.drop k)):Took p bad bad' x R (R.drop k) :=
  ⟨by rw[List.length_drop];omega,fun h=>absurd h hb,fun _ => .inl ⟨h,hp⟩⟩
theorem Gv (b:List UInt8):(getU b).2.1≤b.length:=by
  by_cases h:(getU b).2.2=0
  · exact(F8 h).1
  · rw[(Ml h).2.1];exact Nat.zero_le _
theorem I1 (a:Int):IntKind.u32.wrap a=a % 4294967296:=by
  unfold IntKind.wrap;simp[IntKind.bits,IntKind.signed]
theorem J2 {n:Nat} (h:n<4294967296):(BitVec.ofInt 32 (n:Int)).toNat=n:=by
  simp[BitVec.toNat_ofInt];omega
theorem Wb {a b:Nat} (ha:a<4294967296) (hb:b<4294967296):Cu .or .u32 (a:Int) (b:Int)=((a ||| b:Nat):Int):=by
  show IntKind.u32.wrap ((BitVec.ofInt 32 (a:Int) ||| BitVec.ofInt 32 (b:Int)).toNat:Int)=_
  rw[BitVec.toNat_or,J2 ha,J2 hb,I1]
  have:=Nat.or_lt_two_pow (n:=32) ha hb
  omega
theorem K2 {a b:Nat} (ha:a<4294967296) (hb:b<4294967296):Cu .xor .u32 (a:Int) (b:Int)=((a ^^^ b:Nat):Int):=by
  show IntKind.u32.wrap ((BitVec.ofInt 32 (a:Int) ^^^ BitVec.ofInt 32 (b:Int)).toNat:Int)=_
  rw[BitVec.toNat_xor,J2 ha,J2 hb,I1]
  have:=Nat.xor_lt_two_pow (n:=32) ha hb
  omega
theorem Zo {a b:Nat} (ha:a<4294967296) (hb:b<4294967296):a ^^^ b<4294967296:=Nat.xor_lt_two_pow (n:=32) ha hb
def stepC (s:Nat):Nat:=if s % 2=1 then (s / 2) ^^^ 3988292384 else s / 2
def step4 (s:Nat):Nat:=stepC (stepC (stepC (stepC s)))
def byteC (s:Nat) (b:UInt8):Nat:=step4 (step4 (s ^^^ b.toNat))
def crcF (b:List UInt8):Nat:=4294967295 ^^^ (b.foldl byteC 4294967295)
def quart:List Nat:=[0x00000000,0x1db71064,0x3b6e20c8,0x26d930ac,0x76dc4190,0x6b6b51f4,0x4db26158,0x5005713c,0xedb88320,0xf00f9344,0xd6d6a3e8,0xcb61b38c,0x9b64c2b0,0x86d3d2d4,0xa00ae278,0xbdbdf21c]
theorem Hz {s:Nat} (h:s<4294967296):stepC s<4294967296:=by
  unfold stepC
  split
  · exact Nat.xor_lt_two_pow (n:=32) (by omega) (by omega)
  · omega
theorem K9 {s:Nat} (h:s<4294967296):step4 s<4294967296:=Hz (Hz (Hz (Hz h)))
theorem Ab6 {s:Nat} (h:s<4294967296) (b:UInt8):byteC s b<4294967296 :=
  K9 (K9 (Nat.xor_lt_two_pow (n:=32) h (by have:=b.toNat_lt;omega)))
theorem Zp (a b:Nat):(a ^^^ b) / 2=(a / 2) ^^^ (b / 2):=by
  have:=Nat.xor_div_two_pow (a:=a) (b:=b) (n:=1)
  simpa using this
theorem Acg (a b:Nat):(a ^^^ b) % 2=(a % 2) ^^^ (b % 2):=by
  have:=Nat.xor_mod_two_pow (a:=a) (b:=b) (n:=1)
  simpa using this
theorem Jy (a b:Nat):stepC (a ^^^ b)=stepC a ^^^ stepC b:=by
  unfold stepC
  rw[Zp,Acg]
  rcases Nat.mod_two_eq_zero_or_one a with ha | ha <;> rcases Nat.mod_two_eq_zero_or_one b with hb | hb <;> rw[ha,hb]
  · rfl
  · show (a / 2 ^^^ b / 2) ^^^ 3988292384 = a / 2 ^^^ (b / 2 ^^^ 3988292384)
    rw[Nat.xor_assoc]
  · show (a / 2 ^^^ b / 2) ^^^ 3988292384 = (a / 2 ^^^ 3988292384) ^^^ b / 2
    rw[Nat.xor_assoc,Nat.xor_comm (b / 2),← Nat.xor_assoc]
  · show a / 2 ^^^ b / 2 = (a / 2 ^^^ 3988292384) ^^^ (b / 2 ^^^ 3988292384)
    rw[Nat.xor_assoc,Nat.xor_comm 3988292384,Nat.xor_assoc,Nat.xor_self,Nat.xor_zero]
theorem Jz (x:Nat):stepC (2 * x)=x:=by
  unfold stepC
  rw[if_neg (by omega)]
  omega
theorem Yn (a b:Nat):step4 (a ^^^ b)=step4 a ^^^ step4 b:=by
  unfold step4
  rw[Jy,Jy,Jy,Jy]
theorem Z8 (x:Nat):step4 (16 * x)=x:=by
  unfold step4
  rw[show 16 * x=2 * (2 * (2 * (2 * x))) by omega,Jz,Jz,Jz,Jz]
theorem Acw (s:Nat):s=(16 * (s / 16)) ^^^ (s % 16):=by
  apply Nat.eq_of_testBit_eq
  intro i
  rw[Nat.testBit_xor,show 16 * (s / 16)=2 ^ 4 * (s / 2 ^ 4) by omega,Nat.testBit_two_pow_mul,show s % 16=s % 2 ^ 4 by omega,Nat.testBit_mod_two_pow,Nat.testBit_div_two_pow]
  by_cases hi:4≤i
  · have h2 : ¬ i < 4 := by omega
    simp[hi,h2,show 4+(i - 4)=i by omega,show i - 4+4=i by omega]
  · have h2 : i < 4 := by omega
    simp[hi,h2]
theorem Yo:∀ r,r<16→step4 r=quart.getD r 0:=by decide
theorem Tq (s:Nat):step4 s=(s / 16) ^^^ quart.getD (s % 16) 0:=by
  rw[← Yo _ (Nat.mod_lt s (by omega))]
  conv=>lhs;rw[Acw s]
  rw[Yn,Z8]
theorem Aam (i:Nat):quart.getD i 0<4294967296:=by
  by_cases h:i<16
  · revert h;revert i;decide
  · rw[List.getD_eq_getElem?_getD,List.getElem?_eq_none (by show 16≤i;omega)];decide
theorem and15 (p:Nat) (hp:p<4294967296):Cu .and .u32 (p:Int) 15=((p % 16:Nat):Int):=by
  show IntKind.u32.wrap ((BitVec.ofInt 32 (p:Int) &&& BitVec.ofInt 32 ((15:Nat):Int)).toNat:Int)=_
  rw[BitVec.toNat_and,J2 hp,J2 (by omega),Nat.and_two_pow_sub_one_eq_mod p 4,I1]
  omega
theorem shr4 (p:Nat):(p:Int).fdiv (2 ^ min (4:Int).toNat IntKind.u32.bits)=((p / 16:Nat):Int):=by
  have h:(2:Int) ^ min (4:Int).toNat IntKind.u32.bits=16:=by decide
  rw[h,Int.fdiv_eq_ediv_of_nonneg _ (by omega)]
  omega
theorem xorP {a:Nat} (h:a<4294967296):Cu .xor .u32 (a:Int) 3988292384=((a ^^^ 3988292384:Nat):Int):=K2 (b:=3988292384) h (by decide)
theorem cplP {a:Nat} (h:a<4294967296):Cu .xor .u32 4294967295 (a:Int)=((4294967295 ^^^ a:Nat):Int):=K2 (a:=4294967295) (by decide) h
theorem look4 {s:Nat} (h:s<4294967296):Cu .xor .u32 ((s / 16:Nat):Int) ((quart.getD (s % 16) 0:Nat):Int)=((step4 s:Nat):Int):=by
  rw[K2 (by omega) (Aam _),← Tq]
def stepN:Nat→Nat→Nat
  | 0,s=>s
  | n+1,s=>stepC (stepN n s)
theorem Pv {xs:List UInt8} {k:Nat} (h:k<xs.length) (a:Nat):(xs.take (k+1)).foldl byteC a=byteC ((xs.take k).foldl byteC a) (xs.getD k 0):=by
  have e:xs.getD k 0=xs[k]:=by rw[List.getD_eq_getElem?_getD,List.getElem?_eq_getElem h];rfl
  rw[e,List.take_succ_eq_append_getElem h,List.foldl_append];rfl
theorem shrB (p:Nat) {k:Nat} (hk:k<32):(p:Int).fdiv (2 ^ min ((k:Nat):Int).toNat IntKind.u32.bits)=((p / 2 ^ k:Nat):Int):=by
  have h:min ((k:Nat):Int).toNat IntKind.u32.bits=k:=by show min k 32=k;omega
  have h2:(2:Int) ^ k=((2 ^ k:Nat):Int):=by simp
  rw[h,h2,Int.fdiv_eq_ediv_of_nonneg _ (Int.natCast_nonneg _)]
  exact(Int.natCast_ediv _ _).symm
theorem shr8 (p:Nat):(p:Int).fdiv (2 ^ min (8:Int).toNat IntKind.u32.bits)=((p / 256:Nat):Int):=shrB p (k:=8) (by omega)
theorem shr16 (p:Nat):(p:Int).fdiv (2 ^ min (16:Int).toNat IntKind.u32.bits)=((p / 65536:Nat):Int):=shrB p (k:=16) (by omega)
theorem shr24 (p:Nat):(p:Int).fdiv (2 ^ min (24:Int).toNat IntKind.u32.bits)=((p / 16777216:Nat):Int):=shrB p (k:=24) (by omega)
theorem low8 (p:Nat):IntKind.u8.wrap (p:Int)=((UInt8.ofNat p).toNat:Int):=by
  rw[K5,UInt8.toNat_ofNat'];omega
def le4 (s:Nat):List UInt8:=[UInt8.ofNat s,UInt8.ofNat (s / 256),UInt8.ofNat (s / 65536),UInt8.ofNat (s / 16777216)]
def sumB (b:List UInt8):List UInt8:=le4 (crcF b)
theorem Ot (b:List UInt8):(sumB b).length=4:=rfl
theorem Wv (t:List UInt8):∀ (m i acc:Nat),acc<2 ^ (7 * i)→acc+m * 2 ^ (7 * i)<18446744073709551616→i≤9→(i=0∨m≠0)→getUF i acc (lebU m++t)=(acc+m * 2 ^ (7 * i),i+(lebU m).length,0):=by
  intro m
  induction m using Nat.strongRecOn with
  | _ m ih =>
    intro i acc ha hs hi h0
    by_cases hm:m<128
    · rw [Fg hm]
      have e:(UInt8.ofNat m).toNat=m:=by simp;omega
      show getUF i acc (UInt8.ofNat m :: ([]++t))=_
      unfold getUF
      simp only[e]
      have hc:¬ ((i=9∧1<m)∨(0<i∧m=0)):=by
        rintro (⟨h1,h2⟩ | ⟨h1,h2⟩)
        · subst h1
          have:2 * 2 ^ (7 * 9)≤m * 2 ^ (7 * 9):=Nat.mul_le_mul_right _ (by omega)
          omega
        · omega
      rw[if_neg hc,if_pos hm,Nat.mod_eq_of_lt hm];rfl
    · have hp : 2 ^ (7 * (i + 1)) = 128 * 2 ^ (7 * i) := I5 i
      have hpos:0<2 ^ (7 * i):=Nat.two_pow_pos _
      have hle:128 * 2 ^ (7 * i)≤m * 2 ^ (7 * i):=Nat.mul_le_mul_right _ (by omega)
      have hi8:i≤8:=by
        rcases Nat.lt_or_ge i 9 with h | h
        · omega
        · have : i = 9 := by omega
          subst this;omega
      rw[Hg hm]
      have e:(UInt8.ofNat (m % 128+128)).toNat=m % 128+128:=by simp;omega
      show getUF i acc (UInt8.ofNat (m % 128+128) :: (lebU (m / 128)++t))=_
      unfold getUF
      simp only[e]
      rw[if_neg (by omega),if_neg (by omega)]
      have hd:m=m / 128 * 128+m % 128:=by omega
      have hmm:m * 2 ^ (7 * i)=m / 128 * (128 * 2 ^ (7 * i))+m % 128 * 2 ^ (7 * i):=by
        conv=>lhs;rw[hd]
        rw[Nat.add_mul,Nat.mul_assoc]
      have e2:(m % 128+128) % 128=m % 128:=by omega
      rw[e2]
      have hr:m % 128 * 2 ^ (7 * i)≤127 * 2 ^ (7 * i):=Nat.mul_le_mul_right _ (by omega)
      rw[ih (m / 128) (by omega) (i+1) _ (by rw[hp];omega) (by rw[hp];omega) (by omega) (.inr (by omega)),hp]
      simp only[List.length_cons,Prod.mk.injEq,and_true]
      omega
theorem Gw {n:Nat} (t:List UInt8) (h:n<18446744073709551616):getU (lebU n++t)=(n,(lebU n).length,0):=by
  unfold getU
  rw[Wv t n 0 0 (by simp) (by simp;exact h) (by omega) (.inl rfl)]
  simp
abbrev Frm:=UInt8×List UInt8
def bodyF (k:UInt8) (b:List UInt8):List UInt8:=k :: (lebU b.length++b)
def sealF (k:UInt8) (b:List UInt8):List UInt8:=bodyF k b++sumB (bodyF k b)
def noF (e:Int):Frm×Nat×Int:=((0,[]),0,e)
def endF (b:List UInt8):Nat:=1+(getU (b.drop 1)).2.1+(getU (b.drop 1)).1
def openF (b:List UInt8):Frm×Nat×Int :=
  if b.length=0 then noF 22 else if b.getD 0 0=0 then noF 4 else if (getU (b.drop 1)).2.2≠0 then noF (getU (b.drop 1)).2.2
  else if 1048576<(getU (b.drop 1)).1 then noF 5 else if b.length<endF b+4 then noF 3
  else if sumB (b.take (endF b))≠(b.drop (endF b)).take 4 then noF 6
  else ((b.getD 0 0,(b.take (endF b)).drop (1+(getU (b.drop 1)).2.1)),endF b+4,0)
theorem Zd {b:List UInt8} (h:(getU b).2.2=0):lebU (getU b).1=b.take (getU b).2.1∧(getU b).2.1≤b.length∧0<(getU b).2.1:=by
  obtain⟨k1,k2,k3,k4⟩:=F8 h
  refine⟨?_,k1,k3⟩
  have hr:=Ka b
  unfold refU at hr
  by_cases g1:(grp b).2≠0
  · rw[if_pos g1] at hr;rw[hr] at h;exact absurd h g1
  · rw [if_neg g1] at hr
    by_cases g2:lebU (rv (b.take (grp b).1))=b.take (grp b).1
    · rw[if_pos g2] at hr;rw[hr];exact g2
    · rw[if_neg g2] at hr;rw[hr] at h;cases h
theorem H9 (k:UInt8) (b:List UInt8):(bodyF k b).length=1+(lebU b.length).length+b.length:=by simp[bodyF];omega
theorem H1 (k:UInt8) (b:List UInt8):(sealF k b).length=(bodyF k b).length+4:=by simp[sealF,Ot]
theorem Pc {k:UInt8} {b:List UInt8} (hk:k≠0) (hb:b.length≤1048576) (t:List UInt8):openF (sealF k b++t)=((k,b),(sealF k b).length,0):=by
  have e1:(sealF k b++t).drop 1=lebU b.length++(b++(sumB (bodyF k b)++t)):=by simp[sealF,bodyF]
  have hg:=Gw (n:=b.length) (b++(sumB (bodyF k b)++t)) (by omega)
  have hl:=H9 k b
  have hE:endF (sealF k b++t)=(bodyF k b).length:=by
    unfold endF;rw[e1,hg];show 1+(lebU b.length).length+b.length=_;omega
  have e0:(sealF k b++t).getD 0 0=k:=by simp[sealF,bodyF]
  have ht:(sealF k b++t).take (bodyF k b).length=bodyF k b:=by
    rw[sealF,List.append_assoc,List.take_left'];rfl
  have hd:(sealF k b++t).drop (bodyF k b).length=sumB (bodyF k b)++t:=by
    rw[sealF,List.append_assoc,List.drop_left'];rfl
  have hs:=H1 k b
  unfold openF
  rw[hE,e0,e1,hg,ht,hd]
  rw[if_neg (by rw[List.length_append];omega),if_neg hk,if_neg (by simp),if_neg (by simpa using hb),if_neg (by rw[List.length_append];omega),
    if_neg (by rw[List.take_left' (Ot _)];simp)]
  have h2:(bodyF k b).drop (1+(lebU b.length).length)=b:=by
    show (k :: (lebU b.length++b)).drop (1+(lebU b.length).length)=b
    rw[Nat.add_comm,List.drop_succ_cons,List.drop_left' rfl]
  rw[hs]
  show ((k,(bodyF k b).drop (1+(lebU b.length).length)),_,_)=_
  rw[h2]
theorem G3 {b:List UInt8} (h:(openF b).2.2=0):(openF b).1.1≠0∧(openF b).1.2.length≤1048576∧0<(openF b).2.1∧(openF b).2.1≤b.length∧sealF (openF b).1.1 (openF b).1.2=b.take (openF b).2.1:=by
  unfold openF at h ⊢
  split at h
  · exact absurd h (by show (22:Int)≠0;decide)
  split at h
  · exact absurd h (by show (4:Int)≠0;decide)
  split at h
  · rename_i h3;exact absurd h h3
  split at h
  · exact absurd h (by show (5:Int)≠0;decide)
  split at h
  · exact absurd h (by show (3:Int)≠0;decide)
  split at h
  · exact absurd h (by show (6:Int)≠0;decide)
  rename_i h1 h2 h3 h4 h5 h6
  rw[if_neg h1,if_neg h2,if_neg h3,if_neg h4,if_neg h5,if_neg h6]
  have hg:(getU (b.drop 1)).2.2=0:=Classical.byContradiction h3
  obtain⟨hb,hk,hp⟩:=Zd hg
  have hs:sumB (b.take (endF b))=(b.drop (endF b)).take 4:=Classical.byContradiction h6
  have hE:endF b=1+(getU (b.drop 1)).2.1+(getU (b.drop 1)).1:=rfl
  have hlen:((b.take (endF b)).drop (1+(getU (b.drop 1)).2.1)).length=(getU (b.drop 1)).1:=by rw[List.length_drop,List.length_take];omega
  have hbody:bodyF (b.getD 0 0) ((b.take (endF b)).drop (1+(getU (b.drop 1)).2.1))=b.take (endF b):=by
    unfold bodyF
    rw[hlen,hb]
    cases b with
    | nil=>exact absurd rfl h1
    | cons x r =>
      show x :: (r.take (getU r).2.1++((x :: r).take (1+(getU r).2.1+(getU r).1)).drop (1+(getU r).2.1))=(x :: r).take (1+(getU r).2.1+(getU r).1)
      rw[show 1+(getU r).2.1+(getU r).1=((getU r).2.1+(getU r).1)+1 by omega,List.take_succ_cons,show 1+(getU r).2.1=(getU r).2.1+1 by omega,List.drop_succ_cons]
      congr 1
      have:r.take (getU r).2.1=(r.take ((getU r).2.1+(getU r).1)).take (getU r).2.1:=by rw[List.take_take];congr 1;omega
      rw[this,List.take_append_drop]
  refine⟨h2,by rw[hlen];omega,by show 0<endF b+4;omega,by show endF b+4≤_;omega,?_⟩
  show sealF (b.getD 0 0) _=b.take (endF b+4)
  rw[sealF,hbody,hs,List.take_add]
theorem Yz {b:List UInt8}:(openF b).2.2=22↔b=[]:=by
  constructor
  · intro h
    unfold openF at h
    split at h
    · rename_i h1;exact List.length_eq_zero_iff.1 h1
    split at h
    · exact absurd h (by show (4:Int)≠22;decide)
    split at h
    · rename_i h3
      rcases (Ml h3).2.2 with e | e <;> (have h':(getU (b.drop 1)).2.2=22:=h;omega)
    split at h
    · exact absurd h (by show (5:Int)≠22;decide)
    split at h
    · exact absurd h (by show (3:Int)≠22;decide)
    split at h
    · exact absurd h (by show (6:Int)≠22;decide)
    · exact absurd h (by show (0:Int)≠22;decide)
  · intro h;subst h;rfl
def putF (l:List (List UInt8)):List UInt8×Int:=if l.all (fun c=>decide (c.length≤1048576)) then (l.flatMap (sealF 1),0) else ([],5)
def Ce (b:List UInt8):Option (List (List UInt8)) :=
  if hb:b=[] then some []
  else if h:(openF b).2.2=0∧(openF b).1.1=1 then (Ce (b.drop (openF b).2.1)).map ((openF b).1.2 :: ·)
  else none
termination_by b.length
decreasing_by
  have:=G3 h.1
  have h2:b.length≠0:=fun e=>hb (List.length_eq_zero_iff.1 e)
  rw[List.length_drop]
  omega
theorem E9:Ce []=some []:=by rw[Ce,dif_pos rfl]
theorem Ho {b:List UInt8} (hb:b≠[]) (h:¬ ((openF b).2.2=0∧(openF b).1.1=1)):Ce b=none:=by rw[Ce,dif_neg hb,dif_neg h]
theorem Iv {b:List UInt8} (hb:b≠[]) (h:(openF b).2.2=0∧(openF b).1.1=1):Ce b=(Ce (b.drop (openF b).2.1)).map ((openF b).1.2 :: ·):=by rw[Ce,dif_neg hb,dif_pos h]
def getSg (b:List UInt8):List (List UInt8)×Int:=match Ce b with | some l=>(l,0) | none=>([],4)
def scanF (b:List UInt8):List Frm×Int :=
  if h:(openF b).2.2=0 then ((openF b).1 :: (scanF (b.drop (openF b).2.1)).1,(scanF (b.drop (openF b).2.1)).2)
  else if (openF b).2.2=22 then ([],0) else ([],(openF b).2.2)
termination_by b.length
decreasing_by
  all_goals
    have:=G3 h
    rw[List.length_drop]
    omega
theorem O0 {b:List UInt8} (h:(openF b).2.2=0):scanF b=((openF b).1 :: (scanF (b.drop (openF b).2.1)).1,(scanF (b.drop (openF b).2.1)).2):=by rw[scanF,dif_pos h]
theorem Fp {b:List UInt8} (h:¬ (openF b).2.2=0):scanF b=if (openF b).2.2=22 then ([],0) else ([],(openF b).2.2):=by rw[scanF,dif_neg h]
theorem Vc:∀ (n:Nat) (b:List UInt8),b.length≤n→Ce b=if (scanF b).2=0∧(scanF b).1.all (fun x=>decide (x.1=1))=true then some ((scanF b).1.map (·.2)) else none:=by
  intro n
  induction n with
  | zero =>
    intro b hb
    have:b=[]:=List.length_eq_zero_iff.1 (by omega)
    subst this
    rw[E9,Fp (by decide)];rfl
  | succ n ih =>
    intro b hb
    by_cases h0:b=[]
    · subst h0;rw[E9,Fp (by decide)];rfl
    · by_cases h1 : (openF b).2.2 = 0
      · have hok := G3 h1
        have hi:=ih (b.drop (openF b).2.1) (by rw[List.length_drop];omega)
        rw[O0 h1]
        by_cases h2:(openF b).1.1=1
        · rw [Iv h0 ⟨h1, h2⟩, hi]
          by_cases h3:(scanF (b.drop (openF b).2.1)).2=0∧(scanF (b.drop (openF b).2.1)).1.all (fun x=>decide (x.1=1))=true
          · rw[if_pos h3,if_pos ⟨h3.1,by rw[List.all_cons,h3.2];simp[h2]⟩];rfl
          · rw[if_neg h3,if_neg (fun h=>h3 ⟨h.1,by have:=h.2;rw[List.all_cons,Bool.and_eq_true] at this;exact this.2⟩)];rfl
        · rw[Ho h0 (fun h=>h2 h.2),if_neg (fun h=>by have:=h.2;rw[List.all_cons,Bool.and_eq_true] at this;exact h2 (of_decide_eq_true this.1))]
      · rw [Ho h0 (fun h => h1 h.1), Fp h1]
        have h22:¬ (openF b).2.2=22:=fun h=>h0 (Yz.1 h)
        rw[if_neg h22,if_neg (fun h=>h1 h.1)]
theorem P9:∀ l:List (List UInt8),(∀ c∈l,c.length≤1048576)→Ce (l.flatMap (sealF 1))=some l
  | [],_=>E9
  | c :: l, h => by
    have ho:=Pc (k:=1) (b:=c) (by decide) (h c (by simp)) (l.flatMap (sealF 1))
    have hne:sealF 1 c++l.flatMap (sealF 1)≠[]:=by intro e;have:=congrArg List.length e;rw[List.length_append,H1] at this;simp at this
    rw[List.flatMap_cons,Iv hne (by rw[ho];exact⟨rfl,rfl⟩),ho]
    show (Ce ((sealF 1 c++l.flatMap (sealF 1)).drop (sealF 1 c).length)).map (c :: ·)=_
    rw[List.drop_left' rfl,P9 l (fun x hx=>h x (by simp[hx]))]
    rfl
theorem O9:∀ (n:Nat) (b:List UInt8),b.length≤n→∀ l,Ce b=some l→l.flatMap (sealF 1)=b∧∀ c∈l,c.length≤1048576:=by
  intro n
  induction n with
  | zero =>
    intro b hb l h
    have:b=[]:=List.length_eq_zero_iff.1 (by omega)
    subst this
    rw[E9] at h;cases h
    exact⟨rfl,fun c hc=>by simp at hc⟩
  | succ n ih =>
    intro b hb l h
    by_cases h0:b=[]
    · subst h0;rw[E9] at h;cases h;exact⟨rfl,fun c hc=>by simp at hc⟩
    · by_cases h1 : (openF b).2.2 = 0 ∧ (openF b).1.1 = 1
      · have hok := G3 h1.1
        rw[Iv h0 h1] at h
        obtain⟨l',hl,rfl⟩:=Option.map_eq_some_iff.1 h
        obtain⟨h2,h3⟩:=ih _ (by rw[List.length_drop];omega) _ hl
        refine⟨?_,fun c hc=>?_⟩
        · rw[List.flatMap_cons,h2,← h1.2,hok.2.2.2.2,List.take_append_drop]
        · rcases List.mem_cons.1 hc with rfl | hc
          · exact hok.2.1
          · exact h3 c hc
      · rw[Ho h0 h1] at h;cases h
structure Mf where
  seg:Nat
  size:Nat
  index:List UInt8
structure Mf.Ok (m:Mf):Prop where
  lo:1≤m.seg
  hi:m.seg≤999999
  sz:m.size≤16777216
  ix:m.index.length≤524288
def Dx (m:Mf):List UInt8:=lebU m.seg++(lebU m.size++m.index)
def manB (m:Mf):List UInt8:=sealF 3 (Dx m)
def ManOf (b:List UInt8) (m:Mf):Prop:=m.Ok∧manB m=b
theorem Hf {m:Mf} (h:m.Ok):(Dx m).length≤1048576:=by
  have h1:=C9 (n:=m.seg) (by have:=h.hi;omega)
  have h2:=C9 (n:=m.size) (by have:=h.sz;omega)
  have h3:=h.ix
  simp only[Dx,List.length_append];omega
theorem Fv {b:List UInt8} {m:Mf} (h:ManOf b m):openF b=((3,Dx m),b.length,0):=by
  have:=Pc (k:=3) (by decide) (Hf h.1) []
  rw[List.append_nil] at this
  rw[← h.2];exact this
theorem Um {m m':Mf} (h:m.Ok) (h':m'.Ok) (he:Dx m=Dx m'):m=m':=by
  have g1:=Gw (n:=m.seg) (lebU m.size++m.index) (by have:=h.hi;omega)
  have g2:=Gw (n:=m'.seg) (lebU m'.size++m'.index) (by have:=h'.hi;omega)
  unfold Dx at he
  rw[he,g2] at g1
  have e1:m'.seg=m.seg:=congrArg (·.1) g1
  rw[e1] at he
  have he:=List.append_cancel_left he
  have g3:=Gw (n:=m.size) m.index (by have:=h.sz;omega)
  have g4:=Gw (n:=m'.size) m'.index (by have:=h'.sz;omega)
  rw[he,g4] at g3
  have e2:m'.size=m.size:=congrArg (·.1) g3
  rw[e2] at he
  have e3:=List.append_cancel_left he
  cases m;cases m';simp_all
theorem Wm {b:List UInt8} {m m':Mf} (h:ManOf b m) (h':ManOf b m'):m=m':=by
  have h1:=Fv h
  rw[Fv h'] at h1
  have:Dx m'=Dx m:=congrArg (fun x=>x.1.2) h1
  exact(Um h'.1 h.1 this).symm
abbrev By:=List UInt8
def errM (seg size:Int) (xs:By):Int:=if seg<1∨999999<seg∨size<0∨16777216<size then 2 else if 524288<xs.length then 5 else 0
theorem Ki {s z:Nat} {xs:By}:errM s z xs=0↔(Mf.mk s z xs).Ok:=by
  unfold errM
  constructor
  · intro h
    split at h
    · cases h
    · split at h
      · cases h
      · exact⟨by show 1≤s;omega,by show s≤999999;omega,by show z≤16777216;omega,by show xs.length≤524288;omega⟩
  · intro h
    have h1:=h.lo;have h2:=h.hi;have h3:=h.sz;have h4:=h.ix
    simp only at h1 h2 h3 h4
    rw[if_neg (by omega),if_neg (by omega)]
theorem Uc {n mo:Nat} (t:List UInt8) (h:n≤mo) (hn:n<18446744073709551616):pNum mo (lebU n++t)=some (n,t):=by
  unfold pNum
  rw[Gw t hn,if_pos ⟨rfl,h⟩]
  simp
theorem U6 {α:Type} (l:List α) (k:Nat):l.drop (l.length - (l.drop k).length)=l.drop k:=by
  rw[List.length_drop]
  by_cases h:k≤l.length
  · rw[show l.length - (l.length - k)=k by omega]
  · rw[List.drop_eq_nil_of_le (by omega:l.length≤k),List.drop_eq_nil_of_le (by omega)]
theorem Ul {b body:By} (ho:∀ m,ManOf b m→Dx m=body) {N1 N2:Nat} {e1 e2:Int} {R1 R2:By} (h1:Took (pNum 999999 body) ((0:Int)≠0) (e1≠0) N1 body R1) (h2:Took (pNum 16777216 R1) (e1≠0) (e2≠0) N2 R1 R2) :
    R2.length≤body.length∧(e2=0→body.drop (body.length - R2.length)=R2)∧∀ m,ManOf b m→e2=0∧N1=m.seg∧N2=m.size∧R2=m.index:=by
  obtain⟨l1,_,c1⟩:=h1
  obtain⟨l2,d2,c2⟩:=h2
  have c1:=c1 (by decide)
  refine⟨by omega,fun he=>?_,fun m hm=>?_⟩
  · have he1 : e1 = 0 := Classical.byContradiction fun h => absurd he (d2 h)
    have c2:=(c2 (by omega)).resolve_right (fun h=>h.1 he)
    have c1:=c1.resolve_right (fun h=>h.1 he1)
    have f1:=c1.2;have f2:=c2.2
    unfold pNum at f1 f2
    split at f1
    · split at f2
      · injection f1 with f1; injection f2 with f2
        injection f1 with _ f1;injection f2 with _ f2
        rw[← f2,← f1,List.drop_drop,U6]
      · cases f2
    · cases f1
  · have hb := ho m hm
    have k:=hm.1
    have p1:pNum 999999 body=some (m.seg,lebU m.size++m.index):=by rw[← hb];exact Uc _ k.hi (by have:=k.hi;omega)
    rw[p1] at c1
    have c1:=c1.resolve_right (fun h=>by cases h.2)
    have f1:=c1.2
    injection f1 with f1
    injection f1 with g1 g2
    rw[← g2,Uc _ k.sz (by have:=k.sz;omega)] at c2
    have c2:=(c2 c1.1).resolve_right (fun h=>by cases h.2)
    have f2:=c2.2
    injection f2 with f2
    injection f2 with g3 g4
    exact⟨Classical.byContradiction fun h=>c2.1 h,g1.symm,g3.symm,g4.symm⟩
section append
variable {P : Program} {ops : Array Oper} {Q : Exit → Act → World → Prop} {rest : List Oper} {N : Nat} {f : Nat → Value} {w : World} {α : Type}
variable {t0 : TypeId} {pos : String} {aft : Array Edge} {dst : Nat} {x y : Operand} {T tx : TypeId}
theorem O2 {d:Kind α} {e:TypeId} {B B0:Nat} {p:Option Addr} {n c m:Nat} {xs ys:List α} {v z:Value} {news:List Value} {bytes:Nat}
    (hT:P.underlying T=some (.slice e)) (hi:(P.info? e).map (fun i=>(i.zero,i.size,i.bytes))=some (some z,d.sz,bytes)) (hz:z.cells.size=d.sz) (hsz:0<d.sz)
    (hO:Own d e B B0 w p n c xs) (hs:Src P d.sz tx v m news w) (hl:ys.length=m) {dss:List (List Value)} (ha:d.All B w ys dss) (hn:dss.flatten=news) (hb:((n+m)+(n+m) / 4+192) * bytes≤281474976710656) (hm:n+m≤4611686018427387904)
    (hB0:B0≤w.heap.size) (hBB:B≤B0) (hE:e∉d.E) :
    ∃ p' c' w',(Builtin.append_ #[T,tx] t0 #[.slice p n c,v]).run P w = .ok (.slice p' (n+m) c') w'∧Own d e B B0 w' p' (n+m) c' (xs++ys)∧Mod B0 e w w'∧(p'=p∨∃ g,p'=some ⟨g,0,none⟩∧w.heap.size≤g)∧∀ k,k<w.heap.size→p≠some ⟨k,0,none⟩→w'.heap[k]? = w.heap[k]? := by
  obtain⟨i,hi0,hi1⟩:=Option.map_eq_some_iff.1 hi
  simp only[Prod.mk.injEq] at hi1
  obtain⟨hiz,his,hib⟩:=hi1
  obtain⟨css,hxs,ho⟩:=hO.row
  have hlen:(css.flatten++news).length=(n+m) * d.sz:=by rw[List.length_append,ho.1,hs.newsLen,Nat.add_mul]
  have hbl:∀ b,b<9223372036854775808→True:=fun _ _=>trivial
  -- a new row
  have grow:∀ (base:Option Addr) (sCap:Nat),sCap<n+m→(Builtin.firstCells i.size n (.slice base n sCap)).run P w.drew = .ok css.flatten.toArray w.drew →
      ∃ p' c' w',(Builtin.append_ #[T,tx] t0 #[.slice base n sCap,v]).run P w = .ok (.slice p' (n+m) c') w'∧Own d e B B0 w' p' (n+m) c' (xs++ys)∧Mod B0 e w w'∧(∃ g,p'=some ⟨g,0,none⟩∧w.heap.size≤g)∧∀ k,k<w.heap.size→w'.heap[k]? = w.heap[k]? := by
    intro base sCap hg hold
    have hr:=run_append_grow_src (P:=P) w T tx t0 e i z hT hi0 hiz base n sCap css.flatten hold v m news (by rw[his];exact hs) hg (by omega) (growslice_fits_wide hg (by rw[hib];exact hb))
    refine⟨_,_,_,hr,?_,?_,⟨_,rfl,Nat.le_refl _⟩,fun k hk=>((Ext.drew w).trans (Ext.alloc _ _)).old k hk⟩
    · have hN : New w.drew (w.drew.alloc (.cells ((css.flatten ++ news).toArray ++ Builtin.zeroCells z.cells (grownCap w (n + m) sCap e - (n + m))) e)) w.drew.heap.size _ e := New.alloc _ _ _
      have hx:Ext w (w.drew.alloc (.cells ((css.flatten++news).toArray++Builtin.zeroCells z.cells (grownCap w (n+m) sCap e - (n+m))) e)):=(Ext.drew w).trans hN.ext
      have hge:=grownCap_ge w (n+m) sCap e
      have hcm:grownCap w (n+m) sCap e≤maxLen:=grownCap_le_maxLen w (n+m) sCap e (by unfold maxLen;omega)
      refine Own.made d e B B0 hN (xs++ys) (css++dss) (n+m) _ (by rw[List.length_append,hO.len,hl]) ((hxs.keep (hx.same _ _)).append (ha.keep (hx.same _ _))) hB0 hge (by unfold maxLen at hcm;omega) ?_ ?_
      · simp only [Array.size_append, List.size_toArray, size_zeroCells, hz, hlen, ← Nat.add_mul]
        congr 1;omega
      · rw [Array.toList_append, ← hlen, List.take_left', List.flatten_append, hn]
        simp
    · exact .ofExt ((Ext.drew w).trans (Ext.alloc _ _))
  have wide:∀ {p0:Option Addr} {R:World→Option Addr→Nat→Prop},(∃ p' c' w',R w' p' c'∧Own d e B B0 w' p' (n+m) c' (xs++ys)∧Mod B0 e w w'∧(∃ g,p'=some ⟨g,0,none⟩∧w.heap.size≤g)∧∀ k,k<w.heap.size→w'.heap[k]? = w.heap[k]?) →
      ∃ p' c' w',R w' p' c'∧Own d e B B0 w' p' (n+m) c' (xs++ys)∧Mod B0 e w w'∧(p'=p0∨∃ g,p'=some ⟨g,0,none⟩∧w.heap.size≤g)∧∀ k,k<w.heap.size→p0≠some ⟨k,0,none⟩→w'.heap[k]? = w.heap[k]? :=
    fun ⟨p',c',w',h1,h2,h3,h4,h5⟩=>⟨p',c',w',h1,h2,h3,.inr h4,fun k hk _=>h5 k hk⟩
  rcases ho.2 with ⟨h1,h2⟩ | ⟨g,cap,cur,h1,h2,h3,h4,h5,h6,h7⟩
  · injection h1 with e1 e2 e3
    subst e1 e3
    have hcf:css.flatten=[]:=List.eq_nil_of_length_eq_zero (by rw[ho.1,h2,Nat.zero_mul])
    by_cases hm0:m=0
    · have hy : ys = [] := List.eq_nil_of_length_eq_zero (by rw [hl, hm0])
      have hnews:news=[]:=List.eq_nil_of_length_eq_zero (by rw[hs.newsLen,hm0,Nat.zero_mul])
      subst h2 hm0
      refine⟨none,0,w,?_,by rw[hy,List.append_nil];exact hO,.refl _ _ _,.inl rfl,fun _ _ _=>rfl⟩
      have hc:=hs.cells
      rcases hs.kind with ⟨e',hk⟩ | hk <;> simp[Builtin.append_,run_underlying hT,run_underlying hk,sizeOf,typeInfo,hi0,hs.len,his,hc]
    · refine wide (grow none 0 (by omega) ?_)
      rw[hcf]
      have:n=0:=h2
      subst this
      exact run_firstCells_none w.drew i.size 0 0 0
  · injection h1 with e1 e2 e3
    subst e1 e3
    by_cases hroom:n+m≤c
    · have hfit : n * d.sz + news.length ≤ cur.size := by rw [hs.newsLen, h6, ← Nat.add_mul]; exact Nat.mul_le_mul_right _ hroom
      have hB:Blk w g cur e:=h3
      have hr:=run_append_room_src (P:=P) w T tx t0 e i hT hi0 g 0 n c v m news (by rw[his];exact hs) hroom
        (fun j hj=>by
          have hlt:0+n * i.size+j<cur.size:=by rw[his];omega
          rw[hB.cell (v:=cur[0+n * i.size+j]) (Array.getElem?_eq_getElem hlt)];rfl)
        (fun j _=>frozen_of_row w g _ cur e hB)
      rw[his,Nat.zero_add] at hr
      have hnew:=Gn news (n * d.sz) w cur hB hfit
      have hmod:Mod B0 e w (w.setCells g (n * d.sz) news):=by
        obtain⟨r1,r2,r3,r4⟩:=D8 g news (n * d.sz) w
        refine⟨Nat.le_of_eq (F0 g news _ w).symm,fun k hk ho'=>Dv g news _ w k (fun ek=>?_),fun k hk=>?_,by rw[r1];exact Nat.le_refl _,r2,r3,r4⟩
        · subst ek
          rcases ho' with ho' | ho'
          · omega
          · exact ho' hB.ty
        · by_cases ek : k = g
          · subst ek;rw[hnew.ty,hB.ty]
          · exact B7 (Dv g news _ w k ek)
      refine⟨_,_,_,hr,⟨by rw[List.length_append,hO.len,hl],css++dss,(hxs.keep (hmod.same hBB hE)).append (ha.keep (hmod.same hBB hE)),?_,?_⟩,hmod,.inl rfl,fun k hk hne=>Dv g news _ w k (fun ek=>hne (by rw[ek]))⟩
      · rw[List.flatten_append,hn,hlen]
      · refine .inr ⟨g, c, _, rfl, h2, hnew, hroom, h5, ?_, ?_⟩
        · simp only[List.size_toArray,List.length_append,List.length_take,List.length_drop,Array.length_toList];omega
        · simp only [List.flatten_append, hn]
          rw[h7,← hlen]
          exact List.take_left
    · refine wide (grow _ _ (by omega) ?_)
      rw[his]
      refine run_firstCells_some w.drew d.sz n ⟨g,0,none⟩ n c css.flatten ho.1 (fun j u hu=>?_)
      have:=ho.cells (g:=g) rfl j u hu
      simpa using this
theorem Re {d:Kind α} {e:TypeId} {B B0:Nat} {p:Option Addr} {n c m:Nat} {xs:List α} {v z:Value} {news:List Value} {bytes:Nat} (ys:List α)
    (hT:P.underlying T=some (.slice e)) (hi:(P.info? e).map (fun i=>(i.zero,i.size,i.bytes))=some (some z,d.sz,bytes)) (hz:z.cells.size=d.sz) (hsz:0<d.sz)
    (hx:ev N f x = .slice p n c) (hy:ev N f y=v) (hO:Own d e B B0 w p n c xs) (hs:Src P d.sz tx v m news w) (hl:ys.length=m) {dss:List (List Value)} (ha:d.All B w ys dss) (hn:dss.flatten=news)
    (hb:((n+m)+(n+m) / 4+192) * bytes≤281474976710656) (hm:n+m≤4611686018427387904) (hB0:B0≤w.heap.size) (hBB:B≤B0) (hE:e∉d.E)
    (k:∀ p' c' w',Own d e B B0 w' p' (n+m) c' (xs++ys)→Mod B0 e w w'→(p'=p∨∃ g,p'=some ⟨g,0,none⟩∧w.heap.size≤g)→(∀ k,k<w.heap.size→p≠some ⟨k,0,none⟩→w'.heap[k]? = w.heap[k]?)→Lst P ops Q rest (fr N (upd f dst (.slice p' (n+m) c'))) w') :
    Lst P ops Q (⟨some dst,.call ⟨.builtin .append,#[x,y],#[T,tx]⟩,t0,pos,aft,none⟩ :: rest) (fr N f) w:=by
  obtain⟨p',c',w',hr,h1,h2,h3,h4⟩:=O2 (t0:=t0) hT hi hz hsz hO hs hl ha hn hb hm hB0 hBB hE
  refine l1 (w':=w') (v := .slice p' (n+m) c') ?_ (k p' c' w' h1 h2 h3 h4)
  simp only[execOp,resolve,invoke,builtin,Sem.run_bind,Sem.run_pure,Result.andThen_ok,List.map_toArray,List.map_cons,List.map_nil,hx,hy,hr]
end append
def Apart (p q:Option Addr):Prop:=p=none∨q=none∨p≠q
theorem Apart.symm {p q:Option Addr} (h:Apart p q):Apart q p:=h.elim (fun h => .inr (.inl h)) fun h=>h.elim .inl fun h => .inr (.inr fun e=>h e.symm)
end Go.Proofs.Eng
end
