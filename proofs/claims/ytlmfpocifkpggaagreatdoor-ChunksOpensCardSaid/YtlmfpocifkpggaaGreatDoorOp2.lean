import Derived.Test.YtlmfpocifkpggaaGreatDoorOp1
import Derived.Maps.RangeRun
import Derived.WideKeyRuns
import Derived.MapKept
import Derived.Lib.AppendZerosOnto
import Derived.Defers
import Derived.Recover
import Derived.WideLaws
import Derived.Lib.Atoi
import Derived.Lib.ItoaNum
import Derived.Lib.AtoiErrMem
import Derived.Test.YtlmfpocifkpggaaGreatDoorSh
import Derived.Scope
import Derived.ChangeKeysEq
import Derived.Test.YtlmfpocifkpggaaGreatDoorRows
import Derived.Stop.LaidErr
import Derived.Lib.LaidTab
set_option linter.unusedVariables false
set_option linter.unusedSimpArgs false
set_option linter.unusedSectionVars false
section
namespace Go.Proofs.Eng
open Go.RowKit
open Extern.Stop (cell)
set_option maxRecDepth 100000
section
open Go.ChangeMaps (setBlock)
structure KeyOk (P:Program) (K:TypeId) {κ:Type} (kk:κ→Value):Prop where
  inj:∀ a b,kk a=kk b→a=b
  check:∀ (em:Bool) (w:World) (k:κ),(Instr.checkKey em 10000 K (kk k)).run P w = .ok () w
  find:∀ (w:World) (k:κ) (es:List MapEntry) (ks:List κ),es.map (·.key)=ks.map kk →
    (k∉ks∧(Instr.findKey K (kk k) es).run P w = .ok none w)∨∃ i e,es[i]? = some e∧ks[i]? = some k∧(Instr.findKey K (kk k) es).run P w = .ok (some (i,e.val)) w
  bits:∀ k,Instr.sameBits 10000 (kk k) (kk k)=true
def Dd (h:Hash):Value := .agg (hv h)
def kkStr (s:ByteArray):Value := .string s
theorem Ab5 {a b:UInt8} (h:cell a=cell b):a=b:=by
  unfold cell at h
  injection h with _ h
  exact UInt8.toNat_inj.1 (Int.ofNat.inj h)
theorem Ll:∀ {a b:List UInt8},a.map cell=b.map cell→a=b
  | [],[],_=>rfl
  | x :: a, y :: b, h => by
    simp only[List.map_cons,List.cons.injEq] at h
    rw[Ab5 h.1,Ll h.2]
  | [],_ :: _,h=>by simp at h
  | _ :: _,[],h=>by simp at h
theorem Wq (a b:Hash) (h:Dd a=Dd b):a=b:=by
  unfold Dd hv hcs at h
  injection h with h
  exact Subtype.ext (Ll (by simpa using h))
theorem I3 (n:Nat):∀ l:List UInt8,((l.map cell).zip (l.map cell)).all (fun (x,y)=>Instr.sameBits (n+1) x y)=true
  | []=>rfl
  | x :: l => by
    rw[List.map_cons,List.zip_cons_cons,List.all_cons,I3 n l]
    simp[cell,Instr.sameBits]
theorem Nv {P:Program} (w:World) (em:Bool) (d:Nat) (t e:TypeId) (n:Nat) (ht:P.underlying t=some (.array n e)) (he:P.underlying e=some (.int .u8)) (hsz:∀ w,(sizeOf e).run P w = .ok 1 w) (xs:List UInt8) (hx:xs.length=n) :
    (Instr.checkKey em (d+2) t (.agg (xs.map cell).toArray)).run P w = .ok () w:=by
  rw[Instr.checkKey]
  simp only[Sem.run_bind,run_underlying ht,Result.andThen_ok,hsz,Std.Legacy.Range.forIn_eq_forIn_range',Std.Legacy.Range.size,Nat.sub_zero,Nat.add_sub_cancel,Nat.div_one]
  have hl:∀ i∈List.range' 0 n 1,i<n:=fun i hi=>by simpa using (List.mem_range'_1.1 hi).2
  generalize List.range' 0 n 1=l at hl ⊢
  induction l with
  | nil=>simp
  | cons i l ih =>
    have hi:i<n:=hl i (by simp)
    have px:(part e (xs.map cell).toArray (i * 1)).run P w = .ok (cell (xs.getD i 0)) w:=by
      simp[part,isAgg,run_underlying he,List.getD,List.getElem?_eq_getElem (show i<xs.length by omega)]
    have pc:(Instr.checkKey em (d+1) e (cell (xs.getD i 0))).run P w = .ok () w:=by
      simp[Instr.checkKey,run_underlying he,cell]
    simp only[List.forIn_cons,Sem.run_bind,hsz,px,pc,Result.andThen_ok,Sem.run_pure] at ih ⊢
    exact ih fun j hj=>hl j (by simp[hj])
theorem Nm {P:Program} {κ:Type} {kk:κ→Value} {K:TypeId} (w:World) (k:κ) (heq:∀ k',∃ b:Bool,(Op.equal K (kk k) (kk k')).run P w = .ok b w∧(b=true↔k=k')):∀ (es:List MapEntry) (ks:List κ) (i:Nat),es.map (·.key)=ks.map kk →
    (k∉ks∧(Instr.findAsking K (kk k) es i).run P w = .ok none w)∨∃ j e,es[j]? = some e∧ks[j]? = some k∧(Instr.findAsking K (kk k) es i).run P w = .ok (some (i+j,e.val)) w
  | [],[],i,_ => .inl ⟨by simp,rfl⟩
  | e :: es, k' :: ks, i, h => by
    simp only[List.map_cons,List.cons.injEq] at h
    obtain⟨b,hb,hiff⟩:=heq k'
    cases b with
    | true =>
      have hk:=hiff.1 rfl
      subst hk
      refine .inr ⟨0,e,rfl,rfl,?_⟩
      rw[Instr.findAsking,h.1]
      simp only[Sem.run_bind,hb,Result.andThen_ok,if_true,Sem.run_pure]
      rfl
    | false =>
      have hne:¬ k=k':=fun q=>by have:=hiff.2 q;cases this
      have hstep:(Instr.findAsking K (kk k) (e :: es) i).run P w=(Instr.findAsking K (kk k) es (i+1)).run P w:=by
        rw[Instr.findAsking,h.1]
        simp only[Sem.run_bind,hb,Result.andThen_ok,Bool.false_eq_true,if_false]
      rcases Nm w k heq es ks (i+1) h.2 with ⟨h1,h2⟩ | ⟨j,e',h1,h2,h3⟩
      · exact .inl ⟨by simp[hne,h1],by rw[hstep];exact h2⟩
      · exact .inr ⟨j+1,e',by simpa using h1,by simpa using h2,by rw[hstep,h3];congr 3;omega⟩
  | [],_ :: _,_,h=>by simp at h
  | _ :: _,[],_,h=>by simp at h
theorem Es {P:Program} {K e:TypeId} (hu:P.underlying K=some (.array 32 e)) (he:P.underlying e=some (.int .u8)) (hz:(P.info? e).map (·.size)=some 1):KeyOk P K Dd:=by
  obtain⟨ii,hi,hs⟩:=Option.map_eq_some_iff.1 hz
  have hsz:∀ w,(sizeOf e).run P w = .ok 1 w:=fun w=>by simp[sizeOf,typeInfo,hi,hs]
  refine⟨Wq,fun em w k=>Nv w em 9998 K e 32 hu he hsz k.1 k.2,fun w k es ks h=>?_,fun k=>?_⟩
  · have hrun := run_findKey_eq (P := P) w (k := K) (by rw [hu]) (Dd k) es
    have:=Nm (P:=P) (kk:=Dd) (K:=K) w k (fun k'=>⟨k.1 == k'.1,run_equalIn_bytes (P:=P) w 9998 K e 32 hu he hsz k.1 k'.1 k.2 k'.2,by rw[beq_iff_eq,Subtype.ext_iff]⟩) es ks 0 h
    simp only[Nat.zero_add] at this
    rw[hrun];exact this
  · unfold Dd hv hcs
    rw[Instr.sameBits]
    simp[I3]
theorem C3 {P:Program} {K:TypeId} (hu:P.underlying K=some .string):KeyOk P K kkStr:=by
  refine⟨fun a b h=>by unfold kkStr at h;injection h,fun em w k=>MapKept.run_checkKey (k := .string k) hu (by simp[MapKept.IsKey]) em 9999,fun w k es ks h=>?_,fun k=>?_⟩
  · have hk : MapKept.IsKey TypeDesc.string (kkStr k) := by simp [MapKept.IsKey, kkStr]
    have hes:∀ x∈es,MapKept.IsKey TypeDesc.string x.key:=fun x hx=>by
      have:x.key∈es.map (·.key):=List.mem_map.2 ⟨x,hx,rfl⟩
      rw[h] at this
      obtain⟨k',_,e⟩:=List.mem_map.1 this
      rw[← e];simp[MapKept.IsKey,kkStr]
    rcases MapKept.findNow_spec hk es 0 hes with ⟨h1,h2⟩ | ⟨j,e,h1,h2,h3⟩
    · refine .inl ⟨fun hm => ?_, MapKept.run_findKey hu h1⟩
      have:kkStr k∈es.map (·.key):=by rw[h];exact List.mem_map.2 ⟨k,hm,rfl⟩
      obtain⟨x,hx,e⟩:=List.mem_map.1 this
      exact h2 x hx e
    · refine .inr ⟨j, e, h2, ?_, by rw [Nat.zero_add] at h1; exact MapKept.run_findKey hu h1⟩
      have:(es.map (·.key))[j]? = some e.key:=by rw[List.getElem?_map,h2];rfl
      rw[h,List.getElem?_map,h3] at this
      obtain⟨k',hk',e'⟩:=Option.map_eq_some_iff.1 this
      have:k'=k:=by unfold kkStr at e';injection e'
      rw[hk',this]
  · unfold kkStr;simp[Instr.sameBits,MapKept.bytes_beq]
structure VK (ν:Type) where
  E:List TypeId
  V:Nat→World→ν→Value→Prop
  keep:∀ {B w w' x v},Same B E w w'→V B w x v→V B w' x v
  mono:∀ {B B' w x v},B≤B'→V B w x v→V B' w x v
def VK.one {ν:Type} (d:Kind ν):VK ν:=⟨d.E,fun B w x v=>d.K B w x [v],d.keep,d.mono⟩
def VK.agg {ν:Type} (d:Kind ν):VK ν:=⟨d.E,fun B w x v=>∃ cs,v = .agg cs∧d.K B w x cs.toList,fun hs ⟨cs,h1,h2⟩=>⟨cs,h1,d.keep hs h2⟩,fun hB ⟨cs,h1,h2⟩=>⟨cs,h1,d.mono hB h2⟩⟩
def vBool:VK Bool:=⟨[],fun _ _ x v=>v = .bool x,fun _ h=>h,fun _ h=>h⟩
variable {κ ν : Type}
def Ents (kk:κ→Value) (d:VK ν) (B:Nat) (w:World):List (κ×ν)→List MapEntry→Prop
  | [],[]=>True
  | p :: m,e :: es=>(e.key=kk p.1∧d.V B w p.2 e.val)∧Ents kk d B w m es
  | _,_=>False
namespace Ents
variable {kk : κ → Value} {d : VK ν} {B : Nat} {w w' : World}
theorem imp {B':Nat} (hk:∀ x v,d.V B w x v→d.V B' w' x v):∀ {m:List (κ×ν)} {es:List MapEntry},Ents kk d B w m es→Ents kk d B' w' m es
  | [],[],_=>trivial
  | _ :: _,_ :: _,h=>⟨⟨h.1.1,hk _ _ h.1.2⟩,imp hk h.2⟩
  | [],_ :: _,h=>h.elim
  | _ :: _,[],h=>h.elim
theorem length:∀ {m:List (κ×ν)} {es:List MapEntry},Ents kk d B w m es→es.length=m.length
  | [],[],_=>rfl
  | _ :: _,_ :: _,h=>by simp[length h.2]
  | [],_ :: _,h=>h.elim
  | _ :: _,[],h=>h.elim
theorem keys:∀ {m:List (κ×ν)} {es:List MapEntry},Ents kk d B w m es→es.map (·.key)=(m.map (·.1)).map kk
  | [],[],_=>rfl
  | _ :: _,_ :: _,h=>by simp only[List.map_cons];rw[keys h.2,h.1.1]
  | [],_ :: _,h=>h.elim
  | _ :: _,[],h=>h.elim
theorem get:∀ {m:List (κ×ν)} {es:List MapEntry} {i:Nat} {e:MapEntry},Ents kk d B w m es→es[i]? = some e→∃ p,m[i]? = some p∧e.key=kk p.1∧d.V B w p.2 e.val
  | p :: _,_ :: _,0,_,h,he=>by simp only[List.getElem?_cons_zero,Option.some.injEq] at he;subst he;exact⟨p,rfl,h.1⟩
  | _ :: _,_ :: _,i+1,_,h,he=>by simp only[List.getElem?_cons_succ] at he ⊢;exact get h.2 he
  | [],[],_,_,_,he=>by simp at he
  | [],_ :: _,_,_,h,_=>h.elim
  | _ :: _,[],_,_,h,_=>h.elim
theorem push {p:κ×ν} {e:MapEntry} (h1:e.key=kk p.1) (h2:d.V B w p.2 e.val):∀ {m:List (κ×ν)} {es:List MapEntry},Ents kk d B w m es→Ents kk d B w (m++[p]) (es++[e])
  | [],[],_=>⟨⟨h1,h2⟩,trivial⟩
  | _ :: _,_ :: _,h=>⟨h.1,push h1 h2 h.2⟩
  | [],_ :: _,h=>h.elim
  | _ :: _,[],h=>h.elim
theorem modify {k:κ} {v:ν} {f:MapEntry→MapEntry} (hk:∀ e,(f e).key=kk k) (hv:∀ e,d.V B w v (f e).val):∀ {m:List (κ×ν)} {es:List MapEntry} (i:Nat),Ents kk d B w m es→Ents kk d B w (m.modify i fun _=>(k,v)) (es.modify i f)
  | [],[],i,_=>by cases i <;> simp[Ents]
  | _ :: _,e :: _,0,h=>⟨⟨hk e,hv e⟩,h.2⟩
  | _ :: _,_ :: _,i+1,h=>⟨h.1,modify hk hv i h.2⟩
  | [],_ :: _,_,h=>h.elim
  | _ :: _,[],_,h=>h.elim
theorem erase:∀ {m:List (κ×ν)} {es:List MapEntry} (i:Nat),Ents kk d B w m es→Ents kk d B w (m.eraseIdx i) (es.eraseIdx i)
  | [],[],i,_=>trivial
  | _ :: _,e :: _,0,h=>h.2
  | _ :: _,_ :: _,i+1,h=>⟨h.1,erase i h.2⟩
  | [],_ :: _,_,h=>h.elim
  | _ :: _,[],_,h=>h.elim
end Ents
structure MapIs (kk:κ→Value) (d:VK ν) (B:Nat) (w:World) (r:Nat) (es:Array MapEntry) (clock:Nat) (m:List (κ×ν)):Prop where
  blk:w.heap[r]? = some (.map es clock)
  ents:Ents kk d B w m es.toList
  nd:(m.map (·.1)).Nodup
  bnd:(es.toList.map (·.born)).Nodup
  bl:∀ e∈es.toList,e.born<clock
theorem MapIs.lt {kk:κ→Value} {d:VK ν} {B:Nat} {w:World} {r:Nat} {es:Array MapEntry} {clock:Nat} {m:List (κ×ν)} (h:MapIs kk d B w r es clock m):r<w.heap.size:=(Array.getElem?_eq_some_iff.1 h.blk).1
theorem MapIs.ty {kk:κ→Value} {d:VK ν} {B:Nat} {w:World} {r:Nat} {es:Array MapEntry} {clock:Nat} {m:List (κ×ν)} (h:MapIs kk d B w r es clock m):Eng.ty w r=some tMap:=by unfold Eng.ty;rw[h.blk]
theorem MapIs.keep {kk:κ→Value} {d:VK ν} {B:Nat} {w w':World} {r:Nat} {es:Array MapEntry} {clock:Nat} {m:List (κ×ν)} (h:MapIs kk d B w r es clock m) (hb:w'.heap[r]? = w.heap[r]?) (hs:Same B d.E w w'):MapIs kk d B w' r es clock m :=
  ⟨hb.trans h.blk,h.ents.imp fun _ _=>d.keep hs,h.nd,h.bnd,h.bl⟩
def Tells (m:List (κ×ν)) (μ:κ→Option ν):Prop:=∀ k v,(k,v)∈m↔μ k=some v
theorem Tells.key {m:List (κ×ν)} {μ:κ→Option ν} (h:Tells m μ) (k:κ):k∈m.map (·.1)↔μ k≠none:=by
  constructor
  · intro hk
    obtain⟨⟨k',v⟩,hp,rfl⟩:=List.mem_map.1 hk
    rw[(h k' v).1 hp];simp
  · intro hk
    cases hv:μ k with
    | none=>exact absurd hv hk
    | some v=>exact List.mem_map.2 ⟨(k,v),(h k v).2 hv,rfl⟩
structure Mp (kk:κ→Value) (d:VK ν) (B B0:Nat) (w:World) (r:Nat) (μ:κ→Option ν):Prop where
  low:B0≤r
  ex:∃ es clock m,MapIs kk d B w r es clock m∧Tells m μ
namespace Mp
variable {kk : κ → Value} {d : VK ν} {B B0 : Nat} {w w' : World} {r : Nat} {μ : κ → Option ν}
theorem keep (h:Mp kk d B B0 w r μ) (hb:r<w.heap.size→w'.heap[r]? = w.heap[r]?) (hs:Same B d.E w w'):Mp kk d B B0 w' r μ:=by
  obtain⟨es,clock,m,hm,ht⟩:=h.ex
  exact⟨h.low,es,clock,m,hm.keep (hb hm.lt) hs,ht⟩
theorem ext (h:Mp kk d B B0 w r μ) (e:Ext w w'):Mp kk d B B0 w' r μ:=h.keep (fun hl=>e.old r hl) (e.same _ _)
theorem mod (h:Mp kk d B B0 w r μ) {B':Nat} {t:TypeId} (m:Mod B' t w w') (hB:B≤B') (ht:t∉tMap :: d.E):Mp kk d B B0 w' r μ:=by
  obtain⟨es,clock,l,hm,hT⟩:=h.ex
  refine⟨h.low,es,clock,l,hm.keep (m.old r hm.lt (.inr ?_)) (m.same hB fun hc=>ht (List.mem_cons_of_mem _ hc)),hT⟩
  rw[hm.ty];intro e;injection e with e;exact ht (by simp[e])
theorem lower {B0':Nat} (h:Mp kk d B B0 w r μ) (hB:B0'≤B0):Mp kk d B B0' w r μ:=⟨Nat.le_trans hB h.low,h.ex⟩
theorem lt (h:Mp kk d B B0 w r μ):r<w.heap.size:=by
  obtain⟨es,clock,m,hm,_⟩:=h.ex
  exact hm.lt
theorem congr {μ':κ→Option ν} (h:Mp kk d B B0 w r μ) (e:∀ k,μ k=μ' k):Mp kk d B B0 w r μ':=by
  have:μ=μ':=funext e
  rw[← this];exact h
end Mp
theorem Il {w w1:World} {r B:Nat} {o o':Obj} {t:TypeId} (hw:w1=w∨w1=w.drew) (hb:w.heap[r]? = some o) (h1:ty w r=some t) (h2:∀ x:World,x.heap[r]? = some o'→ty x r=some t) (hB:B≤r):Mod B t w (setBlock w1 r o'):=by
  have hlt:r<w.heap.size:=(Array.getElem?_eq_some_iff.1 hb).1
  have hheap:w1.heap=w.heap:=by rcases hw with rfl | rfl <;> rfl
  have hne:∀ k,k≠r→(setBlock w1 r o').heap[k]? = w.heap[k]? := fun k hk=>by
    show (w1.heap.setIfInBounds r o')[k]? = _
    rw[hheap,Array.getElem?_setIfInBounds_ne (fun e=>hk e.symm)]
  have hself:(setBlock w1 r o').heap[r]? = some o':=by
    show (w1.heap.setIfInBounds r o')[r]? = _
    rw[hheap];simp[hlt]
  refine⟨?_,fun k hk ho=>hne k fun e=>?_,fun k hk=>?_,?_,?_,?_,?_⟩
  · show w.heap.size ≤ (w1.heap.setIfInBounds r o').size
    rw[hheap];simp
  · subst e
    rcases ho with ho | ho
    · omega
    · exact ho h1
  · by_cases e : k = r
    · subst e;rw[h2 _ hself,h1]
    · exact B7 (hne k e)
  · rcases hw with rfl | rfl
    · exact Nat.le_refl _
    · exact Nat.le_refl _
  all_goals (rcases hw with rfl | rfl <;> rfl)
section
variable [DecidableEq κ] {P : Program} {ops : Array Oper} {Q : Exit → Act → World → Prop} {rest : List Oper} {n : Nat} {f : Nat → Value} {w : World}
variable {ty0 : TypeId} {pos : String} {aft : Array Edge} {dst : Nat} {v u : Value} {x y z : Operand} {T K e : TypeId} {dst' : Option Nat} {gd : Option (Nat × Bool)}
variable {kk : κ → Value} {d : VK ν} {B B0 : Nat} {r : Nat} {μ : κ → Option ν}
theorem Adf (kk:κ→Value) (d:VK ν) (B B0:Nat) (w:World) (hB:B0≤w.heap.size):Mp kk d B B0 (w.alloc (.map #[] 0)) w.heap.size (fun _=>none) :=
  ⟨hB,#[],0,[],⟨heap_alloc_new w _,trivial,List.nodup_nil,List.nodup_nil,by simp⟩,by intro k v;simp⟩
theorem K1 (k:∀ w' g,Ext w w'→(∀ (kk:κ→Value) (d:VK ν) (B B0:Nat),B0≤w.heap.size→Mp kk d B B0 w' g (fun _=>none))→Lst P ops Q rest (fr n (upd f dst (.map (some g)))) w') :
    Lst P ops Q (⟨some dst,.makeMap T none,ty0,pos,aft,none⟩ :: rest) (fr n f) w :=
  l1 (w':=w.alloc (.map #[] 0)) (v := .map (some w.heap.size)) rfl (k _ _ (Ext.alloc _ _) fun kk d B B0 hB=>Adf kk d B B0 w hB)
theorem look (hT:P.underlying T=some (.map K e)) {zv:Value} (hz:(P.info? e).map (·.zero)=some (some zv)) (hK:KeyOk P K kk) (hM:Mp kk d B B0 w r μ) (a:κ) :
    ∃ v,(match μ a with | some b=>d.V B w b v | none=>v=zv)∧∀ {n:Nat} {f:Nat→Value} {x y:Operand} {ty0:TypeId} {pos:String} {aft:Array Edge} {dst':Option Nat} {gd:Option (Nat×Bool)},ev n f x = .map (some r)→ev n f y=kk a →
      Ex P w n f ⟨dst',.lookup T x y false,ty0,pos,aft,gd⟩ v∧Ex P w n f ⟨dst',.lookup T x y true,ty0,pos,aft,gd⟩ (.tuple #[v,.bool (decide (μ a≠none))]):=by
  obtain⟨es,clock,m,hm,ht⟩:=hM.ex
  obtain⟨ii,hi,hs⟩:=Option.map_eq_some_iff.1 hz
  have hzv:(zeroValue e).run P w = .ok zv w:=by simp[zeroValue,typeInfo,hi,hs]
  rcases hK.find w a es.toList _ hm.ents.keys with ⟨h1,h2⟩ | ⟨i,e',h1,h2,h3⟩
  · have hμ : μ a = none := by
      cases hμ:μ a with
      | none=>rfl
      | some b=>exact absurd ((ht.key a).2 (by rw[hμ];simp)) h1
    refine⟨zv,by rw[hμ],fun hx hy=>?_⟩
    unfold Ex execOp
    simp only[hx,hy]
    constructor <;> simp[Instr.lookup,run_underlying hT,MapKept.run_getObj_map hm.blk,hK.check,h2,hzv,Sem.run_bind,hμ]
  · obtain ⟨p, hp, hk, hv⟩ := hm.ents.get h1
    have hpa:p.1=a:=by
      rw[List.getElem?_map,hp] at h2
      simpa using h2
    have hμ:μ a=some p.2:=by
      rw[← hpa];exact(ht _ _).1 (List.mem_of_getElem? hp)
    refine⟨e'.val,by rw[hμ];exact hv,fun hx hy=>?_⟩
    unfold Ex execOp
    simp only[hx,hy]
    constructor <;> simp[Instr.lookup,run_underlying hT,MapKept.run_getObj_map hm.blk,hK.check,h3,Sem.run_bind,hμ]
def mset (μ:κ→Option ν) (k:κ) (v:Option ν):κ→Option ν:=fun k'=>if k'=k then v else μ k'
theorem Ri {α:Type} {l:List α} (hn:l.Nodup) {i j:Nat} {x:α} (hi:l[i]? = some x) (hj:l[j]? = some x):i=j:=by
  obtain⟨a1,b1⟩:=List.getElem?_eq_some_iff.1 hi
  obtain⟨a2,b2⟩:=List.getElem?_eq_some_iff.1 hj
  have hp:=List.pairwise_iff_getElem.1 hn
  rcases Nat.lt_trichotomy i j with h | h | h
  · exact absurd (b1.trans b2.symm) (hp i j a1 a2 h)
  · exact h
  · exact absurd (b2.trans b1.symm) (hp j i a2 a1 h)
theorem Me {l:List (κ×ν)} (hn:(l.map (·.1)).Nodup) {i j:Nat} {p q:κ×ν} (hi:l[i]? = some p) (hj:l[j]? = some q) (h:p.1=q.1):i=j:=by
  have h1:(l.map (·.1))[i]? = some p.1:=by rw[List.getElem?_map,hi];rfl
  have h2:(l.map (·.1))[j]? = some p.1:=by rw[List.getElem?_map,hj,h];rfl
  exact Ri hn h1 h2
theorem Na {a:κ} {b:ν} {v:Value} (hT:P.underlying T=some (.map K e)) (hK:KeyOk P K kk) (hM:Mp kk d B B0 w r μ) (hv:d.V B w b v) (hBB:B≤B0) (hE:tMap∉d.E) :
    ∃ w',(Instr.mapUpdate T (.map (some r)) (kk a) v).run P w = .ok () w'∧Mp kk d B B0 w' r (mset μ a (some b))∧Mod B0 tMap w w'∧∀ k,k≠r→w'.heap[k]? = w.heap[k]? := by
  obtain⟨es,clock,m,hm,ht⟩:=hM.ex
  have hmod:∀ es' clock',Mod B0 tMap w (setBlock w r (.map es' clock')):=fun es' clock'=>Il (.inl rfl) hm.blk hm.ty (fun x hx=>by unfold Eng.ty;rw[hx]) hM.low
  have hself:∀ o,(setBlock w r o).heap[r]? = some o:=fun o=>by show (w.heap.setIfInBounds r o)[r]? = _;simp[hm.lt]
  have hne:∀ o k,k≠r→(setBlock w r o).heap[k]? = w.heap[k]? := fun o k hk=>by show (w.heap.setIfInBounds r o)[k]? = _;rw[Array.getElem?_setIfInBounds_ne (fun e=>hk e.symm)]
  rcases hK.find w a es.toList _ hm.ents.keys with ⟨h1,h2⟩ | ⟨i,e',h1,h2,h3⟩
  · refine ⟨setBlock w r (.map (es.push { key := kk a, val := v, born := clock }) (clock + 1)), ?_, ⟨hM.low, _, _, m ++ [(a, b)], ⟨hself _, ?_, ?_, ?_, ?_⟩, ?_⟩, hmod _ _, hne _⟩
    · simp[Instr.mapUpdate,run_underlying hT,MapKept.run_getObj_map hm.blk,hK.check,h2,Sem.run_bind,MapKept.run_setObj_map _ hm.blk,setBlock]
    · rw [Array.toList_push]
      exact Ents.push (kk:=kk) (p:=(a,b)) (e:={ key:=kk a,val:=v,born:=clock }) rfl (d.keep ((hmod _ _).same hBB hE) hv) (hm.ents.imp fun _ _=>d.keep ((hmod _ _).same hBB hE))
    · rw [List.map_append]
      exact List.nodup_append.2 ⟨hm.nd,by simp,by simp only[List.map_cons,List.map_nil,List.mem_singleton];rintro x hx y rfl rfl;exact h1 hx⟩
    · rw [Array.toList_push, List.map_append]
      refine List.nodup_append.2 ⟨hm.bnd,by simp,?_⟩
      simp only[List.map_cons,List.map_nil,List.mem_singleton]
      rintro x hx y rfl rfl
      obtain⟨e0,he0,e1⟩:=List.mem_map.1 hx
      have:=hm.bl e0 he0
      omega
    · intro e0 he0
      rw[Array.toList_push,List.mem_append] at he0
      rcases he0 with he0 | he0
      · have:=hm.bl e0 he0;omega
      · simp only[List.mem_singleton] at he0;subst he0;exact Nat.lt_succ_self _
    · intro k' v'
      unfold mset
      by_cases hk:k'=a
      · subst hk
        rw[if_pos rfl,List.mem_append]
        constructor
        · rintro (hc | hc)
          · exact absurd (List.mem_map.2 ⟨_,hc,rfl⟩) h1
          · simp at hc;rw[hc]
        · intro hc;injection hc with hc;subst hc;simp
      · rw [if_neg hk, List.mem_append, ← ht k' v']
        simp[hk]
  · obtain ⟨p, hp, hk, hvv⟩ := hm.ents.get h1
    have hpa:p.1=a:=by
      rw[List.getElem?_map,hp] at h2
      simpa using h2
    have h1':es[i]? = some e':=by rw[← Array.getElem?_toList];exact h1
    have hold:(((es[i]?).map (·.key)).getD (kk a))=kk a:=by rw[h1'];show e'.key=_;rw[hk,hpa]
    refine⟨setBlock w r (.map (es.modify i fun e=>{ e with key:=kk a,val:=v }) clock),?_,⟨hM.low,_,_,m.modify i fun _=>(a,b),⟨hself _,?_,?_,?_,?_⟩,?_⟩,hmod _ _,hne _⟩
    · simp[Instr.mapUpdate,run_underlying hT,MapKept.run_getObj_map hm.blk,hK.check,h3,Sem.run_bind,hold,Instr.keyThatStays,hK.bits,MapKept.run_setObj_map _ hm.blk,setBlock]
    · rw [Array.toList_modify]
      exact Ents.modify (kk:=kk) (k:=a) (v:=b) (f:=fun e=>{ e with key:=kk a,val:=v }) (fun _=>rfl) (fun _=>d.keep ((hmod _ _).same hBB hE) hv) i (hm.ents.imp fun _ _=>d.keep ((hmod _ _).same hBB hE))
    · have : (m.modify i fun _ => (a, b)).map (·.1) = m.map (·.1) := by
        apply List.ext_getElem?
        intro j
        rw[List.getElem?_map,List.getElem?_modify,List.getElem?_map]
        by_cases hij:i=j
        · subst hij;rw[hp];simp[hpa]
        · simp[hij]
      rw[this];exact hm.nd
    · have : (es.modify i fun e => { e with key := kk a, val := v }).toList.map (·.born) = es.toList.map (·.born) := by
        rw[Array.toList_modify]
        apply List.ext_getElem?
        intro j
        rw[List.getElem?_map,List.getElem?_modify,List.getElem?_map]
        by_cases hij:i=j
        · subst hij;rw[h1];simp
        · simp[hij]
      rw[this];exact hm.bnd
    · intro e0 he0
      rw[Array.toList_modify] at he0
      obtain⟨j,hj⟩:=List.mem_iff_getElem?.1 he0
      rw[List.getElem?_modify] at hj
      obtain⟨e1,he1,e2⟩:=Option.map_eq_some_iff.1 hj
      have hb:=hm.bl e1 (List.mem_of_getElem? he1)
      rw[← e2]
      split <;> exact hb
    · intro k' v'
      unfold mset
      rw[List.mem_iff_getElem?]
      simp only[List.getElem?_modify]
      by_cases hk':k'=a
      · subst hk'
        rw[if_pos rfl]
        constructor
        · rintro ⟨j, hj⟩
          by_cases hij:i=j
          · subst hij
            rw[hp] at hj;simp at hj;rw[hj]
          · simp only [hij, if_false, Option.map_eq_map, Option.map_id'] at hj
            exact absurd (Me hm.nd hp (by simpa using hj) (by rw[hpa])) hij
        · intro hc; injection hc with hc; subst hc
          exact⟨i,by rw[hp];simp⟩
      · rw [if_neg hk', ← ht k' v', List.mem_iff_getElem?]
        constructor
        · rintro ⟨j, hj⟩
          by_cases hij:i=j
          · subst hij
            rw[hp] at hj;simp at hj;exact absurd hj.1.symm hk'
          · exact⟨j,by simpa [hij] using hj⟩
        · rintro ⟨j, hj⟩
          have hij:¬ i=j:=fun q=>by subst q;rw[hp] at hj;injection hj with hj;rw[hj] at hpa;exact hk' hpa
          exact⟨j,by simpa [hij] using hj⟩
theorem V0 {a:κ} {b:ν} {v:Value} (hT:P.underlying T=some (.map K e)) (hK:KeyOk P K kk) (hM:Mp kk d B B0 w r μ) (hv:d.V B w b v) (hBB:B≤B0) (hE:tMap∉d.E) :
    ∃ w',(Instr.mapUpdate T (.map (some r)) (kk a) v).run P w = .ok () w'∧Mp kk d B B0 w' r (mset μ a (some b))∧Mod B0 tMap w w':=by
  obtain⟨w',h1,h2,h3,_⟩:=Na (a:=a) hT hK hM hv hBB hE
  exact⟨w',h1,h2,h3⟩
theorem Aaw {a:κ} {b:ν} (hT:P.underlying T=some (.map K e)) (hK:KeyOk P K kk) (hx:ev n f x = .map (some r)) (hy:ev n f y=kk a) (hz:ev n f z=v) (hM:Mp kk d B B0 w r μ) (hv:d.V B w b v) (hBB:B≤B0) (hE:tMap∉d.E)
    (k:∀ w',Mp kk d B B0 w' r (mset μ a (some b))→Mod B0 tMap w w'→Lst P ops Q rest (fr n f) w'):Lst P ops Q (⟨none,.mapUpdate T x y z,ty0,pos,aft,none⟩ :: rest) (fr n f) w:=by
  obtain⟨w',hr,h1,h2⟩:=V0 (a:=a) hT hK hM hv hBB hE
  refine l0 (w':=w') ?_ (k w' h1 h2)
  simp only[execOp,hx,hy,hz,Sem.run_bind,hr,Result.andThen_ok]
  rfl
theorem Fs {a:κ} {b:ν} (hT:P.underlying T=some (.map K e)) (hK:KeyOk P K kk) (hx:ev n f x = .map (some r)) (hy:ev n f y=kk a) (hz:ev n f z=v) (hM:Mp kk d B B0 w r μ) (hv:d.V B w b v) (hBB:B≤B0) (hE:tMap∉d.E)
    (k:∀ w',Mp kk d B B0 w' r (mset μ a (some b))→Mod B0 tMap w w'→(∀ k,k≠r→w'.heap[k]? = w.heap[k]?)→Lst P ops Q rest (fr n f) w'):Lst P ops Q (⟨none,.mapUpdate T x y z,ty0,pos,aft,none⟩ :: rest) (fr n f) w:=by
  obtain⟨w',hr,h1,h2,h3⟩:=Na (a:=a) hT hK hM hv hBB hE
  refine l0 (w':=w') ?_ (k w' h1 h2 h3)
  simp only[execOp,hx,hy,hz,Sem.run_bind,hr,Result.andThen_ok]
  rfl
theorem Rb {a:κ} {tk:TypeId} (hT:P.underlying T=some (.map K e)) (hK:KeyOk P K kk) (hx:ev n f x = .map (some r)) (hy:ev n f y=kk a) (hM:Mp kk d B B0 w r μ) (hBB:B≤B0) (hE:tMap∉d.E)
    (k:∀ w',Mp kk d B B0 w' r (mset μ a none)→Mod B0 tMap w w'→(∀ k,k≠r→w'.heap[k]? = w.heap[k]?)→Lst P ops Q rest (fr n f) w'):Lst P ops Q (⟨none,.call ⟨.builtin .delete,#[x,y],#[T,tk]⟩,ty0,pos,aft,none⟩ :: rest) (fr n f) w:=by
  obtain⟨es,clock,m,hm,ht⟩:=hM.ex
  have hmod:∀ es' clock',Mod B0 tMap w (setBlock w r (.map es' clock')):=fun es' clock'=>Il (.inl rfl) hm.blk hm.ty (fun x hx=>by unfold Eng.ty;rw[hx]) hM.low
  have hself:∀ o,(setBlock w r o).heap[r]? = some o:=fun o=>by show (w.heap.setIfInBounds r o)[r]? = _;simp[hm.lt]
  have hne:∀ o k,k≠r→(setBlock w r o).heap[k]? = w.heap[k]? := fun o k hk=>by show (w.heap.setIfInBounds r o)[k]? = _;rw[Array.getElem?_setIfInBounds_ne (fun e=>hk e.symm)]
  rcases hK.find w a es.toList _ hm.ents.keys with ⟨h1,h2⟩ | ⟨i,e',h1,h2,h3⟩
  · have hμ : μ a = none := by
      cases hμ:μ a with
      | none=>rfl
      | some b=>exact absurd ((ht.key a).2 (by rw[hμ];simp)) h1
    refine l1n (w':=setBlock w r (.map es clock)) (v := .tuple #[]) ?_ (k _ ⟨hM.low,es,clock,m,⟨hself _,hm.ents.imp fun _ _=>d.keep ((hmod _ _).same hBB hE),hm.nd,hm.bnd,hm.bl⟩,fun k' v'=>?_⟩ (hmod _ _) (hne _))
    · simp only [execOp, resolve, invoke, builtin, Sem.run_bind, Sem.run_pure, Result.andThen_ok, List.map_toArray, List.map_cons, List.map_nil, hx, hy]
      simp[Builtin.delete_,run_underlying hT,MapKept.run_getObj_map hm.blk,hK.check,h2,Sem.run_bind,MapKept.run_setObj_map _ hm.blk,setBlock]
    · unfold mset
      by_cases hk:k'=a
      · subst hk;rw[if_pos rfl,ht,hμ]
      · rw[if_neg hk,ht]
  · obtain ⟨p, hp, hk, hvv⟩ := hm.ents.get h1
    have hpa:p.1=a:=by
      rw[List.getElem?_map,hp] at h2
      simpa using h2
    have hil:i<es.toList.length:=(List.getElem?_eq_some_iff.1 h1).1
    have her:(es.eraseIdxIfInBounds i).toList=es.toList.eraseIdx i:=by
      unfold Array.eraseIdxIfInBounds
      rw[dif_pos (by simpa using hil)]
      exact Array.toList_eraseIdx
    have hsub:(es.toList.eraseIdx i).Sublist es.toList:=List.eraseIdx_sublist _ _
    refine l1n (w':=setBlock w r (.map (es.eraseIdxIfInBounds i) clock)) (v := .tuple #[]) ?_ (k _ ⟨hM.low,_,clock,m.eraseIdx i,⟨hself _,?_,?_,?_,?_⟩,fun k' v'=>?_⟩ (hmod _ _) (hne _))
    · simp only [execOp, resolve, invoke, builtin, Sem.run_bind, Sem.run_pure, Result.andThen_ok, List.map_toArray, List.map_cons, List.map_nil, hx, hy]
      simp[Builtin.delete_,run_underlying hT,MapKept.run_getObj_map hm.blk,hK.check,h3,Sem.run_bind,MapKept.run_setObj_map _ hm.blk,setBlock]
    · rw[her];exact(hm.ents.imp fun _ _=>d.keep ((hmod _ _).same hBB hE)).erase i
    · exact((List.eraseIdx_sublist m i).map _).nodup hm.nd
    · rw[her];exact(hsub.map _).nodup hm.bnd
    · intro e0 he0;rw[her] at he0;exact hm.bl e0 (hsub.subset he0)
    · unfold mset
      rw[List.mem_eraseIdx_iff_getElem?]
      by_cases hk':k'=a
      · subst hk'
        rw[if_pos rfl]
        constructor
        · rintro ⟨j, hne, hj⟩
          exact absurd (Me hm.nd hj hp (by rw[hpa])) hne
        · intro hc;cases hc
      · rw [if_neg hk', ← ht k' v', List.mem_iff_getElem?]
        constructor
        · rintro⟨j,_,hj⟩;exact⟨j,hj⟩
        · rintro ⟨j, hj⟩
          exact⟨j,fun q=>by subst q;rw[hp] at hj;injection hj with hj;rw[hj] at hpa;exact hk' hpa,hj⟩
structure Rg (kk:κ→Value) (d:VK ν) (B B0:Nat) (w:World) (r it:Nat) (μ:κ→Option ν) (vs:List κ):Prop where
  low:B0≤it
  nd:vs.Nodup
  sub:∀ k∈vs,μ k≠none
  ex:∃ es clock m since seen c0,MapIs kk d B w r es clock m∧Tells m μ∧w.heap[it]? = some (.mapIter (some r) since seen c0)∧(∀ e∈es.toList,e.born<since)∧since≤c0∧since≤clock ∧
    (∀ (i:Nat) (e:MapEntry) (p:κ×ν),es.toList[i]? = some e→m[i]? = some p→(e.born∈seen↔p.1∈vs)) ∧
    (∀ a,vs.getLast? = some a→c0=clock∧∃ (i:Nat) (e:MapEntry) (b:ν) (seen':Array Nat),es.toList[i]? = some e∧m[i]? = some (a,b)∧seen=Array.push seen' e.born)
namespace Rg
variable {vs : List κ} {it : Nat} {w' : World}
theorem keep (h:Rg kk d B B0 w r it μ vs) (hb:r<w.heap.size→w'.heap[r]? = w.heap[r]?) (hi:it<w.heap.size→w'.heap[it]? = w.heap[it]?) (hs:Same B d.E w w'):Rg kk d B B0 w' r it μ vs:=by
  obtain⟨es,clock,m,since,seen,c0,hm,ht,h1,h2⟩:=h.ex
  exact⟨h.low,h.nd,h.sub,es,clock,m,since,seen,c0,hm.keep (hb hm.lt) hs,ht,(hi (Array.getElem?_eq_some_iff.1 h1).1).trans h1,h2⟩
theorem ext (h:Rg kk d B B0 w r it μ vs) (e:Ext w w'):Rg kk d B B0 w' r it μ vs:=h.keep (fun hl=>e.old r hl) (fun hl=>e.old it hl) (e.same _ _)
theorem mod (h:Rg kk d B B0 w r it μ vs) {B':Nat} {t:TypeId} (m:Mod B' t w w') (hB:B≤B') (ht:t∉tMap :: tIter :: d.E):Rg kk d B B0 w' r it μ vs:=by
  obtain⟨es,clock,l,since,seen,c0,hm,hT,h1,h2⟩:=h.ex
  have hi:ty w it=some tIter:=by unfold Eng.ty;rw[h1]
  refine h.keep (fun hl=>m.old r hl (.inr ?_)) (fun hl=>m.old it hl (.inr ?_)) (m.same hB fun hc=>ht (by simp[hc]))
  · rw[hm.ty];intro e;injection e with e;exact ht (by simp[e])
  · rw[hi];intro e;injection e with e;exact ht (by simp[e])
theorem mp (h:Rg kk d B B0 w r it μ vs) (B1:Nat) (hr:B1≤r):Mp kk d B B1 w r μ:=by
  obtain⟨es,clock,m,since,seen,c0,hm,ht,_⟩:=h.ex
  exact⟨hr,es,clock,m,hm,ht⟩
end Rg
theorem Ss (hT:P.underlying T=some (.map K e)) (hx:ev n f x = .map (some r)) (hM:Mp kk d B B0 w r μ)
    (k:∀ w' it,Ext w w'→it=w.heap.size→(∀ B1,B1≤w.heap.size→Rg kk d B B1 w' r it μ [])→Lst P ops Q rest (fr n (upd f dst (.pointer (some ⟨it,0,none⟩)))) w') :
    Lst P ops Q (⟨some dst,.range T x,ty0,pos,aft,none⟩ :: rest) (fr n f) w:=by
  obtain⟨es,clock,m,hm,ht⟩:=hM.ex
  have hx':=Ext.alloc w (.mapIter (some r) clock #[] clock)
  refine l1 (w':=w.alloc (.mapIter (some r) clock #[] clock)) (v := .pointer (some ⟨w.heap.size,0,none⟩)) ?_ (k _ _ hx' rfl fun B1 hB=>⟨hB,List.nodup_nil,by simp,es,clock,m,clock,#[],clock,hm.keep (hx'.old r hm.lt) (hx'.same _ _),ht,heap_alloc_new w _,hm.bl,Nat.le_refl _,Nat.le_refl _,by simp,by simp⟩)
  simp only[execOp,hx,Sem.run_bind,run_range_map (P:=P) w T K e r es clock hT hm.blk,Result.andThen_ok]
  rfl
theorem Wi {it:Nat} {vs:List κ} (hx:ev n f x = .pointer (some ⟨it,0,none⟩)) (hR:Rg kk d B B0 w r it μ vs) (hBB:B≤B0) (hE:tIter∉d.E)
    (kf:(∀ a,μ a≠none→a∈vs)→Lst P ops Q rest (fr n (upd f dst (.tuple #[.bool false]))) w)
    (kt:∀ w' a b v,a∉vs→μ a=some b→Rg kk d B B0 w' r it μ (vs++[a])→Mod B0 tIter w w'→Lst P ops Q rest (fr n (upd f dst (.tuple #[.bool true,kk a,v]))) w') :
    Lst P ops Q (⟨some dst,.next x false,ty0,pos,aft,none⟩ :: rest) (fr n f) w:=by
  obtain⟨es,clock,m,since,seen,c0,hm,ht,hi,hold,hsc,hsc',hseen,_⟩:=hR.ex
  have hti:ty w it=some tIter:=by unfold Eng.ty;rw[hi]
  rcases run_next_at (P:=P) w ty0 it r since c0 seen es clock hi hm.blk hold hsc with ⟨h0,hr⟩ | ⟨e',he',w1,hw1,hr⟩
  · refine l1 (w' := w) (v := .tuple #[.bool false]) ?_ (kf fun a ha => ?_)
    · simp only[execOp,hx,Sem.run_bind,hr,Result.andThen_ok];rfl
    · obtain ⟨i, hi'⟩ := List.mem_iff_getElem?.1 ((ht.key a).2 ha)
      rw[List.getElem?_map] at hi'
      obtain⟨p,hp,hpa⟩:=Option.map_eq_some_iff.1 hi'
      have hlt:i<es.toList.length:=by rw[hm.ents.length];exact(List.getElem?_eq_some_iff.1 hp).1
      have hei:es.toList[i]? = some es.toList[i]:=List.getElem?_eq_getElem hlt
      rw[← hpa,← hseen i _ p hei hp]
      have hL:leftOf es seen=#[]:=Array.eq_empty_of_size_eq_zero h0
      unfold leftOf at hL
      rw[Array.filter_eq_empty_iff] at hL
      have:=hL es.toList[i] (by rw[← Array.mem_toList_iff];exact List.getElem_mem _)
      simpa using this
  · have hmem : e' ∈ es.toList ∧ ¬ e'.born ∈ seen := by
      unfold leftOf at he'
      simp at he'
      exact⟨by simpa using he'.1,he'.2⟩
    obtain⟨i,hei⟩:=List.mem_iff_getElem?.1 hmem.1
    obtain⟨p,hp,hkey,hval⟩:=hm.ents.get hei
    have hnv:p.1∉vs:=fun hc=>hmem.2 ((hseen i e' p hei hp).2 hc)
    have hμ:μ p.1=some p.2:=(ht _ _).1 (List.mem_of_getElem? hp)
    have hmod:Mod B0 tIter w (setBlock w1 it (.mapIter (some r) since (seen.push e'.born) clock)):=Il hw1 hi hti (fun x hx=>by unfold Eng.ty;rw[hx]) hR.low
    have hne:r≠it:=fun q=>by subst q;have:=hm.blk.symm.trans hi;simp at this
    have hheap:w1.heap=w.heap:=by rcases hw1 with rfl | rfl <;> rfl
    have hblk':(setBlock w1 it (.mapIter (some r) since (seen.push e'.born) clock)).heap[r]? = w.heap[r]? := by
      show (w1.heap.setIfInBounds it _)[r]? = _
      rw[hheap,Array.getElem?_setIfInBounds_ne (fun q=>hne q.symm)]
    have hit':(setBlock w1 it (.mapIter (some r) since (seen.push e'.born) clock)).heap[it]? = some (.mapIter (some r) since (seen.push e'.born) clock):=by
      show (w1.heap.setIfInBounds it _)[it]? = _
      rw[hheap]
      simp[(Array.getElem?_eq_some_iff.1 hi).1]
    have hs:=hmod.same (B':=B) (E:=d.E) hBB hE
    have hm':=hm.keep hblk' hs
    refine l1 (w':=setBlock w1 it (.mapIter (some r) since (seen.push e'.born) clock)) (v := .tuple #[.bool true,kk p.1,e'.val]) ?_
      (kt _ p.1 p.2 e'.val hnv hμ ⟨hR.low,?_,?_,es,clock,m,since,seen.push e'.born,clock,hm',ht,hit',hold,hsc',hsc',?_,?_⟩ hmod)
    · rw [← hkey]
      simp only[execOp,hx,Sem.run_bind,hr,Result.andThen_ok];rfl
    · exact List.nodup_append.2 ⟨hR.nd,by simp,by simp only[List.mem_singleton];rintro a ha b rfl rfl;exact hnv ha⟩
    · intro a ha
      rcases List.mem_append.1 ha with ha | ha
      · exact hR.sub a ha
      · simp only[List.mem_singleton] at ha;subst ha;rw[hμ];simp
    · intro j e2 p2 hj1 hj2
      rw[Array.mem_push,hseen j e2 p2 hj1 hj2,List.mem_append,List.mem_singleton]
      refine or_congr Iff.rfl ⟨fun q=>?_,fun q=>?_⟩
      · have h3 : (es.toList.map (·.born))[j]? = some e'.born := by rw [List.getElem?_map, hj1]; simp [q]
        have h4:(es.toList.map (·.born))[i]? = some e'.born:=by rw[List.getElem?_map,hei];rfl
        have:j=i:=Ri hm.bnd h3 h4
        subst this
        rw[hp] at hj2;injection hj2 with hj2;rw[hj2]
      · have : j = i := Me hm.nd hj2 hp q
        subst this
        rw[hei] at hj1;injection hj1 with hj1;rw[hj1]
    · intro a ha
      rw[List.getLast?_append] at ha
      simp at ha
      subst ha
      exact⟨rfl,i,e',p.2,seen,hei,hp,rfl⟩
theorem Rg.entry {it:Nat} {us:List κ} {a:κ} (hR:Rg kk d B B0 w r it μ (us++[a])):∃ b v,μ a=some b∧d.V B w b v∧∀ {P:Program} {n:Nat} {f:Nat→Value} {x:Operand} {ty0:TypeId} {pos:String} {aft:Array Edge} {dst':Option Nat} {gd:Option (Nat×Bool)},
    ev n f x = .pointer (some ⟨it,0,none⟩)→Ex P w n f ⟨dst',.entry x,ty0,pos,aft,gd⟩ (.tuple #[kk a,v]):=by
  obtain⟨es,clock,m,since,seen,c0,hm,ht,hi,hold,hsc,hsc',hseen,hlast⟩:=hR.ex
  obtain⟨rfl,i,e',b,seen',hei,hp,rfl⟩:=hlast a (by simp)
  obtain⟨p,hp',hkey,hval⟩:=hm.ents.get hei
  rw[hp] at hp';injection hp' with hp';subst hp'
  refine⟨b,e'.val,(ht _ _).1 (List.mem_of_getElem? hp),hval,@fun P n f x ty0 pos aft dst' gd hx=>?_⟩
  have:=run_entry_at (P:=P) w it r since seen' es c0 e' hi hm.blk (List.mem_of_getElem? hei) hm.bnd
  unfold Ex execOp
  simp only[hx,Sem.run_bind,this,Result.andThen_ok,hkey]
  rfl
end
end
structure One (t:TypeId) (r:Nat) (w w':World):Prop where
  size:w.heap.size≤w'.heap.size
  old:∀ k,k<w.heap.size→k≠r→w'.heap[k]? = w.heap[k]?
  was:ty w r=some t
  now:ty w' r=some t
  drawn:drw w≤drw w'
  os:w'.os=w.os
  tape:w'.tape=w.tape
  output:w'.output=w.output
theorem Put.one {w w':World} {g:Nat} {cs:Array Value} {t:TypeId} (h:Put w w' g cs t):One t g w w' :=
  ⟨by rw[h.size];exact Nat.le_refl _,fun k _ hk=>h.old k hk,h.was,h.blk.ty,by rw[h.drawn];exact Nat.le_refl _,h.os,h.tape,h.output⟩
theorem One.ofMod {B r:Nat} {t:TypeId} {w w':World} (m:Mod B t w w') (hr:ty w r=some t) (ho:∀ k,k≠r→w'.heap[k]? = w.heap[k]?):One t r w w' :=
  have hlt:r<w.heap.size:=by
    unfold Eng.ty at hr
    rcases Nat.lt_or_ge r w.heap.size with h | h
    · exact h
    · rw[Array.getElem?_eq_none h] at hr;cases hr
  ⟨m.size,fun k _ hk=>ho k hk,hr,(m.tys r hlt).trans hr,m.drawn,m.os,m.tape,m.output⟩
def grow (S:Nat→Prop) (w w':World):Nat→Prop:=fun j=>S j∨(w.heap.size≤j∧j<w'.heap.size)
structure ModS (S:Nat→Prop) (E:List TypeId) (w w':World):Prop where
  size:w.heap.size≤w'.heap.size
  old:∀ k,k<w.heap.size→(¬ S k∨∀ t∈E,ty w k≠some t)→w'.heap[k]? = w.heap[k]?
  tys:∀ k,k<w.heap.size→ty w' k=ty w k
  drawn:drw w≤drw w'
  os:w'.os=w.os
  tape:w'.tape=w.tape
  output:w'.output=w.output
section
variable {S S' : Nat → Prop} {E : List TypeId} {a b c w w' w0 : World} {t : TypeId} {B r : Nat}
theorem ModS.refl (S:Nat→Prop) (E:List TypeId) (w:World):ModS S E w w:=⟨Nat.le_refl _,fun _ _ _=>rfl,fun _ _=>rfl,Nat.le_refl _,rfl,rfl,rfl⟩
theorem ModS.trans (h:ModS S E a b) (k:ModS S' E b c) (hS:∀ j,j<a.heap.size→S' j→S j):ModS S E a c :=
  ⟨Nat.le_trans h.size k.size,fun i hi ho=>(k.old i (Nat.lt_of_lt_of_le hi h.size) (ho.imp (fun hn hs=>hn (hS i hi hs)) fun e=>by rw[h.tys i hi];exact e)).trans (h.old i hi ho),
    fun i hi=>(k.tys i (Nat.lt_of_lt_of_le hi h.size)).trans (h.tys i hi),Nat.le_trans h.drawn k.drawn,k.os.trans h.os,k.tape.trans h.tape,k.output.trans h.output⟩
theorem G8 {j:Nat} (h:grow S a b j) (hj:j<a.heap.size):S j:=h.resolve_right fun ⟨h1,_⟩=>by omega
theorem ModS.step (h:ModS S E a b) (k:ModS (grow S a b) E b c):ModS S E a c:=h.trans k fun j hj hs=>G8 hs hj
theorem ModS.ofExt (h:Ext a b):ModS S E a b:=⟨h.size,fun k hk _=>h.old k hk,fun k hk=>B7 (h.old k hk),h.drawn,h.os,h.tape,h.output⟩
theorem ModS.ext (h:ModS S E a b) (k:Ext b c):ModS S E a c:=h.trans (.ofExt (S:=S) k) fun _ _ h=>h
theorem ModS.one (h:ModS S E a b) (m:One t r b c) (hr:(S r∨a.heap.size≤r)∧t∈E):ModS S E a c :=
  ⟨Nat.le_trans h.size m.size,fun k hk ho=>by
    by_cases e:k=r
    · subst e
      exfalso
      rcases ho with ho | ho
      · rcases hr.1 with h1 | h1
        · exact ho h1
        · omega
      · exact ho t hr.2 (by rw[← h.tys k hk];exact m.was)
    · exact(m.old k (Nat.lt_of_lt_of_le hk h.size) e).trans (h.old k hk ho),
   fun k hk=>by
    by_cases e:k=r
    · subst e;rw[m.now,← h.tys k hk,m.was]
    · exact(B7 (m.old k (Nat.lt_of_lt_of_le hk h.size) e)).trans (h.tys k hk),Nat.le_trans h.drawn m.drawn,m.os.trans h.os,m.tape.trans h.tape,m.output.trans h.output⟩
theorem ModS.put {g:Nat} {cs:Array Value} (h:ModS S E a b) (p:Put b c g cs t) (hg:(S g∨a.heap.size≤g)∧t∈E):ModS S E a c:=h.one p.one hg
theorem ModS.new {g:Nat} {cs:Array Value} (h:ModS S E a b) (p:Put b c g cs t) (hg:a.heap.size≤g):ModS S E a c :=
  ⟨Nat.le_trans h.size (by rw[p.size];exact Nat.le_refl _),fun k hk ho=>(p.old k (by omega)).trans (h.old k hk ho),fun k hk=>(B7 (p.old k (by omega))).trans (h.tys k hk),by rw[p.drawn];exact h.drawn,p.os.trans h.os,p.tape.trans h.tape,p.output.trans h.output⟩
theorem ModS.mod (h:ModS S E a b) (m:Mod B t b c) (hB:a.heap.size≤B):ModS S E a c :=
  ⟨Nat.le_trans h.size m.size,fun k hk ho=>(m.old k (Nat.lt_of_lt_of_le hk h.size) (.inl (by omega))).trans (h.old k hk ho),fun k hk=>(m.tys k (Nat.lt_of_lt_of_le hk h.size)).trans (h.tys k hk),Nat.le_trans h.drawn m.drawn,m.os.trans h.os,m.tape.trans h.tape,m.output.trans h.output⟩
theorem ModS.mono (h:ModS S E a b) (hS:∀ j,j<a.heap.size→S j→S' j):ModS S' E a b :=
  ⟨h.size,fun k hk ho=>h.old k hk (ho.imp (fun hn hs=>hn (hS k hk hs)) id),h.tys,h.drawn,h.os,h.tape,h.output⟩
theorem Ext.modS (h:Ext w0 w) (m:ModS S E w w') (hS:∀ k,S k→w0.heap.size≤k):Ext w0 w' :=
  ⟨Nat.le_trans h.size m.size,fun k hk=>(m.old k (Nat.lt_of_lt_of_le hk h.size) (.inl fun hs=>by have:=hS k hs;omega)).trans (h.old k hk),m.os.trans h.os,m.tape.trans h.tape,m.output.trans h.output,Nat.le_trans h.drawn m.drawn⟩
theorem Blk.modS {g:Nat} {cs:Array Value} {u:TypeId} (h:Blk w g cs u) (m:ModS S E w w') (hu:¬ S g∨u∉E):Blk w' g cs u :=
  (m.old g h.lt (hu.imp id fun hu t ht e=>hu (by rw[h.ty] at e;injection e with e;rw[e];exact ht))).trans h
theorem Blk.one {g:Nat} {cs:Array Value} {u:TypeId} (h:Blk w g cs u) (m:One t r w w') (hu:u≠t):Blk w' g cs u :=
  (m.old g h.lt fun e=>hu (by have:=m.was;rw[← e,h.ty] at this;injection this)).trans h
theorem ModS.same (m:ModS S E w w') {F:List TypeId} (hS:∀ k,S k→B≤k) (hE:∀ t∈E,t∉F):Same B F w w':=fun k hk ho=>m.old k hk (ho.elim (fun h => .inl fun hs=>by have:=hS k hs;omega) fun ⟨u,hu,e⟩ => .inr fun t ht q=>by
  rw[e] at q;injection q with q;subst q;exact hE _ ht hu)
variable {α : Type} {d : Kind α} {e : TypeId} {B0 : Nat} {p : Option Addr} {n cc : Nat} {xs : List α}
theorem Sl.modS (h:Sl d e B w p n cc xs) (m:ModS S E w w') (hS:∀ k,S k→B≤k) (hE:∀ t∈E,t∉e :: d.E):Sl d e B w' p n cc xs:=h.keep (m.same hS hE)
def fk:TypeId:=4000000000
theorem Sl.re (h:Sl d e B w p n cc xs) (hB:w.heap.size≤B) (e':TypeId):Sl d e' B w p n cc xs:=by
  obtain⟨css,ha,hr⟩:=h.row
  exact⟨h.len,h.cap,h.fit,css,ha,hr.row,fun hne => .inl (Nat.lt_of_lt_of_le (hr.row.lt hne) hB)⟩
end
structure FB (S:Nat→Prop) (w:World) (p:Option Addr) (n c:Nat) (xs:List UInt8):Prop where
  len:xs.length=n
  ok:(p=none∧n=0∧c=0)∨∃ g cur,p=some ⟨g,0,none⟩∧S g∧Blk w g cur 5∧n≤c∧c≤cur.size∧c≤9223372036854775807∧cur.toList.take n=xs.map cell
namespace FB
variable {S S' : Nat → Prop} {w w' : World} {p : Option Addr} {n c : Nat} {xs : List UInt8} {t : TypeId} {r : Nat}
theorem nil (S:Nat→Prop) (w:World):FB S w none 0 0 []:=⟨rfl,.inl ⟨rfl,rfl,rfl⟩⟩
theorem keep (h:FB S w p n c xs) (hb:∀ g,p=some ⟨g,0,none⟩→g<w.heap.size→w'.heap[g]? = w.heap[g]?):FB S w' p n c xs :=
  ⟨h.len,h.ok.imp id fun ⟨g,cur,h1,h2,h3,h4⟩=>⟨g,cur,h1,h2,(hb g h1 h3.lt).trans h3,h4⟩⟩
theorem ext (h:FB S w p n c xs) (x:Ext w w'):FB S w' p n c xs:=h.keep fun g _ hg=>x.old g hg
theorem tyOf (h:FB S w p n c xs) {g:Nat} (hp:p=some ⟨g,0,none⟩):ty w g=some 5:=by
  rcases h.ok with ⟨h1,_⟩ | ⟨g',cur,h1,h2,h3,_⟩
  · rw[h1] at hp;cases hp
  · rw[h1] at hp;injection hp with hp;injection hp with hp;subst hp;exact h3.ty
theorem inS (h:FB S w p n c xs) {g:Nat} (hp:p=some ⟨g,0,none⟩):S g∧g<w.heap.size:=by
  rcases h.ok with ⟨h1,_⟩ | ⟨g',cur,h1,h2,h3,_⟩
  · rw[h1] at hp;cases hp
  · rw[h1] at hp;injection hp with hp;injection hp with hp;subst hp;exact⟨h2,h3.lt⟩
theorem one (h:FB S w p n c xs) (m:One t r w w') (ht:t≠5):FB S w' p n c xs :=
  h.keep fun g hp hg=>m.old g hg fun e=>by have:=h.tyOf hp;rw[e,m.was] at this;injection this with this;exact ht this
theorem modT (h:FB S w p n c xs) {B:Nat} (m:Mod B t w w') (ht:t≠5):FB S w' p n c xs :=
  h.keep fun g hp hg=>m.old g hg (.inr (by rw[h.tyOf hp];intro e;injection e with e;exact ht e.symm))
theorem mono (h:FB S w p n c xs) (hS:∀ k,k<w.heap.size→S k→S' k):FB S' w p n c xs :=
  ⟨h.len,h.ok.imp id fun ⟨g,cur,h1,h2,h3,h4⟩=>⟨g,cur,h1,hS g h3.lt h2,h3,h4⟩⟩
theorem cap (h:FB S w p n c xs):n≤c∧c≤9223372036854775807:=by
  rcases h.ok with ⟨_,h1,h2⟩ | ⟨g,cur,_,_,_,h1,_,h2,_⟩
  · omega
  · exact⟨h1,h2⟩
theorem cut (h:FB S w p n c xs) (m:Nat) (hm:m≤n):FB S w p m m (xs.take m):=by
  have hl:=h.len
  refine⟨by simp;omega,?_⟩
  rcases h.ok with ⟨h1,h2,h3⟩ | ⟨g,cur,h1,h2,h3,h4,h5,h6,h7⟩
  · exact .inl ⟨h1,by omega,by omega⟩
  · refine .inr ⟨g, cur, h1, h2, h3, Nat.le_refl _, by omega, by omega, ?_⟩
    rw[List.map_take,← h7,List.take_take,Nat.min_eq_left hm]
theorem ofOwn {B B0:Nat} (h:Own kByte 5 B B0 w p n c xs) (hS:∀ k,k<w.heap.size→B0≤k→S k):FB S w p n c xs:=by
  refine⟨h.len,?_⟩
  obtain⟨css,ha,ho⟩:=h.row
  have hc:=Ia ha
  rcases ho.2 with ⟨h1,h2⟩ | ⟨g,cap,cur,h1,h2,h3,h4,h5,h6,h7⟩
  · injection h1 with h1 e2 e3;exact .inl ⟨h1,h2,e3⟩
  · injection h1 with e1 e2 e3
    subst e1 e3
    have hB:Blk w g cur 5:=h3
    have e1:kByte.sz=1:=rfl
    rw[e1,Nat.mul_one] at h6 h7
    refine .inr ⟨g,cur,rfl,hS g hB.lt h2,h3,h4,by omega,h5,?_⟩
    rw[h7,hc]
    exact Bf xs
theorem row (h:FB S w p n c xs):Row w p (xs.map cell):=by
  rcases h.ok with ⟨h1,h2,_⟩ | ⟨g,cur,h1,h2,h3,h4,h5,h6,h7⟩
  · have : xs = [] := List.eq_nil_of_length_eq_zero (by rw [h.len, h2])
    subst this;exact Row.nil _ _
  · subst h1
    refine⟨fun _=>rfl,fun j v hv=>?_⟩
    rw[← h7,List.getElem?_take] at hv
    split at hv
    · show w.cell? ⟨g, 0 + j, none⟩ = _
      rw[Nat.zero_add]
      exact h3.cell (by simpa using hv)
    · cases hv
theorem sl (h:FB S w p n c xs):Sl kByte 5 0 w p n c xs:=by
  refine⟨h.len,h.cap.1,h.cap.2,_,B6 0 w xs,?_⟩
  rw[Bf]
  refine⟨h.row,fun hne => .inr ?_⟩
  rcases h.ok with ⟨h1,h2,_⟩ | ⟨g,cur,h1,h2,h3,_⟩
  · exact absurd (List.eq_nil_of_length_eq_zero (by rw[List.length_map,h.len,h2])) hne
  · subst h1;exact h3.ty
end FB
structure OneR (p:Option Addr) (w w':World):Prop where
  size:w.heap.size≤w'.heap.size
  old:∀ k,k<w.heap.size→p≠some ⟨k,0,none⟩→w'.heap[k]? = w.heap[k]?
  tys:∀ k,k<w.heap.size→ty w' k=ty w k
  drawn:drw w≤drw w'
  os:w'.os=w.os
  tape:w'.tape=w.tape
  output:w'.output=w.output
theorem OneR.ofExt {p:Option Addr} {w w':World} (h:Ext w w'):OneR p w w':=⟨h.size,fun k hk _=>h.old k hk,fun k hk=>B7 (h.old k hk),h.drawn,h.os,h.tape,h.output⟩
section
variable {S : Nat → Prop} {E : List TypeId} {a b c w w' : World} {p q : Option Addr} {n m cc : Nat} {xs : List UInt8}
theorem ModS.oneR (h:ModS S E a b) (m:OneR p b c) (hF:FB S b p n cc xs∨FB (fun j=>S j∨a.heap.size≤j) b p n cc xs) (h5:5∈E):ModS S E a c:=by
  have hp:∀ g,p=some ⟨g,0,none⟩→(S g∨a.heap.size≤g)∧ty b g=some 5:=fun g hg=>by
    rcases hF with hF | hF
    · exact⟨.inl (hF.inS hg).1,hF.tyOf hg⟩
    · exact⟨(hF.inS hg).1,hF.tyOf hg⟩
  refine⟨Nat.le_trans h.size m.size,fun k hk ho=>?_,fun k hk=>(m.tys k (Nat.lt_of_lt_of_le hk h.size)).trans (h.tys k hk),Nat.le_trans h.drawn m.drawn,m.os.trans h.os,m.tape.trans h.tape,m.output.trans h.output⟩
  refine (m.old k (Nat.lt_of_lt_of_le hk h.size) fun e=>?_).trans (h.old k hk ho)
  obtain⟨h1,h2⟩:=hp k e
  rcases ho with ho | ho
  · rcases h1 with h1 | h1
    · exact ho h1
    · omega
  · exact ho 5 h5 (by rw[← h.tys k hk];exact h2)
theorem Blk.oneR {g:Nat} {cs:Array Value} {u:TypeId} (h:Blk w g cs u) (m:OneR p w w') (hF:FB S w p n cc xs) (hu:u≠5):Blk w' g cs u :=
  (m.old g h.lt fun e=>hu (by have:=hF.tyOf e;rw[h.ty] at this;injection this)).trans h
theorem FB.oneR {S':Nat→Prop} {n' c':Nat} {ys:List UInt8} (h:FB S w q n' c' ys) (m:OneR p w w') (ha:Apart p q):FB S w' q n' c' ys :=
  h.keep fun g hq hg=>m.old g hg (by
    rcases ha with ha | ha | ha
    · rw[ha];simp
    · rw[hq] at ha;cases ha
    · rw[← hq];exact ha)
theorem FB.apart {S':Nat→Prop} {n' c':Nat} {ys:List UInt8} {p':Option Addr} (h:Apart p q) (hq:FB S w q n' c' ys) (hp:p'=p∨∃ g,p'=some ⟨g,0,none⟩∧w.heap.size≤g):Apart p' q:=by
  rcases hp with rfl | ⟨g,rfl,hg⟩
  · exact h
  · by_cases e : q = some ⟨g, 0, none⟩
    · have:=(hq.inS e).2;omega
    · exact .inr (.inr fun q'=>e q'.symm)
end
section append
variable {P : Program} {ops : Array Oper} {Q : Exit → Act → World → Prop} {rest : List Oper} {N : Nat} {f : Nat → Value} {w : World} {S : Nat → Prop}
variable {t0 : TypeId} {pos : String} {aft : Array Edge} {dst : Nat} {x y : Operand} {T tx : TypeId} {p : Option Addr} {n c m : Nat} {xs ys : List UInt8}
theorem Adu {w w':World} {g n c:Nat} {cur:Array Value} {xs:List UInt8} (hN:New w w' g cur 5) (hl:xs.length=n) (hnc:n≤c) (hc:c≤cur.size) (hm:c≤9223372036854775807) (ht:cur.toList.take n=xs.map cell) (hS:S g):FB S w' (some ⟨g,0,none⟩) n c xs :=
  ⟨hl,.inr ⟨g,cur,rfl,hS,hN.blk,hnc,hc,hm,ht⟩⟩
theorem Aan {g:Nat} {w w':World} {cs:Array Value} {t:TypeId} (h:Put w w' g cs t):OneR (some ⟨g,0,none⟩) w w' :=
  ⟨by rw[h.size];exact Nat.le_refl _,fun k hk hne=>h.old k fun e=>hne (by rw[e]),fun k hk=>by
    by_cases e:k=g
    · subst e;rw[h.blk.ty,h.was]
    · exact B7 (h.old k e),by rw[h.drawn];exact Nat.le_refl _,h.os,h.tape,h.output⟩
theorem Abv (h:FB S w p n c xs):(Builtin.firstCells 1 n (.slice p n c)).run P w.drew = .ok (xs.map cell).toArray w.drew:=by
  rcases h.ok with ⟨h1,h2,h3⟩ | ⟨g,cur,h1,h2,h3,h4,h5,h6,h7⟩
  · have : xs = [] := List.eq_nil_of_length_eq_zero (by rw [h.len, h2])
    subst this h1 h2 h3
    exact run_firstCells_none w.drew 1 0 0 0
  · have hr := h.row
    subst h1
    refine run_firstCells_some w.drew 1 n ⟨g,0,none⟩ n c (xs.map cell) (by rw[List.length_map,h.len,Nat.mul_one]) (fun j u hu=>?_)
    have:=hr.at_ j u hu
    rw[Addr.add_mid]
    exact this
theorem Tx {v:Value} (hT:P.underlying T=some (.slice 5)) (hi:(P.info? 5).map (fun i=>(i.zero,i.size,i.bytes))=some (some (.int .u8 0),1,1)) (hF:FB S w p n c xs) (hs:Src P 1 tx v m (ys.map cell) w) (hl:ys.length=m) (hb:(n+m)+(n+m) / 4+192≤281474976710656) :
    ∃ p' c' w',(Builtin.append_ #[T,tx] t0 #[.slice p n c,v]).run P w = .ok (.slice p' (n+m) c') w'∧FB (fun j=>S j∨w.heap.size≤j) w' p' (n+m) c' (xs++ys)∧(p'=p∨∃ g,p'=some ⟨g,0,none⟩∧w.heap.size≤g)∧OneR p w w'∧FB S w' p n c xs:=by
  obtain⟨i,hi0,hi1⟩:=Option.map_eq_some_iff.1 hi
  simp only[Prod.mk.injEq] at hi1
  obtain⟨hiz,his,hib⟩:=hi1
  have hxl:=hF.len
  have big:c<n+m→∃ p' c' w',(Builtin.append_ #[T,tx] t0 #[.slice p n c,v]).run P w = .ok (.slice p' (n+m) c') w'∧FB (fun j=>S j∨w.heap.size≤j) w' p' (n+m) c' (xs++ys)∧(p'=p∨∃ g,p'=some ⟨g,0,none⟩∧w.heap.size≤g)∧OneR p w w'∧FB S w' p n c xs:=fun hg=>by
    have hr:=run_append_grow_src (P:=P) w T tx t0 5 i (.int .u8 0) hT hi0 hiz p n c (xs.map cell) (by rw[his];exact Abv hF) v m (ys.map cell) (by rw[his];exact hs) hg (by omega) (growslice_fits_wide hg (by rw[hib,Nat.mul_one];exact hb))
    have hge:=grownCap_ge w (n+m) c 5
    have hcm:grownCap w (n+m) c 5≤maxLen:=grownCap_le_maxLen w (n+m) c 5 (by unfold maxLen;omega)
    refine⟨_,_,_,hr,Adu (New.alloc w.drew _ 5) (by simp;omega) hge ?_ (by unfold maxLen at hcm;omega) ?_ (.inr (Nat.le_refl _)),.inr ⟨_,rfl,Nat.le_refl _⟩,.ofExt ((Ext.drew w).trans (Ext.alloc _ _)),hF.ext ((Ext.drew w).trans (Ext.alloc _ _))⟩
    · simp only [Array.size_append, List.size_toArray, size_zeroCells, List.length_append, List.length_map, Value.cells]
      simp;omega
    · rw [Array.toList_append, List.take_append_of_le_length (by simp; omega)]
      rw[List.take_of_length_le (by simp;omega)];simp
  rcases hF.ok with ⟨h1,h2,h3⟩ | ⟨g,cur,h1,h2,h3,h4,h5,h6,h7⟩
  · by_cases hm : m = 0
    · have hy : ys = [] := List.eq_nil_of_length_eq_zero (by rw [hl, hm])
      subst hy h1 h2 h3 hm
      refine⟨none,0,w,run_append_nothing w T tx t0 5 i hT hi0 none 0 0 (Nat.le_refl _) v (by rw[his];exact hs),?_,.inl rfl,.ofExt (.refl _),hF⟩
      rw[List.append_nil]
      exact hF.mono fun _ _ h => .inl h
    · exact big (by omega)
  · by_cases hroom : n + m ≤ c
    · subst h1
      have hfit:n+(ys.map cell).length≤cur.size:=by rw[List.length_map,hl];omega
      have hr:=run_append_room_src (P:=P) w T tx t0 5 i hT hi0 g 0 n c v m (ys.map cell) (by rw[his];exact hs) hroom
        (fun j hj=>by
          rw[his,Nat.mul_one,Nat.zero_add]
          rw[h3.cell (v:=cur[n+j]'(by omega)) (Array.getElem?_eq_getElem (by omega))];rfl)
        (fun j _=>frozen_of_row w g _ cur 5 h3)
      rw[his,Nat.zero_add,Nat.mul_one] at hr
      have hP:=Gg (ys.map cell) h3 hfit
      refine⟨_,_,_,hr,⟨by simp;omega,.inr ⟨g,_,rfl,.inl h2,hP.blk,hroom,?_,h6,?_⟩⟩,.inl rfl,Aan hP,⟨hxl,.inr ⟨g,_,rfl,h2,hP.blk,h4,?_,h6,?_⟩⟩⟩
      · simp only[List.size_toArray,List.length_append,List.length_take,List.length_drop,Array.length_toList,List.length_map];omega
      · simp only [h7]
        rw[List.append_assoc,List.map_append,← List.append_assoc]
        exact List.take_left' (by simp;omega)
      · simp only[List.size_toArray,List.length_append,List.length_take,List.length_drop,Array.length_toList,List.length_map];omega
      · simp only [h7]
        rw[List.append_assoc]
        exact List.take_left' (by simp;omega)
    · exact big (by omega)
theorem Y2 {v:Value} (ys:List UInt8) (hT:P.underlying T=some (.slice 5)) (hi:(P.info? 5).map (fun i=>(i.zero,i.size,i.bytes))=some (some (.int .u8 0),1,1)) (hx:ev N f x = .slice p n c) (hy:ev N f y=v) (hF:FB S w p n c xs) (hs:Src P 1 tx v m (ys.map cell) w) (hl:ys.length=m) (hb:(n+m)+(n+m) / 4+192≤281474976710656)
    (k:∀ p' c' w',FB (fun j=>S j∨w.heap.size≤j) w' p' (n+m) c' (xs++ys)→(p'=p∨∃ g,p'=some ⟨g,0,none⟩∧w.heap.size≤g)→OneR p w w'→FB S w' p n c xs→Lst P ops Q rest (fr N (upd f dst (.slice p' (n+m) c'))) w') :
    Lst P ops Q (⟨some dst,.call ⟨.builtin .append,#[x,y],#[T,tx]⟩,t0,pos,aft,none⟩ :: rest) (fr N f) w:=by
  obtain⟨p',c',w',hr,h1,h2,h3,h4⟩:=Tx (t0:=t0) hT hi hF hs hl hb
  refine l1 (w':=w') (v := .slice p' (n+m) c') ?_ (k p' c' w' h1 h2 h3 h4)
  simp only[execOp,resolve,invoke,builtin,Sem.run_bind,Sem.run_pure,Result.andThen_ok,List.map_toArray,List.map_cons,List.map_nil,hx,hy,hr]
end append
structure RetP (P:Program) (g:FuncId) (vs:List Value) (w:World) (R:Value→World→Prop) (Rp:List PanicEntry→World→Prop):Prop where
  mk :: (out:Calls P g vs.toArray w fun e w'=>(∃ v,e = .returned v∧R v w')∨(∃ ch,e = .panicked ch∧Rp ch w'))
structure EndP (P:Program) (fn:Func) (R:Value→World→Prop) (Rp:List PanicEntry→World→Prop) (e:Exit) (a:Act) (w:World):Prop where
  mk :: (out:bodyPost P fn (fun e w'=>(∃ v,e = .returned v∧R v w')∨(∃ ch,e = .panicked ch∧Rp ch w')) e a w)
theorem R4 (fn:Func) (n:Nat) (vs:List Value) (hn:fn.ntmps=n) (hl:vs.length≤min n sp) (hn2:min n sp=n) :
    ({ tmps:=vs.toArray++Array.replicate (fn.ntmps - vs.toArray.size) undef,defers:=[] }:Act)=fr n (fun t=>vs.getD t undef):=by
  subst hn
  unfold fr
  have hD:decD (vs.getD sp undef)=[]:=by
    rw[List.getD_eq_getElem?_getD,List.getElem?_eq_none (by omega)];rfl
  rw[hD]
  congr 1
  apply Array.ext (by simp only[Array.size_append,List.size_toArray,Array.size_replicate,Array.size_ofFn];omega)
  intro i h1 h2
  simp only[Array.getElem_ofFn,Array.getElem_append,List.size_toArray]
  by_cases hi:i<vs.length
  · simp[hi]
  · simp[hi]
theorem Aet {P:Program} {g:FuncId} {fn:Func} {c:Code} {w:World} {R:Value→World→Prop} {Rp:List PanicEntry→World→Prop} (n:Nat) (vs:List Value)
    (hf:P.funcs[g]? = some fn) (hb:fn.body=some c) (hn:fn.ntmps=n) (hl:vs.length≤min n sp) (hn2:min n sp=n)
    (h:Wp P c (EndP P fn R Rp) (fr n (fun t=>vs.getD t undef)) w):RetP P g vs w R Rp:=⟨L1 n vs hf hb hn hl hn2 (wp_mono h.out fun _ _ _ k=>k.out)⟩
section
variable {P : Program} {fn : Func} {R : Value → World → Prop} {Rp : List PanicEntry → World → Prop} {n : Nat} {f : Nat → Value} {w : World}
theorem Aew (hr:fn.results=#[]) (h:R (.tuple #[]) w) (hd:decD (f sp)=[]:=by rfl):EndP P fn R Rp .normal (fr n f) w :=
  ⟨bodyPost_end (results_none hr _ _ _) hd (.inl ⟨_,rfl,h⟩)⟩
theorem Aev {ch:List PanicEntry} (h:Rp ch w) (hd:decD (f sp)=[]:=by rfl):EndP P fn R Rp (.panic ch) (fr n f) w :=
  ⟨⟨hd,.inr ⟨ch,rfl,h⟩⟩⟩
end
section
variable {P : Program} {ops : Array Oper} {Q : Exit → Act → World → Prop} {K : Act → World → Prop} {rest : List Oper} {n : Nat} {f : Nat → Value} {w : World} {a : Act}
variable {ty : TypeId} {pos : String} {aft : Array Edge} {d : Nat} {dst : Option Nat}
theorem t_p {ch:List PanicEntry} (h:Q (.panic ch) a w):Exit.then K Q (.panic ch) a w:=h
theorem Ac8 {x:Operand} {u:TypeId} {pv:Value} (hx:ev n f x = .iface u pv) (h:Q (.panic [{ v := .iface u pv,recovered:=false }]) (fr n f) w) :
    Lst P ops Q (⟨dst,.panic x,ty,pos,aft,none⟩ :: rest) (fr n f) w :=
  ⟨wpList_plain rfl fun K hK=>by
    have he:(execOp (ev n f) ⟨dst,.panic x,ty,pos,aft,none⟩).run P w = .halt (.panic (.iface u pv)) w:=by
      simp[execOp,hx,Instr.panic,goPanic,Sem.run_bind,Sem.run]
    unfold Oper.wp
    rw[Bn,he,Oper.upon_panic]
    exact h⟩
theorem J3 {g : FuncId} {as_ : List Operand} {ats : Array TypeId} {fn : Func} {vs : List Value} {R : Value → World → Prop} {Rp : List PanicEntry → World → Prop} (hf : P.funcs[g]? = some fn) (hn : (fn.name == "runtime.NumGoroutine") = false) (hb : fn.body.isNone = false)
    (hc:RetP P g vs w R Rp) (ha:evL n f as_=vs) (k:∀ v w',R v w'→Lst P ops Q rest (fr n (upd f d v)) w') (kp:∀ ch w',Rp ch w'→Q (.panic ch) (fr n f) w') :
    Lst P ops Q (⟨some d,.call ⟨.value (.func g),as_.toArray,ats⟩,ty,pos,aft,none⟩ :: rest) (fr n f) w :=
  ⟨wpList_plain rfl fun K hK=>by
    have hn' : ¬ fn.name = "runtime.NumGoroutine" := by simpa using hn
    have hb':¬ fn.body=none:=by intro e;rw[e] at hb;cases hb
    have ha':as_.toArray.map (ev n f)=vs.toArray:=by rw[List.map_toArray,Fi,ha]
    have he:(execOp (ev n f) ⟨some d,.call ⟨.value (.func g),as_.toArray,ats⟩,ty,pos,aft,none⟩).run P w = .ok (.enter g vs.toArray) w:=by
      simp[execOp,resolve,ha',ev,Deferred.ofValue,invoke,callFunc,hf,hn',hb',Sem.run_bind,Sem.run]
    unfold Oper.wp
    rw[Bn,he,Oper.upon_enter]
    refine Calls.mono hc.out fun e w' hr=>?_
    rcases hr with ⟨v,rfl,hv⟩ | ⟨ch,rfl,hp⟩
    · show K ((fr n f).put (some d) v) w'
      rw[Du]
      exact hK _ _ (k v w' hv).out
    · exact kp ch w' hp⟩
theorem Abl (n:Nat) (f:Nat→Value) (g:FuncId) (all cs:List Value) (h0:decD (f sp)=[]) :
    ({ fr n f with defers:={ target := .fn (.func g) cs.toArray,args:=all.toArray } :: (fr n f).defers }:Act)=fr n (updR f sp (.tuple #[.func (.func g) all.toArray cs.toArray])):=by
  have h1:=L8 n f (.tuple #[.func (.func g) all.toArray cs.toArray])
  have h2:(fr n (updR f sp (.tuple #[.func (.func g) all.toArray cs.toArray]))).defers={ target := .fn (.func g) cs.toArray,args:=all.toArray } :: (fr n f).defers:=by
    rw[Gx,Jv,Gx,h0];rfl
  show Act.mk _ _=_
  rw[← h1,← h2]
theorem Ac9 {x:Operand} {oas:List Operand} {ats:Array TypeId} {g:FuncId} {fs vs cs all:List Value} (hx:ev n f x = .func (.func g) fs.toArray cs.toArray) (ha:evL n f oas=vs) (hall:fs++vs=all) (h0:decD (f sp)=[])
    (k:Lst P ops Q rest (fr n (updR f sp (.tuple #[.func (.func g) all.toArray cs.toArray]))) w) :
    Lst P ops Q (⟨none,.defer ⟨.value x,oas.toArray,ats⟩,ty,pos,aft,none⟩ :: rest) (fr n f) w :=
  ⟨wpList_plain rfl fun K hK=>by
    have ha':oas.toArray.map (ev n f)=vs.toArray:=by rw[List.map_toArray,Fi,ha]
    have he:(execOp (ev n f) ⟨none,.defer ⟨.value x,oas.toArray,ats⟩,ty,pos,aft,none⟩).run P w = .ok (.defer { target := .fn (.func g) cs.toArray,args:=all.toArray }) w:=by
      subst hall
      simp[execOp,resolve,ha',hx,Deferred.ofValue,Sem.run_bind,Sem.run]
    unfold Oper.wp
    rw[Bn,he,Oper.upon_defer,Abl n f g all cs h0,T9]
    exact hK _ _ k.out⟩
end
structure Keep (C:List Nat) (a0 a:Act):Prop where
  slot:∀ t,t∈C→a.tmps[t]? = a0.tmps[t]?
  off:a.defers=a0.defers
theorem Keep.put {C:List Nat} {a0 a:Act} {d:Nat} {v:Value} (hC:C.elem d=false) (h:Keep C a0 (a.put (some d) v)):Keep C a0 a :=
  ⟨fun t ht=>by
    have hne:d≠t:=fun e=>by subst e;rw[List.elem_eq_mem] at hC;simp[ht] at hC
    rw[← h.slot t ht]
    show a.tmps[t]? = (a.tmps.setIfInBounds d v)[t]?
    rw[Array.getElem?_setIfInBounds_ne hne],h.off⟩
theorem Keep.of {C:List Nat} {n:Nat} {f f':Nat→Value} (h:∀ t,t∈C→f' t=f t) (hs:f' sp=f sp):Keep C (fr n f) (fr n f') :=
  ⟨fun t ht=>by rw[Ic,Ic,h t ht],by rw[Gx,Gx,hs]⟩
def OnlyP (C:List Nat) (a0:Act) (X:List PanicEntry→World→Prop) (Q:Exit→Act→World→Prop):Exit→Act→World→Prop
  | .normal,a,w=>Q .normal a w
  | .panic ch,a,w=>Keep C a0 a∧X ch w
  | _,_,_=>False
structure HlP (P:Program) (ops:Array Oper) (C:List Nat) (a0:Act) (X:List PanicEntry→World→Prop) (Q:Exit→Act→World→Prop) (S:World→Prop) (fuel:Nat) (listed:Array Bool) (a:Act) (w:World):Prop where
  mk :: (out:wpAnyH P .any ops (OnlyP C a0 X Q) S fuel listed a w)
structure HopP (P:Program) (ops:Array Oper) (C:List Nat) (a0:Act) (X:List PanicEntry→World→Prop) (Q:Exit→Act→World→Prop) (o:Oper) (K:Act→World→Prop) (a:Act) (w:World):Prop where
  mk :: (out:(if Region.wanted o (yielded ops a.tmps) then o.wp P a w K (OnlyP C a0 X Q)∨(o.asks P a w∧LetsOut (OnlyP C a0 X Q)) else K (a.put o.dst undef) w))
section
variable {P : Program} {ops : Array Oper} {C : List Nat} {a0 : Act} {X : List PanicEntry → World → Prop} {Q : Exit → Act → World → Prop} {S : World → Prop} {n : Nat} {f : Nat → Value} {w : World} {fuel : Nat} {listed : Array Bool} {id : Nat} {l : List Oper} {K : Act → World → Prop}
variable {op : Op} {ty : TypeId} {pos : String} {aft : Array Edge} {d : Nat} {v : Value}
theorem Ac5 (C:List Nat) (X:List PanicEntry→World→Prop) (S:World→World→Prop) (hm:P.follows .mixedOrders=true) (hX:∀ ch a w',Keep C (fr n f) a→X ch w'→Q (.panic ch) a w')
    (h:∀ w',Ext w w'→HlP P l.toArray C (fr n f) X Q (S w') l.toArray.size (Array.replicate l.toArray.size false) (fr n f) w'):Wp P (Code.region id l.toArray true) Q (fr n f) w :=
  ⟨wp_mono (wp_region_held (S:=S w.drew) hm (h w.drew (Ext.drew w)).out) fun e a w hq=>by
    cases e with
    | normal=>exact hq
    | panic ch=>exact hX ch a w hq.1 hq.2
    | _=>exact hq.elim⟩
theorem F1 (i:Nat) (hi:ops[i]? = some ⟨some d,op,ty,pos,aft,none⟩) (hs:Region.noSelect ops=true) (hf:Region.free .any ops listed i=true) (hr:(Region.ready .any ops listed).contains i=true) (hS:S w)
    (h:∀ w,S w→Ex P w n f ⟨some d,op,ty,pos,aft,none⟩ v) (k:HlP P ops C a0 X Q S fuel (listed.setIfInBounds i true) (fr n (upd f d v)) w) (hC:C.elem d=false:=by rfl):HlP P ops C a0 X Q S (fuel+1) listed (fr n f) w:=by
  refine⟨wpAnyH_take hi hs hf hr (fun c a w q=>⟨q.1.put hC,q.2⟩) (v:=v) (.inl ⟨rfl,fun w hw=>?_⟩) hS ?_⟩
  · rw[Bn];exact h w hw
  · rw[Du];exact k.out
theorem Ws (i:Nat) (o:Oper) (hi:ops[i]? = some o) (hr:Region.ready .any ops listed=[i]) (h:HopP P ops C a0 X Q o (fun a' w'=>S w'∧HlP P ops C a0 X Q S fuel (listed.setIfInBounds i true) a' w') (fr n f) w):HlP P ops C a0 X Q S (fuel+1) listed (fr n f) w:=by
  refine⟨wpAnyH_all hr (by simp) (fun j hj=>?_)⟩
  have:j=i:=by simpa using hj
  subst this
  refine wpOp_mono (K:=fun a' w'=>S w'∧HlP P ops C a0 X Q S fuel (listed.setIfInBounds j true) a' w') (fun a w hk=>⟨hk.1,hk.2.out⟩) ?_
  unfold wpOp
  simp only[hi]
  exact h.out
theorem Adm (hr:Region.ready .any ops listed=[]) (h:Q .normal (fr n f) w):HlP P ops C a0 X Q S fuel listed (fr n f) w:=⟨wpAnyH_done (Q:=OnlyP C a0 X Q) hr h fuel⟩
theorem Ip {o:Oper} (h:∀ Q':Exit→Act→World→Prop,(∀ a w,K a w→Q' .normal a w)→(∀ ch a w,Keep C a0 a→X ch w→Q' (.panic ch) a w)→Lst P ops Q' [o] (fr n f) w):HopP P ops C a0 X Q o K (fr n f) w:=by
  have h1:=(h (Exit.then K (OnlyP C a0 X Q)) (fun a w hk=>hk) (fun ch a w h1 h2=>⟨h1,h2⟩)).out
  refine⟨?_⟩
  unfold wpList at h1
  split
  · rename_i hw
    rw[if_pos hw] at h1
    refine h1.imp (fun h1=>?_) (fun h1=>⟨h1.1,by obtain⟨_,a,w,q⟩:=h1;exact⟨a,w,q⟩⟩)
    unfold Oper.wp at h1 ⊢
    generalize (execOp (fr n f).eval o).run P w=r at *
    cases r with
    | ok n w' =>
      cases n <;> simp only[Oper.upon] at h1 ⊢ <;>
        exact h1
    | halt x w'=>cases x <;> simp only[Oper.upon] at h1 ⊢ <;> exact h1
  · rename_i hw
    rw[if_neg hw] at h1
    exact h1
end
structure EndD (P:Program) (fn:Func) (R:Value→World→Prop) (e:Exit) (a:Act) (w:World):Prop where
  mk :: (out:bodyPostD P fn (fun e w'=>∃ v,e = .returned v∧R v w') e a w)
theorem Aeu {P:Program} {g:FuncId} {fn:Func} {c:Code} {w:World} {R:Value→World→Prop} (n:Nat) (vs:List Value)
    (hf:P.funcs[g]? = some fn) (hb:fn.body=some c) (hn:fn.ntmps=n) (hl:vs.length≤min n sp) (hn2:min n sp=n)
    (h:Wp P c (EndD P fn R) (fr n (fun t=>vs.getD t undef)) w):Ret P g vs w R:=by
  refine⟨calls_of_wp_defers hf hb ?_⟩
  rw[R4 fn n vs hn hl hn2]
  exact wp_mono h.out fun _ _ _ k=>k.out
section
variable {P : Program} {fn fg : Func} {R : Value → World → Prop} {n : Nat} {f : Nat → Value} {w : World} {g : FuncId} {all cs tot : List Value} {Rc : World → Prop}
theorem Mj (hf : P.funcs[g]? = some fg) (hn : (fg.name == "runtime.NumGoroutine") = false) (hb : fg.body.isNone = false) (ht : all ++ cs = tot) :
    (invoke (.fn (.func g) cs.toArray) all.toArray).run P w = .ok (.enter g tot.toArray) w:=by
  have hn' : ¬ fg.name = "runtime.NumGoroutine" := by simpa using hn
  have hb':¬ fg.body=none:=by intro e;rw[e] at hb;cases hb
  subst ht
  simp[invoke,callFunc,hf,hn',hb',Sem.run_bind,Sem.run]
theorem Abz (hs : f sp = .tuple #[.func (.func g) all.toArray cs.toArray]) (hf : P.funcs[g]? = some fg) (hn : (fg.name == "runtime.NumGoroutine") = false) (hb : fg.body.isNone = false) (ht : all ++ cs = tot)
    (hc:CallsD P g tot.toArray .returning w fun e u' w'=>(∃ v,e = .returned v)∧u' = .returning∧Rc w') (h:∀ w',Rc w'→∃ v,(results fn (fr n f).tmps).run P w' = .ok v w'∧R v w'):EndD P fn R .ret (fr n f) w:=by
  refine⟨?_⟩
  show Leaves P fn (fr n f).tmps _ (decD (f sp)) .returning w
  rw[hs]
  refine leaves_cons (by simp) (Mj hf hn hb ht) (hc.mono ?_)
  rintro e u' w' ⟨⟨v,rfl⟩,rfl,hr⟩
  obtain⟨x,hx,hR⟩:=h w' hr
  exact⟨x,hx,x,rfl,hR⟩
theorem Jh {u : TypeId} {pv : Value} (hs : f sp = .tuple #[.func (.func g) all.toArray cs.toArray]) (hf : P.funcs[g]? = some fg) (hn : (fg.name == "runtime.NumGoroutine") = false) (hb : fg.body.isNone = false) (ht : all ++ cs = tot)
    (hc:CallsD P g tot.toArray (.panicking [{ v := .iface u pv,recovered:=false }]) w fun e u' w'=>(∃ v,e = .returned v)∧u' = .panicking [{ v := .iface u pv,recovered:=true }]∧Rc w')
    (h:∀ w',Rc w'→∃ v,(results fn (fr n f).tmps).run P w' = .ok v w'∧R v w'):EndD P fn R (.panic [{ v := .iface u pv,recovered:=false }]) (fr n f) w:=by
  refine⟨?_⟩
  show Leaves P fn (fr n f).tmps _ (decD (f sp)) (.panicking _) w
  rw[hs]
  refine leaves_cons (by simp) (Mj hf hn hb ht) (hc.mono ?_)
  rintro e u' w' ⟨⟨v,rfl⟩,rfl,hr⟩
  obtain⟨x,hx,hR⟩:=h w' hr
  exact⟨x,hx,x,rfl,hR⟩
end
theorem Zg {P : Program} {fn fg : Func} {R : Value → World → Prop} {n : Nat} {f : Nat → Value} {w : World} {g : FuncId} {all cs tot : List Value} {Rc : World → Prop} {C : List Nat} {a : Act} {u : TypeId} {pv : Value} (hk : Keep C (fr n f) a) (hs : f sp = .tuple #[.func (.func g) all.toArray cs.toArray]) (hf : P.funcs[g]? = some fg) (hn : (fg.name == "runtime.NumGoroutine") = false) (hb : fg.body.isNone = false) (ht : all ++ cs = tot)
    (hc:CallsD P g tot.toArray (.panicking [{ v := .iface u pv,recovered:=false }]) w fun e u' w'=>(∃ v,e = .returned v)∧u' = .panicking [{ v := .iface u pv,recovered:=true }]∧Rc w')
    (h:∀ w',Rc w'→∃ v,(results fn a.tmps).run P w' = .ok v w'∧R v w'):EndD P fn R (.panic [{ v := .iface u pv,recovered:=false }]) a w:=by
  refine⟨?_⟩
  show Leaves P fn a.tmps _ a.defers (.panicking _) w
  rw[hk.off,Gx,hs]
  refine leaves_cons (by simp) (Mj hf hn hb ht) (hc.mono ?_)
  rintro e u' w' ⟨⟨v,rfl⟩,rfl,hr⟩
  obtain⟨x,hx,hR⟩:=h w' hr
  exact⟨x,hx,x,rfl,hR⟩
section
variable {P : Program} {fn : Func} {n : Nat} {f : Nat → Value} {w : World} {t u s : Nat} {T U S t' : TypeId} {g : Nat} {cs : Array Value} {v x y z : Value}
theorem Bz (hu:(P.underlying T).map TypeDesc.isRow=some false) (hv:ev n f (.tmp t) = .pointer (some ⟨g,0,none⟩)) (hB:Blk w g #[v] t') :
    ((asAddr ((fr n f).tmps.getD t undef)).run P w).andThen (fun a w₁=>(loadVar T a).run P w₁) = .ok v w:=by
  obtain⟨d,hu,hd⟩:=Option.map_eq_some_iff.1 hu
  have e1:(fr n f).tmps.getD t undef = .pointer (some ⟨g,0,none⟩):=by rw[← hv,← Bn];rfl
  rw[e1]
  have hc:w.cell? ⟨g,0,none⟩=some v:=hB.cell rfl
  have hrun:=H2 (P:=P) hu hd hc
  simpa [asAddr] using hrun
theorem Eq {tmps:Array Value} (hr:fn.results=#[.cell t T,.cell u U,.cell s S])
    (h1:((asAddr (tmps.getD t undef)).run P w).andThen (fun a w₁=>(loadVar T a).run P w₁) = .ok x w)
    (h2:((asAddr (tmps.getD u undef)).run P w).andThen (fun a w₁=>(loadVar U a).run P w₁) = .ok y w)
    (h3:((asAddr (tmps.getD s undef)).run P w).andThen (fun a w₁=>(loadVar S a).run P w₁) = .ok z w) :
    (results fn tmps).run P w = .ok (.tuple #[x,y,z]) w:=by
  have e0:∀ t,tmps[t]?.getD undef=tmps.getD t undef:=by intro t;simp
  simp only[results,hr]
  simp[Sem.run_bind]
  rw[e0,e0,e0]
  rw[← Dw,h1]
  show (((asAddr (tmps.getD u undef)).run P w).andThen fun a_1 w'=>_)=_
  rw[← Dw,h2]
  show (((asAddr (tmps.getD s undef)).run P w).andThen fun a_1 w'=>_)=_
  rw[← Dw,h3]
  rfl
end
structure WpS (P:Program) (c:Code) (Q:Exit→Act→List Frame→World→Prop) (a:Act) (cs:List Frame) (w:World):Prop where
  mk :: (out:c.wpS P Q a cs w)
structure LstS (P:Program) (ops:Array Oper) (Q:Exit→Act→List Frame→World→Prop) (l:List Nat) (a:Act) (cs:List Frame) (w:World):Prop where
  mk :: (out:wpOpsS P ops Q l a cs w)
section
variable {P : Program} {ops : Array Oper} {Q : Exit → Act → List Frame → World → Prop} {n : Nat} {f : Nat → Value} {w : World} {fs fs' : List Frame} {i d : Nat} {rest : List Nat} {v : Value}
variable {op : Op} {ty : TypeId} {pos : String} {aft : Array Edge} {as_ : Array Operand} {ats : Array TypeId}
theorem Ab1 {x y:Code} {a:Act} (h:WpS P x (Exit.thenS (WpS P y Q) Q) a fs w):WpS P (Code.seq x y) Q a fs w :=
  ⟨wpS_seq (fun b k h1 h2=>by
    obtain⟨e,a',cs',w',q,r⟩:=h.out b k h1 h2
    refine⟨e,a',cs',w',?_,r⟩
    cases e <;> first | exact WpS.out q | exact q)⟩
theorem Ae4 {a:Act} {K:Act→List Frame→World→Prop} (h:K a fs w):Exit.thenS K Q .normal a fs w:=h
theorem Ad6 {c:Code} {a:Act} (h:Wp P c (fun e a' w'=>Q e a' fs w') a w):WpS P c Q a fs w:=⟨wpS_of_wp h.out⟩
theorem Ty {id:Nat} (h:LstS P ops Q (List.range ops.size) (fr n f) fs w):WpS P (Code.region id ops false) Q (fr n f) fs w:=⟨wpS_region h.out⟩
theorem Aa4 {a:Act} (h:Q .normal a fs w):LstS P ops Q [] a fs w:=⟨h⟩
theorem Afc (ho:ops[i]? = some ⟨some d,op,ty,pos,aft,none⟩) (h:Ex P w n f ⟨some d,op,ty,pos,aft,none⟩ v) (k:LstS P ops Q rest (fr n (upd f d v)) fs w):LstS P ops Q (i :: rest) (fr n f) fs w:=by
  refine⟨?_⟩
  have h':(execOp (ev n f) ⟨some d,op,ty,pos,aft,none⟩).run P w = .ok (.value v) w:=h
  simp only[wpOpsS,ho,Region.wanted,if_true,Bn,h',Oper.upon_value,Du]
  exact k.out
theorem Nb:(execOp (ev n f) ⟨some d,.call ⟨.builtin .recover,as_,ats⟩,ty,pos,aft,none⟩).run P w = .ok .recover w:=by
  simp[execOp,resolve,invoke,builtin,Sem.run_bind,Sem.run]
theorem Ael (ho:ops[i]? = some ⟨some d,.call ⟨.builtin .recover,as_,ats⟩,ty,pos,aft,none⟩) (hr:recoverD fs=some (v,fs')) (k:LstS P ops Q rest (fr n (upd f d v)) fs' w):LstS P ops Q (i :: rest) (fr n f) fs w:=by
  refine⟨?_⟩
  simp only[wpOpsS,ho,Region.wanted,if_true,Bn,Nb,hr,Du]
  exact k.out
theorem Adg (ho:ops[i]? = some ⟨some d,.call ⟨.builtin .recover,as_,ats⟩,ty,pos,aft,none⟩) (hr:recoverD fs=none) (k:LstS P ops Q rest (fr n (upd f d .nilIface)) fs w):LstS P ops Q (i :: rest) (fr n f) fs w:=by
  refine⟨?_⟩
  simp only[wpOpsS,ho,Region.wanted,if_true,Bn,Nb,hr,Du]
  exact k.out
end
theorem Abx {P:Program} {g:FuncId} {fn:Func} {c:Code} {u:FrameMode} {w:World} {R:Ending→FrameMode→World→Prop} (n:Nat) (vs:List Value)
    (hf:P.funcs[g]? = some fn) (hb:fn.body=some c) (hn:fn.ntmps=n) (hl:vs.length≤min n sp) (hn2:min n sp=n)
    (h:∀ (c₀:Frame) (fs:List Frame),c₀.mode=u→WpS P c (bodyPostS P fn c₀ fs R) (fr n (fun t=>vs.getD t undef)) (c₀ :: fs) w):CallsD P g vs.toArray u w R:=by
  refine callsD_of_wpS hf hb fun c₀ fs hu=>?_
  rw[R4 fn n vs hn hl hn2]
  exact(h c₀ fs hu).out
theorem Sm {c₀:Frame} {fs:List Frame} {v:Value} {older:List PanicEntry} (hu:c₀.mode = .panicking ({ v:=v,recovered:=false } :: older)) :
    recoverD (c₀ :: fs)=some (v,{ c₀ with mode := .panicking ({ v:=v,recovered:=true } :: older) } :: fs):=by
  simp[recoverD,hu]
theorem Sk {c₀:Frame} {fs:List Frame} (hu:c₀.mode = .returning):recoverD (c₀ :: fs)=none:=by simp[recoverD,hu]
section
variable {P : Program} {n : Nat} {f : Nat → Value} {w : World} {dst : Option Nat} {ty0 : TypeId} {pos : String} {aft : Array Edge} {gd : Option (Nat × Bool)} {x y : Operand} {T T' U : TypeId} {v : Value}
theorem Tz {T:TypeId} (h:(P.underlying T).map TypeDesc.isRow=some true):∃ d,P.underlying T=some d∧∀ m,d ≠ .interface m:=by
  obtain⟨d,h1,h2⟩:=Option.map_eq_some_iff.1 h
  exact⟨d,h1,fun m e=>by subst e;cases h2⟩
theorem Yc (hT:(P.underlying T).map TypeDesc.isRow=some true) (hx:ev n f x=v):Ex P w n f ⟨dst,.makeInterface T x,ty0,pos,aft,gd⟩ (.iface T v):=by
  obtain⟨d,h1,h2⟩:=Tz hT
  unfold Ex execOp
  simp only[hx]
  refine Mb _ ?_
  simp only[Instr.makeInterface,Sem.run_bind,run_underlying h1]
  cases d <;> first | rfl | exact absurd rfl (h2 _)
theorem Zz (hT:(P.underlying U).map TypeDesc.isRow=some true) (hx:ev n f x = .iface U v):Ex P w n f ⟨dst,.typeAssert x T U true,ty0,pos,aft,gd⟩ (.tuple #[v,.bool true]):=by
  obtain⟨d,h1,h2⟩:=Tz hT
  unfold Ex execOp
  simp only[hx]
  refine Mb _ ?_
  simp only[Instr.typeAssert,Sem.run_bind,run_underlying h1]
  cases d <;> first | exact absurd rfl (h2 _) | simp[Sem.run]
theorem Za {op:BinOp} {u:TypeId}:(eqGuard op T x y (.iface u v) .nilIface).run P w = .ok () w:=by cases op <;> rfl
theorem Zb {op:BinOp} {c:Value}:(eqGuard op T x (.const c) .nilIface .nilIface).run P w = .ok () w:=by cases op <;> cases x <;> rfl
theorem M2 {u:TypeId} (hT:P.underlying T=some (.interface (P.methodsAt T))) (hx:ev n f x = .iface u v) (hy:ev n f y = .nilIface):Ex P w n f ⟨dst,.binOp .neq T x y T',ty0,pos,aft,gd⟩ (.bool true) :=
  Ci hx hy Za (by simp[binOp,run_equal_held_nil w T u v hT])
theorem K3 {c:Value} (hT:P.underlying T=some (.interface (P.methodsAt T))) (hx:ev n f x = .nilIface) (hy:ev n f (.const c) = .nilIface):Ex P w n f ⟨dst,.binOp .neq T x (.const c) T',ty0,pos,aft,gd⟩ (.bool false) :=
  Ci hx hy Zb (by simp[binOp,run_equal_nil_nil w T hT])
end
theorem Keep.getD {C:List Nat} {a0 a:Act} (h:Keep C a0 a) (t:Nat) (ht:t∈C):a.tmps.getD t undef=a0.tmps.getD t undef:=by
  have:=h.slot t ht
  rw[Array.getD_eq_getD_getElem?,Array.getD_eq_getD_getElem?,this]
theorem Hb {P:Program} {n:Nat} {f:Nat→Value} {w:World} {dst':Option Nat} {ty0:TypeId} {pos:String} {aft:Array Edge} {gd:Option (Nat×Bool)} {x y u:Operand} {T e:TypeId} {sz:Nat} (hT:P.underlying T=some (.slice e)) (hz:(P.info? e).map (·.size)=some sz) {p:Option Addr} {len cap:Nat} {k k':IntKind} {a b:Nat} (hx:ev n f x = .slice p len cap) (hy:ev n f y = .int k (a:Int)) (hu:ev n f u = .int k' (b:Int)) (h1:a≤b) (h2:b≤cap) :
    Ex P w n f ⟨dst',.slice T x (some y) (some u) none,ty0,pos,aft,gd⟩ (.slice (adw p cap a sz) (b - a) (cap - a)):=Vk hT hz hx hy hu (by omega) (by omega) (by omega)
theorem fill2 {a b:Value} (ha:a.cells=#[a]) (hb:b.cells=#[b]) (base:Array Value) (h:base.size=2 * 1):Instr.fill (fun i=>some (i * 1,1)) base [(0,a),(1,b)]=some #[a,b]:=by
  obtain⟨l⟩:=base
  match l,h with
  | [x,y],_=>simp[Instr.fill,ha,hb]
theorem fill3 {a b c:Value} (ha:a.cells=#[a]) (hb:b.cells=#[b]) (hc:c.cells=#[c]) (base:Array Value) (h:base.size=3 * 1):Instr.fill (fun i=>some (i * 1,1)) base [(0,a),(1,b),(2,c)]=some #[a,b,c]:=by
  obtain⟨l⟩:=base
  match l,h with
  | [x,y,z],_=>simp[Instr.fill,ha,hb,hc]
theorem fill4 {a b c d:Value} (ha:a.cells=#[a]) (hb:b.cells=#[b]) (hc:c.cells=#[c]) (hd:d.cells=#[d]) (base:Array Value) (h:base.size=4 * 1):Instr.fill (fun i=>some (i * 1,1)) base [(0,a),(1,b),(2,c),(3,d)]=some #[a,b,c,d]:=by
  obtain⟨l⟩:=base
  match l,h with
  | [x,y,z,u],_=>simp[Instr.fill,ha,hb,hc,hd]
theorem N4 {P:Program} {n:Nat} {f:Nat→Value} {w:World} {dst:Option Nat} {ty0:TypeId} {pos:String} {aft:Array Edge} {gd:Option (Nat×Bool)} {x:Operand} {T:TypeId} {a:Int} (hx:ev n f x = .int .u32 a) :
    Ex P w n f ⟨dst,.unOp .xor T x,ty0,pos,aft,gd⟩ (.int .u32 (Cu .xor .u32 4294967295 a)):=by
  unfold Ex execOp
  simp only[hx]
  exact Mb _ rfl
structure But (g:Nat) (t:TypeId) (w w':World):Prop where
  size:w.heap.size≤w'.heap.size
  old:∀ k,k<w.heap.size→(k≠g∨ty w k≠some t)→w'.heap[k]? = w.heap[k]?
  tys:∀ k,k<w.heap.size→ty w' k=ty w k
  os:w'.os=w.os
  tape:w'.tape=w.tape
  output:w'.output=w.output
namespace But
variable {g : Nat} {t : TypeId} {a b c : World}
theorem refl (g:Nat) (t:TypeId) (w:World):But g t w w:=⟨Nat.le_refl _,fun _ _ _=>rfl,fun _ _=>rfl,rfl,rfl,rfl⟩
theorem ofExt (h:Ext a b):But g t a b:=⟨h.size,fun k hk _=>h.old k hk,fun k hk=>B7 (h.old k hk),h.os,h.tape,h.output⟩
theorem trans (h:But g t a b) (k:But g t b c):But g t a c :=
  ⟨Nat.le_trans h.size k.size,fun i hi ho=>(k.old i (Nat.lt_of_lt_of_le hi h.size) (ho.imp id fun hn=>by rw[h.tys i hi];exact hn)).trans (h.old i hi ho),
    fun i hi=>(k.tys i (Nat.lt_of_lt_of_le hi h.size)).trans (h.tys i hi),k.os.trans h.os,k.tape.trans h.tape,k.output.trans h.output⟩
theorem ofPut {cs:Array Value} (p:Put a b g cs t):But g t a b :=
  ⟨by rw[p.size];exact Nat.le_refl _,fun k _ ho=>p.old k (fun e=>by subst e;rcases ho with ho | ho;(· exact ho rfl);(· exact ho p.was)),
    fun k _=>by by_cases e:k=g;(· subst e;rw[p.blk.ty,p.was]);(· exact B7 (p.old k e)),p.os,p.tape,p.output⟩
theorem rl:∀ A B:World,But g t A B→A.heap.size≤B.heap.size∧∀ k,ty A k=none→k<A.heap.size→B.heap[k]? = A.heap[k]? := fun A B h=>⟨h.size,fun k hn hk=>h.old k hk (.inr (by rw[hn];simp))⟩
theorem extTo {w0:World} (h:Ext w0 a) (k:But g t a b) (hg:w0.heap.size≤g):Ext w0 b :=
  ⟨Nat.le_trans h.size k.size,fun i hi=>(k.old i (Nat.lt_of_lt_of_le hi h.size) (.inl (by omega))).trans (h.old i hi),k.os.trans h.os,k.tape.trans h.tape,k.output.trans h.output,Nat.le_refl _⟩
end But
theorem Blk.but {w w':World} {g k:Nat} {t u:TypeId} {cs:Array Value} (h:Blk w k cs u) (m:But g t w w') (hne:k≠g∨u≠t):Blk w' k cs u :=
  (m.old k h.lt (hne.imp id fun hn e=>hn (by rw[h.ty] at e;injection e))).trans h
theorem Own.but {α:Type} {d:Kind α} {e:TypeId} {B B0:Nat} {w w':World} {p:Option Addr} {n c:Nat} {xs:List α} (h:Own d e B B0 w p n c xs) {g:Nat} {t:TypeId} (m:But g t w w') (hg:g<B0∨e≠t) (hB:B≤g) (ht:t∉d.E):Own d e B B0 w' p n c xs :=
  h.of_heap (fun k hk ho=>m.old k hk (ho.imp (fun h=>by omega) fun ⟨u,hu,hty⟩=>by rw[hty];intro e;injection e with e;exact ht (e ▸ hu)))
    (fun k hk hlt=>by
      rcases h.form with ⟨h1,_,_⟩ | ⟨g1,cur,h1,h2,h3,_⟩
      · rw[h1] at hk;cases hk
      · rw [h1] at hk; injection hk with hk; injection hk with hk; subst hk
        exact m.old _ hlt (hg.imp (fun h=>by omega) fun hn e=>hn (by rw[h3.ty] at e;injection e)))
structure RndG (Bd g:Nat) (E:List TypeId) (w w':World):Prop where
  size:w.heap.size≤w'.heap.size
  old:∀ k,k<w.heap.size→(k<Bd∨∃ t,ty w k=some t∧(t∉E∨k=g))→w'.heap[k]? = w.heap[k]?
namespace RndG
variable {Bd g : Nat} {E : List TypeId} {a b c : World} {B : Nat} {t : TypeId}
theorem refl (Bd g:Nat) (E:List TypeId) (w:World):RndG Bd g E w w:=⟨Nat.le_refl _,fun _ _ _=>rfl⟩
theorem trans (h:RndG Bd g E a b) (k:RndG Bd g E b c):RndG Bd g E a c:=⟨Nat.le_trans h.size k.size,fun i hi ho=>(k.old i (Nat.lt_of_lt_of_le hi h.size) (ho.imp id fun ⟨t,h1,h2⟩=>⟨t,by rw[B7 (h.old i hi ho)];exact h1,h2⟩)).trans (h.old i hi ho)⟩
theorem ofExt (h:Ext a b):RndG Bd g E a b:=⟨h.size,fun k hk _=>h.old k hk⟩
theorem ext (h:RndG Bd g E a b) (k:Ext b c):RndG Bd g E a c:=h.trans (.ofExt k)
theorem ofLp (h:Lp B a b) (hB:Bd≤B):RndG Bd g E a b:=⟨Nat.le_of_eq h.size.symm,fun k hk ho=>h.old k (ho.imp (fun h=>by omega) fun ⟨t,h1,_⟩=>by rw[h1];simp)⟩
theorem ofMod (h:Mod B t a b) (ht:t∈E) (hg:g<B) (hB:Bd≤B):RndG Bd g E a b:=⟨h.size,fun k hk hu=>h.old k hk (by
  rcases hu with hu | ⟨u,h1,hu | hu⟩
  · exact .inl (by omega)
  · exact .inr (by rw[h1];intro e;injection e with e;exact hu (by rw[e];exact ht))
  · subst hu;exact .inl hg)⟩
theorem mod (h:RndG Bd g E a b) (m:Mod B t b c) (ht:t∈E∧g<B∧Bd≤B):RndG Bd g E a c:=h.trans (.ofMod m ht.1 ht.2.1 ht.2.2)
theorem put {k:Nat} {cs:Array Value} (h:RndG Bd g E a b) (m:Put b c k cs t) (ht:t∈E∧k≠g∧Bd≤k):RndG Bd g E a c:=h.trans ⟨by rw[m.size];exact Nat.le_refl _,fun i hi hu=>m.old i (fun e=>by
  subst e
  rcases hu with hu | ⟨u,h1,hu⟩
  · omega
  · rw [m.was] at h1; injection h1 with h1; subst h1
    rcases hu with hu | hu
    · exact hu ht.1
    · exact ht.2.1 hu)⟩
end RndG
theorem Blk.rndG {w w':World} {Bd g k:Nat} {cs:Array Value} {u:TypeId} {E:List TypeId} (h:Blk w k cs u) (m:RndG Bd g E w w') (hu:k<Bd∨u∉E∨k=g):Blk w' k cs u:=(m.old k h.lt (hu.imp id fun hu=>⟨u,h.ty,hu⟩)).trans h
theorem Sl.rndG {α:Type} {d:Kind α} {e:TypeId} {B:Nat} {w w':World} {p:Option Addr} {n c:Nat} {xs:List α} (h:Sl d e B w p n c xs) {Bd g:Nat} {E:List TypeId} (m:RndG Bd g E w w') (hB:B≤Bd) (ht:∀ t,t∈e :: d.E→t∉E):Sl d e B w' p n c xs :=
  h.keep fun k hk ho=>m.old k hk (ho.imp (fun h=>by omega) fun ⟨t,h1,h2⟩=>⟨t,h2,.inl (ht t h1)⟩)
structure Nn (w w':World):Prop where
  size:w.heap.size≤w'.heap.size
  old:∀ k,k<w.heap.size→ty w k=none→w'.heap[k]? = w.heap[k]?
namespace Nn
variable {a b c : World} {B g : Nat} {t : TypeId}
theorem refl (w:World):Nn w w:=⟨Nat.le_refl _,fun _ _ _=>rfl⟩
theorem trans (h:Nn a b) (k:Nn b c):Nn a c:=⟨Nat.le_trans h.size k.size,fun i hi hn=>(k.old i (Nat.lt_of_lt_of_le hi h.size) (by rw[B7 (h.old i hi hn)];exact hn)).trans (h.old i hi hn)⟩
theorem ext (h:Nn a b) (x:Ext b c):Nn a c:=h.trans ⟨x.size,fun k hk _=>x.old k hk⟩
theorem mod (h:Nn a b) (m:Mod B t b c):Nn a c:=h.trans ⟨m.size,fun k hk hn=>m.old k hk (.inr (by rw[hn];simp))⟩
theorem put {cs:Array Value} (h:Nn a b) (p:Put b c g cs t):Nn a c:=h.trans ⟨by rw[p.size];exact Nat.le_refl _,fun k _ hn=>p.old k (fun e=>by subst e;rw[p.was] at hn;cases hn)⟩
end Nn
structure Tv:Prop where
  mk ::
theorem Tv.ext {w w':World} (h:Tv) (_:Ext w w'):Tv:=h
theorem Tv.put {w w':World} {g:Nat} {cs:Array Value} {t:TypeId} (h:Tv) (_:Put w w' g cs t) (_:True):Tv:=h
structure Up (B:Nat) (w:World):Prop where
  le:B≤w.heap.size
theorem Up.ext {B:Nat} {w w':World} (h:Up B w) (x:Ext w w'):Up B w':=⟨Nat.le_trans h.le x.size⟩
theorem Up.put {B:Nat} {w w':World} (h:Up B w) {g:Nat} {cs:Array Value} {t:TypeId} (p:Put w w' g cs t):Up B w':=⟨by rw[p.size];exact h.le⟩
section
variable {P : Program} {fn : Func} {R : Value → World → Prop} {n : Nat} {f : Nat → Value} {w : World} {t u : Nat} {v x : Value} {B : Nat} {T U t' u' : TypeId} {g h : Nat}
theorem O1 {tmps:Array Value} {w':World} (hu:(P.underlying T).map TypeDesc.isRow=some false) (hv:tmps.getD t undef = .pointer (some ⟨g,0,none⟩)) (hB:Blk w' g #[v] t') :
    ((asAddr (tmps.getD t undef)).run P w').andThen (fun a w₁=>(loadVar T a).run P w₁) = .ok v w':=by
  obtain⟨d,hu,hd⟩:=Option.map_eq_some_iff.1 hu
  rw[hv]
  have hc:w'.cell? ⟨g,0,none⟩=some v:=hB.cell rfl
  have hrun:=H2 (P:=P) hu hd hc
  simpa [asAddr] using hrun
theorem X5 (Ds:List Nat) (hr:fn.results=#[.cell t T,.cell u U]) (hT:(P.underlying T).map TypeDesc.isRow=some false) (hU:(P.underlying U).map TypeDesc.isRow=some false) (hv:ev n f (.tmp t) = .pointer (some ⟨g,0,none⟩)) (hx:ev n f (.tmp u) = .pointer (some ⟨h,0,none⟩))
    (hB:Blk w g #[v] t') (hC:Blk w h #[x] u') (hs:f sp=encDs Ds) (hD:Dfs B w Ds) (hR:∀ w',Lp B w w'→R (.tuple #[v,x]) w'):EndM P fn R .ret (fr n f) w:=by
  refine⟨?_⟩
  show LeavesInM _ _ _ _ _ _ (decD (f sp)) _ _
  rw[hs,L3]
  refine Sw Ds w hD fun w' hl=>⟨.tuple #[v,x],?_,_,rfl,hR w' hl⟩
  have e1:(fr n f).tmps.getD t undef = .pointer (some ⟨g,0,none⟩):=by rw[← hv,← Bn];rfl
  have e2:(fr n f).tmps.getD u undef = .pointer (some ⟨h,0,none⟩):=by rw[← hx,← Bn];rfl
  have h1:=O1 (P:=P) hT e1 (hB.lp hl)
  have h2:=O1 (P:=P) hU e2 (hC.lp hl)
  have e0:∀ t,(fr n f).tmps[t]?.getD undef=(fr n f).tmps.getD t undef:=by intro t;simp
  simp only[results,hr]
  simp[Sem.run_bind]
  rw[e0,e0,← Dw,h1]
  show (((asAddr ((fr n f).tmps.getD u undef)).run P w').andThen fun a_1 w'=>_)=_
  rw[← Dw,h2]
  rfl
end
section
variable {P : Program} {fn : Func} {R : Value → World → Prop} {n : Nat} {f : Nat → Value} {w : World} {t u s : Nat} {T t' : TypeId} {g : Nat} {cs : Array Value} {v x : Value}
theorem end3c (hr:fn.results=#[.cell t T,.tmp u,.tmp s]) (hu:(P.underlying T).map TypeDesc.isRow=some true) (hv:ev n f (.tmp t) = .pointer (some ⟨g,0,none⟩)) (hx:ev n f (.tmp u)=v) (hy:ev n f (.tmp s)=x) (hB:Blk w g cs t') (hi:(P.info? T).map (·.size)=some cs.size) (h:R (.tuple #[.agg cs,v,x]) w) (hd:decD (f sp)=[]:=by rfl) :
    End P fn R .ret (fr n f) w:=by
  refine⟨bodyPost_ret (v := .tuple #[.agg cs,v,x]) ?_ hd ⟨_,rfl,h⟩⟩
  have hrun:=Cl hu hv hB hi
  have e0:∀ t,(fr n f).tmps[t]?.getD undef=(fr n f).tmps.getD t undef:=by intro t;simp
  have e2:(fr n f).tmps.getD u undef=v:=by rw[← hx,← Bn];rfl
  have e3:(fr n f).tmps.getD s undef=x:=by rw[← hy,← Bn];rfl
  simp only[results,hr]
  simp[Sem.run_bind]
  rw[e0,e0,e0,e2,e3,← Dw,hrun]
  rfl
end
def dig:Nat→Nat→List UInt8
  | 0,_=>[]
  | k+1,n=>dig k (n / 10)++[UInt8.ofNat (48+n % 10)]
def begF:List UInt8:=[115,101,103,45]
def nameL (n:Nat):List UInt8:=begF++dig 6 n
def nameF (n:Int):List UInt8:=if n<1∨999999<n then [] else nameL n.toNat
theorem L2:∀ k n,(dig k n).length=k
  | 0,_=>rfl
  | k+1,n=>by rw[dig,List.length_append,L2 k];rfl
theorem Rk (n:Nat):(nameL n).length=10:=by rw[nameL,List.length_append,L2];rfl
theorem Jk (d:Nat):(UInt8.ofNat (48+d % 10)).toNat=48+d % 10:=by rw[UInt8.toNat_ofNat'];omega
theorem Od:∀ k n c,c∈dig k n→48≤c.toNat∧c.toNat≤57
  | 0,_,_,h=>by simp[dig] at h
  | k + 1, n, c, h => by
    rw[dig,List.mem_append] at h
    rcases h with h | h
    · exact Od k _ c h
    · have : c = UInt8.ofNat (48 + n % 10) := by simpa using h
      subst this
      rw[Jk];omega
def valF (l:List UInt8):Nat:=l.foldl (fun a c=>10 * a+(c.toNat - 48)) 0
theorem Tp:∀ k n,valF (dig k n)=n % 10 ^ k
  | 0,n=>by simp[dig,valF,Nat.mod_one]
  | k + 1, n => by
    have ih:=Tp k (n / 10)
    unfold valF at ih ⊢
    rw[dig,List.foldl_append,ih]
    show 10 * (n / 10 % 10 ^ k)+((UInt8.ofNat (48+n % 10)).toNat - 48)=_
    rw[Jk,Nat.pow_succ',Nat.mod_mul]
    omega
theorem L7 {n:Nat} (h:n≤999999):valF ((nameL n).drop 4)=n:=by
  show valF (dig 6 n)=n
  rw[Tp];omega
theorem Y4 {a b:Nat} (ha:a≤999999) (hb:b≤999999) (h:nameL a=nameL b):a=b:=by
  rw[← L7 ha,← L7 hb,h]
theorem Va:∀ k,dig k 0=List.replicate k 48
  | 0=>rfl
  | k+1=>by rw[dig,Va k,List.replicate_succ'];rfl
theorem X6:∀ (k n:Nat),n<10 ^ (k+1)→(Lib.decDigits n).length≤k+1
  | 0,n,h=>by rw[Lib.decDigits,dif_pos (by omega)];simp
  | k + 1, n, h => by
    rw[Lib.decDigits]
    split
    · simp
    · rw [List.length_append]
      have:=X6 k (n / 10) (by rw[Nat.pow_succ] at h;omega)
      simp;omega
theorem X7:∀ (k n:Nat),n<10 ^ (k+1)→List.replicate (k+1 - (Lib.decDigits n).length) 48++Lib.decDigits n=dig (k+1) n
  | 0, n, h => by
    have h':n<10:=by omega
    rw[Lib.decDigits,dif_pos h',dig,dig,Nat.mod_eq_of_lt h'];rfl
  | k + 1, n, h => by
    rw[dig,Lib.decDigits]
    split
    · rename_i h1
      rw[Nat.div_eq_of_lt h1,Va,Nat.mod_eq_of_lt h1];rfl
    · have h3 : n / 10 < 10 ^ (k + 1) := by rw [Nat.pow_succ] at h; omega
      rw[List.length_append,← X7 k (n / 10) h3,← List.append_assoc]
      congr 2
      show List.replicate (k+1+1 - (_+1)) _=_
      rw[Nat.add_sub_add_right]
theorem Y9 {n:Int} (h1:1≤n) (h2:n≤999999):(Lib.itoa n).length≤6∧begF++(List.replicate (6 - (Lib.itoa n).length) 48++Lib.itoa n)=nameL n.toNat:=by
  have e:Lib.itoa n=Lib.decDigits n.toNat:=by unfold Lib.itoa;rw[if_neg (by omega)]
  rw[e]
  exact⟨X6 5 _ (by omega),by rw[X7 5 _ (by omega)];rfl⟩
theorem Np:∀ (l:List UInt8) (a:Nat) (c:UInt8),Lib.decFrom a (l++[c])=(Lib.decFrom a l).bind fun n=>(Lib.digitVal c).map (n * 10 + ·)
  | [], a, c => by
    show Lib.decFrom a [c]=_
    unfold Lib.decFrom
    cases Lib.digitVal c <;> rfl
  | b :: l, a, c => by
    show Lib.decFrom a (b :: (l++[c]))=_
    unfold Lib.decFrom
    cases h:Lib.digitVal b with
    | none=>rfl
    | some d=>exact Np l _ c
theorem No:∀ k n,Lib.decFrom 0 (dig k n)=some (n % 10 ^ k)
  | 0,n=>by simp[dig,Lib.decFrom,Nat.mod_one]
  | k + 1, n => by
    rw[dig,Np,No k]
    have hd:Lib.digitVal (UInt8.ofNat (48+n % 10))=some (n % 10):=by
      unfold Lib.digitVal
      rw[Jk,if_pos (by omega)]
      congr 1;omega
    rw[hd]
    show some (n / 10 % 10 ^ k * 10+n % 10)=_
    rw[Nat.pow_succ',Nat.mod_mul]
    congr 1;omega
theorem Aca {n:Nat} (h:n≤999999):Lib.atoi (dig 6 n)=some (n:Int):=by
  have hl:=L2 6 n
  have hm:=Od 6 n
  have hd:=No 6 n
  rw[Nat.mod_eq_of_lt (by omega)] at hd
  cases hx:dig 6 n with
  | nil=>rw[hx] at hl;cases hl
  | cons b r =>
    have hb:=hm b (by rw[hx];simp)
    have n45:(b == 45)=false:=by
      rw[beq_eq_false_iff_ne];intro e;subst e;exact absurd hb.1 (by decide)
    have n43:(b == 43)=false:=by
      rw[beq_eq_false_iff_ne];intro e;subst e;exact absurd hb.1 (by decide)
    have hdn:Lib.decNat (b :: r)=some n:=by
      unfold Lib.decNat
      rw[if_neg (by simp),← hx,hd]
    simp[Lib.atoi,n45,n43,hdn]
def IsNum (s:List UInt8) (r:Int):Prop:=(∀ n:Nat,1≤n→n≤999999→s=nameL n→r=n)∧(r=0∨(1≤r∧r≤999999∧nameL r.toNat=s))
def Qt (w:World):Prop:=∀ i,i<16→w.cell? ⟨4,i,none⟩=some (.int .u32 ((quart.getD i 0:Nat):Int))
theorem Qt.ext {w w':World} (h:Qt w) (x:Ext w w'):Qt w':=fun i hi=>x.cell (h i hi)
theorem G4 {w w':World} {g:Nat} {b:UInt8} (hN:New w w' g #[cell b] 5) {B0:Nat} (hB:B0≤w.heap.size):Own kByte 5 0 B0 w' (some ⟨g,0,none⟩) 1 1 [b] :=
  Own.made kByte 5 0 B0 hN [b] [[cell b]] 1 1 rfl (B6 _ _ _) hB (by omega) (by omega) (by rfl) (by rfl)
theorem Rf {w w':World} {g:Nat} (hN:New w w' g #[] 5) {B0:Nat} (hB:B0≤w.heap.size):Own kByte 5 0 B0 w' (some ⟨g,0,none⟩) 0 0 [] :=
  Own.made kByte 5 0 B0 hN [] [] 0 0 rfl trivial hB (by omega) (by omega) (by rfl) (by rfl)
section
variable {w w' : World} {g B B0 : Nat} {p1 p2 p3 : Option Addr} {n1 n2 n3 c1 c2 c3 : Nat} {a b c : List UInt8} {e : TypeId}
theorem Acx (hN:New w w' g #[.slice p1 n1 c1] e) (h1:Sl kByte 5 B w' p1 n1 c1 a) (hB:B0≤w.heap.size):Own (kSl kByte 5) e B B0 w' (some ⟨g,0,none⟩) 1 1 [a] :=
  Own.made (kSl kByte 5) e B B0 hN [a] [[.slice p1 n1 c1]] 1 1 rfl ⟨⟨_,_,_,rfl,h1⟩,trivial⟩ hB (by omega) (by omega) (by rfl) (by rfl)
theorem Aad (hN:New w w' g #[.slice p1 n1 c1] e) (h1:Sl kByte 5 B w' p1 n1 c1 a):Sl (kSl kByte 5) e B w' (some ⟨g,0,none⟩) 1 1 [a]:=(Acx (B0:=0) hN h1 (Nat.zero_le _)).sl
theorem Aac (hN:New w w' g #[.slice p1 n1 c1,.slice p2 n2 c2] e) (h1:Sl kByte 5 B w' p1 n1 c1 a) (h2:Sl kByte 5 B w' p2 n2 c2 b):Sl (kSl kByte 5) e B w' (some ⟨g,0,none⟩) 2 2 [a,b] :=
  (Own.made (kSl kByte 5) e B 0 hN [a,b] [[.slice p1 n1 c1],[.slice p2 n2 c2]] 2 2 rfl ⟨⟨_,_,_,rfl,h1⟩,⟨_,_,_,rfl,h2⟩,trivial⟩ (Nat.zero_le _) (by omega) (by omega) (by rfl) (by rfl)).sl
theorem Tr (hN:New w w' g #[.slice p1 n1 c1,.slice p2 n2 c2,.slice p3 n3 c3] e) (h1:Sl kByte 5 B w' p1 n1 c1 a) (h2:Sl kByte 5 B w' p2 n2 c2 b) (h3:Sl kByte 5 B w' p3 n3 c3 c):Sl (kSl kByte 5) e B w' (some ⟨g,0,none⟩) 3 3 [a,b,c] :=
  (Own.made (kSl kByte 5) e B 0 hN [a,b,c] [[.slice p1 n1 c1],[.slice p2 n2 c2],[.slice p3 n3 c3]] 3 3 rfl ⟨⟨_,_,_,rfl,h1⟩,⟨_,_,_,rfl,h2⟩,⟨_,_,_,rfl,h3⟩,trivial⟩ (Nat.zero_le _) (by omega) (by omega) (by rfl) (by rfl)).sl
end
theorem flat3 (kd:UInt8) (xs:List UInt8) (n:Nat) (h:xs.length=n):[[kd],lebU n,xs].flatten=bodyF kd xs:=by subst h;simp[bodyF]
theorem flat2 (b:List UInt8):[b,sumB b].flatten=b++sumB b:=by simp
theorem Hn {α β:Type} {f:α→List β} [Inhabited α] {xss:List α} {k:Nat} {z:α} (h:k<xss.length):(xss.take (k+1)).flatMap f=(xss.take k).flatMap f++f (xss.getD k z):=by
  have e:xss.getD k z=xss[k]:=by rw[List.getD_eq_getElem?_getD,List.getElem?_eq_getElem h];rfl
  rw[e,List.take_succ_eq_append_getElem h,List.flatMap_append];simp
theorem Ny {α β:Type} (f:α→List β) (xss:List α) (k:Nat):((xss.take k).flatMap f).length≤(xss.flatMap f).length:=by
  conv=>rhs;rw[← List.take_append_drop k xss]
  rw[List.flatMap_append,List.length_append];omega
theorem Mt {α β:Type} [Inhabited α] {f:α→List β} {xss:List α} {k:Nat} {z:α} (h:k<xss.length):((xss.take k).flatMap f).length+(f (xss.getD k z)).length≤(xss.flatMap f).length:=by
  have h1:=Ny f xss (k+1)
  rw[Hn (z:=z) h,List.length_append] at h1
  exact h1
theorem Aap {xss:List (List UInt8)} {i:Nat} (hi:i<xss.length) (h:1048576<(xss.getD i []).length):putF xss=([],5):=by
  unfold putF
  rw[if_neg]
  intro ha
  rw[List.all_eq_true] at ha
  have e:xss.getD i []=xss[i]:=by rw[List.getD_eq_getElem?_getD,List.getElem?_eq_getElem hi];rfl
  have:=ha xss[i] (List.getElem_mem hi)
  rw[← e] at this
  have:=of_decide_eq_true this
  omega
theorem Ac6 {xss:List (List UInt8)} (h:∀ i,i<xss.length→(xss.getD i []).length≤1048576):putF xss=(xss.flatMap (sealF 1),0):=by
  unfold putF
  rw[if_pos]
  rw[List.all_eq_true]
  intro x hx
  obtain⟨i,hi,rfl⟩:=List.getElem_of_mem hx
  have:=h i hi
  rw[List.getD_eq_getElem?_getD,List.getElem?_eq_getElem hi] at this
  exact decide_eq_true this
def Fx (w:World) (a0 a1 a2:Nat) (w':World):Prop:=∀ w0,Ext w0 w→w0.heap.size≤a0→w0.heap.size≤a1→w0.heap.size≤a2→Ext w0 w'
theorem Fx.refl (w:World) (a0 a1 a2:Nat):Fx w a0 a1 a2 w:=fun _ h _ _ _=>h
theorem Fx.ext {w w' w'':World} {a0 a1 a2:Nat} (h:Fx w a0 a1 a2 w') (x:Ext w' w''):Fx w a0 a1 a2 w'':=fun w0 h0 h1 h2 h3=>(h w0 h0 h1 h2 h3).trans x
theorem Fx.put {w w' w'':World} {a0 a1 a2 g:Nat} {cs:Array Value} {t:TypeId} (h:Fx w a0 a1 a2 w') (p:Put w' w'' g cs t) (hg:g=a0∨g=a1∨g=a2∨w.heap.size≤g):Fx w a0 a1 a2 w'' :=
  fun w0 h0 h1 h2 h3=>(h w0 h0 h1 h2 h3).put p (by have:=h0.size;rcases hg with rfl | rfl | rfl | hg <;> omega)
theorem flat1 {α:Type} (x:List α):[x].flatten=x:=by simp
theorem Qz {Bl B:Nat} {w w':World} {p:Option Addr} {n c:Nat} {x:List UInt8} {E:List TypeId} (h:Own kByte 5 0 Bl w p n c x) (hs:Same B E w w') (h5:5∈E):Own kByte 5 0 Bl w' p n c x :=
  h.of_heap (fun k hk ho=>by
    rcases ho with ho | ⟨t,ht,_⟩
    · omega
    · simp[kByte,Kind.pure] at ht) (fun k hk hlt=>by
    rcases h.form with ⟨h1,_,_⟩ | ⟨g,cur,h1,_,h3,_⟩
    · rw[h1] at hk;cases hk
    · rw [h1] at hk; injection hk with hk; injection hk with hk; subst hk
      exact hs _ hlt (.inr ⟨5,h5,h3.ty⟩))
def kOb (Bl:Nat):Kind (List UInt8) where
  sz:=1
  E:=[5]
  K:=fun _ w x cs=>∃ p n c,cs=[.slice p n c]∧Own kByte 5 0 Bl w p n c x
  len:=by rintro _ _ _ _ ⟨p,n,c,rfl,_⟩;rfl
  one:=by
    rintro _ _ _ _ ⟨p,n,c,rfl,_⟩ v hv
    simp only[List.mem_singleton] at hv
    subst hv;rfl
  keep:=fun hs ⟨p,n,c,h1,h2⟩=>⟨p,n,c,h1,Qz h2 hs (by simp)⟩
  mono:=fun _ h=>h
theorem Im {Bl:Nat}:0<(kOb Bl).sz:=Nat.one_pos
def kFo (Bl:Nat):Kind Frm where
  sz:=2
  E:=[5]
  K:=fun _ w x cs=>∃ p n c,cs=[.int .u8 (x.1.toNat:Int),.slice p n c]∧Own kByte 5 0 Bl w p n c x.2
  len:=by rintro _ _ _ _ ⟨p,n,c,rfl,_⟩;rfl
  one:=by
    rintro _ _ _ _ ⟨p,n,c,rfl,_⟩ v hv
    simp only[List.mem_cons,List.not_mem_nil,or_false] at hv
    rcases hv with rfl | rfl <;> rfl
  keep:=fun hs ⟨p,n,c,h1,h2⟩=>⟨p,n,c,h1,Qz h2 hs (by simp)⟩
  mono:=fun _ h=>h
theorem N9 {Bl:Nat}:0<(kFo Bl).sz:=Nat.succ_pos 1
section
variable {w w' : World} {g Bl B B0 : Nat} {p : Option Addr} {n c : Nat} {e : TypeId}
theorem So {x:List UInt8} (hN:New w w' g #[.slice p n c] e) (h:Own kByte 5 0 Bl w' p n c x):Sl (kOb Bl) e 0 w' (some ⟨g,0,none⟩) 1 1 [x] :=
  (Own.made (kOb Bl) e 0 0 hN [x] [[.slice p n c]] 1 1 rfl ⟨⟨_,_,_,rfl,h⟩,trivial⟩ (Nat.zero_le _) (by omega) (by omega) (by rfl) (by rfl)).sl
theorem Adq {x:Frm} (hN:New w w' g #[.int .u8 (x.1.toNat:Int),.slice p n c] e) (h:Own kByte 5 0 Bl w' p n c x.2):Sl (kFo Bl) e 0 w' (some ⟨g,0,none⟩) 1 1 [x] :=
  (Own.made (kFo Bl) e 0 0 hN [x] [[.int .u8 (x.1.toNat:Int),.slice p n c]] 1 1 rfl ⟨⟨_,_,_,rfl,h⟩,trivial⟩ (Nat.zero_le _) (by omega) (by omega) (by rfl) (by rfl)).sl
theorem Sl.obAt {xs:List (List UInt8)} (h:Sl (kOb Bl) e B w p n c xs) (i:Nat) (hi:i<n):∃ q m c1,w.cell? ⟨ab p,ao p+i,none⟩=some (.slice q m c1)∧Own kByte 5 0 Bl w q m c1 (xs.getD i []):=by
  obtain⟨cs,⟨q,m,c1,rfl,hs⟩,hr⟩:=h.get [] i hi
  have:=hr 0 _ rfl
  have e1:(kOb Bl).sz=1:=rfl
  rw[e1] at this
  exact⟨q,m,c1,by simpa using this,hs⟩
theorem Sl.foAt {xs:List Frm} (h:Sl (kFo Bl) e B w p n c xs) (i:Nat) (hi:i<n):∃ q m c1,w.cell? ⟨ab p,ao p+i * 2,none⟩=some (.int .u8 ((xs.getD i (0,[])).1.toNat:Int))∧w.cell? ⟨ab p,ao p+i * 2+1,none⟩=some (.slice q m c1)∧Own kByte 5 0 Bl w q m c1 (xs.getD i (0,[])).2:=by
  obtain⟨cs,⟨q,m,c1,rfl,hs⟩,hr⟩:=h.get (0,[]) i hi
  exact⟨q,m,c1,hr 0 _ rfl,hr 1 _ rfl,hs⟩
theorem Sl.obSl {xs:List (List UInt8)} (h:Sl (kOb Bl) e 0 w p n c xs):Sl (kSl kByte 5) e 0 w p n c xs :=
  h.imp (Nat.le_refl _) fun x cs ⟨p,n,c,h1,h2⟩=>⟨p,n,c,h1,h2.sl⟩
end
theorem Mm (b:List UInt8):getSg b=if (scanF b).2=0∧(scanF b).1.all (fun x=>decide (x.1=1))=true then ((scanF b).1.map (·.2),0) else ([],4):=by
  unfold getSg
  rw[Vc b.length b (Nat.le_refl _)]
  by_cases h:(scanF b).2=0∧(scanF b).1.all (fun x=>decide (x.1=1))=true
  · rw[if_pos h,if_pos h]
  · rw[if_neg h,if_neg h]
theorem Acc {l:List Frm} (h:∀ i,i<l.length→(l.getD i (0,[])).1=1):l.all (fun x=>decide (x.1=1))=true:=by
  rw[List.all_eq_true]
  intro x hx
  obtain⟨i,hi,rfl⟩:=List.getElem_of_mem hx
  have:=h i hi
  rw[List.getD_eq_getElem?_getD,List.getElem?_eq_getElem hi] at this
  exact decide_eq_true this
theorem Aa0 {l:List Frm} {i:Nat} (hi:i<l.length) (h:(l.getD i (0,[])).1≠1):¬ l.all (fun x=>decide (x.1=1))=true:=by
  intro ha
  rw[List.all_eq_true] at ha
  have:=ha l[i] (List.getElem_mem hi)
  rw[List.getD_eq_getElem?_getD,List.getElem?_eq_getElem hi] at h
  exact h (of_decide_eq_true this)
theorem Qk {α β:Type} (f:α→β) {l:List α} {k:Nat} (z:α) (h:k<l.length):(l.take (k+1)).map f=(l.take k).map f++[f (l.getD k z)]:=by
  have e:l.getD k z=l[k]:=by rw[List.getD_eq_getElem?_getD,List.getElem?_eq_getElem h];rfl
  rw[e,List.take_succ_eq_append_getElem h,List.map_append];rfl
theorem K0 {b:List UInt8} (h:(openF b).2.2=0):0<(openF b).2.1∧(openF b).2.1≤b.length∧(openF b).1.2.length≤b.length:=by
  have hk:=G3 h
  have:=congrArg List.length hk.2.2.2.2
  rw[H1,H9,List.length_take] at this
  omega
theorem Vz:∀ (n:Nat) (b:List UInt8),b.length≤n→(scanF b).1.length≤b.length:=by
  intro n
  induction n with
  | zero =>
    intro b hb
    have:b=[]:=List.length_eq_zero_iff.1 (by omega)
    subst this
    rw[Fp (by decide)];decide
  | succ n ih =>
    intro b hb
    by_cases h:(openF b).2.2=0
    · have hu := K0 h
      have:=ih (b.drop (openF b).2.1) (by rw[List.length_drop];omega)
      rw[List.length_drop] at this
      rw[O0 h]
      show (scanF (b.drop (openF b).2.1)).1.length+1≤_
      omega
    · rw [Fp h]
      split <;> exact Nat.zero_le _
theorem Yq (b:List UInt8):(scanF b).1.length≤b.length:=Vz b.length b (Nat.le_refl _)
structure Ck where
  p:Option Addr
  n:Nat
  c:Nat
  body:List UInt8
  e:Int
def encC (x:Ck):List Value:=[.slice x.p x.n x.c,.int .i64 x.e]
def XC (Bl:Nat) (b0:List UInt8) (pre:List Ck) (x:Ck) (W:World):Prop:=Own kByte 5 0 Bl W x.p x.n x.c x.body∧(x.e=0∨(x.e=4∧Ce b0=none))∧pre.length<b0.length
def SC (b0:List UInt8) (xs:List Ck):Prop:=(∀ x∈xs,x.e=0)→Ce b0=some (xs.map (·.body))
theorem Qt.lt {w:World} (h:Qt w):4<w.heap.size:=World.block_lt_of_cell? w ⟨4,0,none⟩ (h 0 (by omega))
theorem Qt.rndG {w w':World} (h:Qt w) {Bd g:Nat} {E:List TypeId} (m:RndG Bd g E w w') (hB:4<Bd):Qt w':=fun i hi=>(World.cell?_of_block (w:=w) (m.old 4 h.lt (.inl hB))).trans (h i hi)
theorem Qt.but {w w':World} (h:Qt w) {g:Nat} {t:TypeId} (m:But g t w w') (hg:4≠g):Qt w':=fun i hi=>(World.cell?_of_block (w:=w) (m.old 4 h.lt (.inl hg))).trans (h i hi)
theorem Vb {b0 rest bd tl:List UInt8} {pre:List Ck} {x:Ck} (hC:Ce b0=(Ce rest).map (fun l=>pre.map (·.body)++l)) (hx:x.body=bd) (hCo:Ce rest=(Ce tl).map (bd :: ·)) :
    Ce b0=(Ce tl).map (fun l=>(pre++[x]).map (·.body)++l):=by
  rw[hC,hCo,Option.map_map,List.map_append]
  congr 1
  funext l
  simp[hx]
theorem Bo (xs:List UInt8):(toStr xs).size=xs.length:=by unfold toStr;simp[ByteArray.size]
theorem Fe (xs ys:List UInt8):toStr xs++toStr ys=toStr (xs++ys):=by
  apply ByteArray.ext
  simp[toStr,ByteArray.data_append]
theorem Kn (xs:List UInt8) (a b:Nat):(toStr xs).extract a b=toStr ((xs.take b).drop a):=by
  apply ByteArray.ext
  apply Array.ext'
  simp[toStr,ByteArray.data_extract,List.drop_take]
theorem Ve (xs:List UInt8) (k:Nat):btAt (toStr xs) k=xs.getD k 0:=by unfold btAt toStr;simp
section
variable {P : Program} {N : Nat} {f : Nat → Value} {w : World} {dst : Option Nat} {T T' ty0 : TypeId} {pos : String} {aft : Array Edge} {gd : Option (Nat × Bool)} {x y u : Operand} {xs ys : List UInt8} {k k' : IntKind} {a b : Nat}
theorem Ib (hx:ev N f x = .string (toStr xs)) (hy:ev N f y = .string (toStr ys)) (h:xs.length+ys.length≤9223372036854775807):Ex P w N f ⟨dst,.binOp .add T x y T',ty0,pos,aft,gd⟩ (.string (toStr (xs++ys))):=by
  refine Ci hx hy (H7 _ _) ?_
  have h1:¬ (IntKind.i64.max<(((toStr xs).size+(toStr ys).size:Nat):Int)):=by rw[Bo,Bo];show ¬ ((9223372036854775807:Int)<_);omega
  simp only[binOp,Op.stringOp]
  rw[if_neg (by exact h1),Fe]
  rfl
theorem Kt (hT:P.underlying T=some .string) (hx:ev N f x = .string (toStr xs)):Ex P w N f ⟨dst,.call ⟨.builtin .len,#[x],#[T]⟩,ty0,pos,aft,gd⟩ (.int .i64 (xs.length:Int)):=by
  have:=Dt (P:=P) (w:=w) (dst:=dst) (ty:=ty0) (pos:=pos) (aft:=aft) (gd:=gd) hT hx
  rwa [Bo] at this
theorem Nr (hT:P.underlying T=some .string) (hx:ev N f x = .string (toStr xs)) (hy:ev N f y = .int k (a:Int)) (hu:ev N f u = .int k' (b:Int)) (h1:a≤b) (h2:b≤xs.length) :
    Ex P w N f ⟨dst,.slice T x (some y) (some u) none,ty0,pos,aft,gd⟩ (.string (toStr ((xs.take b).drop a))):=by
  have:=Of (P:=P) (w:=w) (dst':=dst) (ty0:=ty0) (pos:=pos) (aft:=aft) (gd:=gd) hT hx hy hu (by omega) (by omega) (by rw[Bo];omega)
  rw[Kn] at this
  exact this
theorem Og (hT:P.underlying T=some .string) (hx:ev N f x = .string (toStr xs)) (hy:ev N f y = .int k (a:Int)) (h1:a≤xs.length) :
    Ex P w N f ⟨dst,.slice T x (some y) none none,ty0,pos,aft,gd⟩ (.string (toStr (xs.drop a))):=by
  have hs:(toStr xs).size=xs.length:=Bo xs
  have e:(toStr xs).extract a xs.length=toStr (xs.drop a):=by rw[Kn,List.take_length]
  unfold Ex execOp
  simp only[Option.map,hx,hy]
  simp[Instr.sliceAt,Instr.slice,Sem.run_bind,run_underlying hT,Instr.sliceBounds,Instr.sliceBound,asIntOf,hs,h1,e]
end
def digs:List UInt8:=[48,49,50,51,52,53,54,55,56,57]
theorem Adw:∀ d,d<10→((digs.take (d+1)).drop d)=[UInt8.ofNat (48+d % 10)]:=by decide
theorem Ab0 {i m:Nat} {acc:List UInt8} (h:i<6):dig (6 - (i+1)) (m / 10)++([UInt8.ofNat (48+m % 10 % 10)]++acc)=dig (6 - i) m++acc:=by
  rw[show 6 - i=(6 - (i+1))+1 by omega,dig,Nat.mod_mod,List.append_assoc]
theorem Aa3 {n j:Nat} (h1:4≤j) (h2:j<10):48≤((nameL n).getD j 0).toNat∧((nameL n).getD j 0).toNat≤57:=by
  have hl:=L2 6 n
  have e:(nameL n).getD j 0=(dig 6 n).getD (j - 4) 0:=by
    unfold nameL
    rw[List.getD_eq_getElem?_getD,List.getElem?_append_right (by show 4≤j;exact h1),List.getD_eq_getElem?_getD];rfl
  rw[e]
  apply Od 6 n
  rw[List.getD_eq_getElem?_getD,List.getElem?_eq_getElem (by omega)]
  exact List.getElem_mem _
theorem Yh {xs:List UInt8} {k:Nat} (h4:4≤k) (h:k<xs.length):valF ((xs.take (k+1)).drop 4)=10 * valF ((xs.take k).drop 4)+((xs.getD k 0).toNat - 48):=by
  have e:xs.getD k 0=xs[k]:=by rw[List.getD_eq_getElem?_getD,List.getElem?_eq_getElem h];rfl
  rw[List.take_succ_eq_append_getElem h,List.drop_append_of_le_length (by rw[List.length_take];omega),e]
  unfold valF
  rw[List.foldl_append];rfl
theorem Acq {v d k:Nat} (h4:4≤k) (h:k<10) (hv:v<10 ^ (k - 4)) (hd:d≤9):10 * v+d<10 ^ (k+1 - 4)∧v<100000:=by
  have:k=4∨k=5∨k=6∨k=7∨k=8∨k=9:=by omega
  rcases this with rfl | rfl | rfl | rfl | rfl | rfl <;> (simp at hv ⊢;omega)
theorem Ui {xs:List UInt8} (h:xs.length≠10):IsNum xs 0:=⟨fun n _ _ e=>by subst e;exact absurd (Rk n) h,.inl rfl⟩
theorem Add {xs:List UInt8} {k:Nat} (h1:4≤k) (h2:k<10) (h:(xs.getD k 0).toNat<48∨57<(xs.getD k 0).toNat):IsNum xs 0 :=
  ⟨fun n _ _ e=>by subst e;have:=Aa3 (n:=n) h1 h2;omega,.inl rfl⟩
theorem Lk {n:Int} (h1:1≤n) (h2:n≤999999):nameF n=nameL n.toNat:=if_neg (by omega)
theorem Uh {xs:List UInt8} {n:Int} (hx:xs≠[]) (h:nameF n=xs):IsNum xs n:=by
  by_cases hn:n<1∨999999<n
  · exact absurd (h.symm.trans (if_pos hn)) hx
  · have h2 : nameL n.toNat = xs := (Lk (by omega) (by omega)).symm.trans h
    refine⟨fun m h3 h4 e=>?_,.inr ⟨by omega,by omega,h2⟩⟩
    have:=Y4 (a:=n.toNat) (b:=m) (by omega) h4 (h2.trans e)
    omega
theorem Xq {xs:List UInt8} {n:Int} (hv:∀ m:Nat,1≤m→m≤999999→xs=nameL m→n=m) (h:nameF n≠xs):IsNum xs 0 :=
  ⟨fun m h1 h2 e=>by
    have:=hv m h1 h2 e
    subst this
    have h9:nameF (m:Int)=nameL m:=by rw[Lk (by omega) (by omega),Int.toNat_natCast]
    exact absurd (h9.trans e.symm) h,.inl rfl⟩
theorem Xg {P:Program} {w w':World} {nm:String} {cs:Array Value} (h:w.var? P nm=some cs) (x:Ext w w'):w'.var? P nm=some cs:=by
  unfold World.var? at h ⊢
  cases hg:P.globalNamed nm with
  | none=>rw[hg] at h;cases h
  | some g =>
    rw[hg] at h
    simp only[Option.bind_some] at h ⊢
    have hlt:g<w.heap.size:=by
      rcases Nat.lt_or_ge g w.heap.size with h1 | h1
      · exact h1
      · rw[Array.getElem?_eq_none h1] at h;cases h
    rw[x.old g hlt];exact h
structure Gl (w:World):Prop where
  q:Qt w
  t : Lib.TabIs Tryz.prog w "internal/strconv.uint64pow10" .u64 Lib.pow10Tab
  e : ∃ tp p, w.var? Tryz.prog "strconv.ErrSyntax" = some #[.iface tp p]
theorem Gl.ext {w w':World} (h:Gl w) (x:Ext w w'):Gl w':=⟨h.q.ext x,Xg h.t x,by obtain⟨tp,p,he⟩:=h.e;exact⟨tp,p,Xg he x⟩⟩
theorem Abw (w:World) (k:Nat) (os:Array Obj):Ext w (Sort.grow (w.drewN k) os) :=
  ⟨by show w.heap.size≤(w.heap++os).size;rw[Array.size_append];omega,fun i hi=>by show (w.heap++os)[i]? = _;rw[Array.getElem?_append_left hi],rfl,rfl,rfl,Nat.le_refl _⟩
theorem Fk (xs:List UInt8):(toStr xs).data.toList=xs:=by unfold toStr;simp
theorem Abb (n:Int) (h1:1≤n) (h2:n≤999999) (w:World) (hg:Gl w):Ret Tryz.prog 96 [.int .i64 n] w (fun v w'=>v = .string (toStr (Lib.itoa n))∧Ext w w') :=
  ⟨Calls.mono (Tryz.strconv_Itoa n (by omega) (by omega) w hg.t) fun e w' ⟨he,k,os,hw⟩=>⟨_,he,rfl,by rw[hw];exact Abw w k os⟩⟩
theorem Ab9 (xs:List UInt8) (hl:xs.length≤18) (w:World) (hg:Gl w) :
    Ret Tryz.prog 86 [.string (toStr xs)] w (fun v w'=>(∃ (r:Int) (ev:Value) (b:Bool),v = .tuple #[.int .i64 r,ev]∧((b=false∧Lib.atoi xs=some r∧ev = .nilIface)∨(b=true∧Lib.atoi xs=none∧∃ u pv,ev = .iface u pv)))∧Ext w w'):=by
  cases h:Lib.atoi xs with
  | some r =>
    refine⟨Calls.mono (Tryz.strconv_Atoi (toStr xs) r (by rw[Bo];exact hl) (by rw[Fk];exact h) w) fun e w' ⟨he,t,hw⟩=>⟨_,he,⟨r,.nilIface,false,rfl,.inl ⟨rfl,rfl,rfl⟩⟩,?_⟩⟩
    rw[hw];exact Ext.ofBelow (Lib.bytesWorld_below w 5 t)
  | none =>
    obtain⟨tp,p,hv⟩:=hg.e
    refine⟨Calls.mono (Tryz.strconv_Atoi_err_var (toStr xs) (by rw[Bo];exact hl) (by rw[Fk];exact h) tp p w hv) fun e w' ⟨N,he,_,_,hB⟩=>⟨_,he,⟨0,_,true,rfl,.inr ⟨rfl,rfl,_,_,rfl⟩⟩,Ext.ofBelow hB⟩⟩
theorem Adx (xs:List UInt8) (w:World) :
    Ret Tryz.prog 85 [.string (toStr xs),.string (toStr begF)] w (fun v w'=>(∃ (hp:Bool) (s2:List UInt8),v = .tuple #[.string (toStr s2),.bool hp]∧(hp=true→xs=begF++s2)∧(hp=false→∀ n,xs≠nameL n))∧Ext w w'):=by
  refine⟨Calls.mono (Tryz.strings_CutPrefix (toStr xs) (toStr begF) w) fun e w' ⟨he,hw⟩=>⟨_,he,⟨_,_,rfl,?_,?_⟩,by rw[hw];exact Ext.refl w⟩⟩
  · intro hp
    rw[Fk,Fk] at hp ⊢
    unfold Lib.trimPrefix
    rw[if_pos hp]
    unfold Lib.hasPrefix at hp
    obtain⟨t,ht⟩:=List.isPrefixOf_iff_prefix.1 hp
    rw[← ht,List.drop_left' rfl]
  · intro hp n hn
    rw[Fk,Fk] at hp
    unfold Lib.hasPrefix at hp
    have:begF.isPrefixOf xs=true:=List.isPrefixOf_iff_prefix.2 ⟨dig 6 n,hn.symm⟩
    rw[hp] at this;cases this
theorem Yb {P:Program} {n:Nat} {f:Nat→Value} {w:World} {dst:Option Nat} {ty0:TypeId} {pos:String} {aft:Array Edge} {gd:Option (Nat×Bool)} {x:Operand} {T T':TypeId} {ev:Value} {c:Value} {b:Bool} (hT:P.underlying T=some (.interface (P.methodsAt T))) (hx:Eng.ev n f x=ev) (hy:Eng.ev n f (.const c) = .nilIface)
    (h:(b=false∧ev = .nilIface)∨(b=true∧∃ u pv,ev = .iface u pv)):Ex P w n f ⟨dst,.binOp .neq T x (.const c) T',ty0,pos,aft,gd⟩ (.bool b):=by
  rcases h with ⟨rfl,rfl⟩ | ⟨rfl,u,pv,rfl⟩
  · exact K3 hT hx hy
  · exact M2 hT hx hy
theorem Adc {xs s2:List UInt8} {hp:Bool} (h1:hp=true→xs=begF++s2) (h0:hp=false→∀ n,xs≠nameL n) (h:hp=false∨s2.length≠6):IsNum xs 0:=by
  rcases h with h | h
  · exact⟨fun n _ _ e=>absurd e (h0 h n),.inl rfl⟩
  · cases hp with
    | false=>exact⟨fun n _ _ e=>absurd e (h0 rfl n),.inl rfl⟩
    | true=>exact Ui (by rw[h1 rfl,List.length_append];show 4+s2.length≠10;omega)
theorem Aaz {xs s2:List UInt8} {r:Int} {b:Bool} {ev:Value} (hx:xs=begF++s2) (hA:(b=false∧Lib.atoi s2=some r∧ev = .nilIface)∨(b=true∧Lib.atoi s2=none∧∃ u pv,ev = .iface u pv)) (h:b=true∨toStr (nameF r)≠toStr xs):IsNum xs 0:=by
  have key:∀ m:Nat,m≤999999→xs=nameL m→Lib.atoi s2=some (m:Int):=fun m hm e=>by
    have:s2=dig 6 m:=List.append_cancel_left (hx.symm.trans e)
    rw[this];exact Aca hm
  rcases hA with ⟨rfl,ha,_⟩ | ⟨rfl,ha,_⟩
  · refine Xq (n := r) (fun m _ h2 e => ?_) (fun e => (h.resolve_left (by decide)) (by rw [e]))
    have:=(key m h2 e).symm.trans ha
    injection this with this;exact this.symm
  · exact⟨fun m _ h2 e=>(by rw[key m h2 e] at ha;cases ha),.inl rfl⟩
theorem One.mod {t:TypeId} {r B:Nat} {w w':World} (m:One t r w w') (hr:B≤r):Mod B t w w' :=
  ⟨m.size,fun k hk ho=>m.old k hk fun e=>by
    subst e
    rcases ho with ho | ho
    · omega
    · exact ho m.was,fun k hk=>by
    by_cases e:k=r
    · subst e;rw[m.now,m.was]
    · exact B7 (m.old k hk e),m.drawn,m.os,m.tape,m.output⟩
section
variable {P : Program} {ops : Array Oper} {Q : Exit → Act → World → Prop} {rest : List Oper} {n : Nat} {f : Nat → Value} {w : World}
variable {T e ty0 : TypeId} {x : Operand} {pos : String} {aft : Array Edge} {dst : Nat}
theorem Ug {g m c:Nat} {cs:Array Value} {t:TypeId} (hT:P.underlying T=some (.slice e)) (he:P.underlying e=some (.int .u8)) (hx:ev n f x = .slice (some ⟨g,0,none⟩) m c) (hB:Blk w g cs t)
    (k:∀ w',One t g w w'→(∀ p vs,Row w p vs→Row w' p vs)→Lst P ops Q rest (fr n (upd f dst (.slice (some ⟨g,0,none⟩) m c))) w') :
    Lst P ops Q (⟨some dst,.convert T T x,ty0,pos,aft,none⟩ :: rest) (fr n f) w:=by
  have hlt:=hB.lt
  have hb:w.heap[g]? = some (.cells cs t (0,0)):=hB
  have hg:∀ k,(w.freeze ⟨g,cs.size,none⟩ 1).heap[k]? = if k=g then some (.cells cs t (cs.size,cs.size+1)) else w.heap[k]? := fun k=>by
    unfold World.freeze
    rw[if_neg (by decide)]
    simp only[Array.getElem?_modify]
    by_cases e1:k=g
    · subst e1;rw[if_pos rfl,if_pos rfl,hb];rfl
    · rw[if_neg (fun q=>e1 q.symm),if_neg e1]
  refine l1 (w':=w.freeze ⟨g,cs.size,none⟩ 1) (v := .slice (some ⟨g,0,none⟩) m c) ?_ (k _ ⟨?_,fun k hk hne=>by rw[hg k,if_neg hne],hB.ty,?_,?_,?_,?_,?_⟩ fun p vs h=>⟨h.adr,fun j v hv=>?_⟩)
  · simp only [execOp, hx]
    have hsh:w.shape? g=some (t,cs.size):=by unfold World.shape?;rw[hb]
    have:(convert T T (.slice (some ⟨g,0,none⟩) m c)).run P w = .ok (.slice (some ⟨g,0,none⟩) m c) (w.freeze ⟨g,cs.size,none⟩ 1):=by
      simp[convert,run_underlying hT,run_underlying he,markStringish,Sem.run_bind,shape,freeze,Sem.run,hsh]
    rw[Sem.run_bind,this];rfl
  · unfold World.freeze;rw[if_neg (by decide)];simp
  · unfold Eng.ty
    rw[hg g,if_pos rfl]
  · unfold World.freeze;rw[if_neg (by decide)];exact Nat.le_refl _
  · unfold World.freeze;rw[if_neg (by decide)]
  · unfold World.freeze;rw[if_neg (by decide)]
  · unfold World.freeze;rw[if_neg (by decide)]
  · have h0 := h.at_ j v hv
    rw[← h0]
    unfold World.cell?
    rw[hg]
    by_cases e1:ab p=g
    · rw[if_pos e1,e1,hb]
    · rw[if_neg e1]
end
theorem Ady:(sealF 1 [97]).length=7:=by rw[H1,H9,Fg (by decide)];rfl
theorem Adz:([[97]]:List (List UInt8)).flatMap (sealF 1)=sealF 1 [97]:=by simp
theorem Uy (b:List UInt8) (i:Nat):((getSg b).1.getD i []).length≤1048576:=by
  unfold getSg
  cases hc:Ce b with
  | none=>simp
  | some l =>
    have:=O9 b.length b (Nat.le_refl _) l hc
    rw[List.getD_eq_getElem?_getD]
    cases h:l[i]? with
    | none=>simp
    | some x=>exact this.2 x (List.mem_of_getElem? h)
def wds (l:List Int):Array Value:=(l.map (Value.int .u32)).toArray
theorem Cn (l:List Int):(wds l).size=l.length:=by simp[wds]
theorem Dh {l:List Int} {i:Nat} (h:i<l.length):(wds l)[i]? = some (.int .u32 (l.getD i 0)):=by
  simp[wds,List.getD_eq_getElem?_getD,List.getElem?_eq_getElem h]
theorem Jt (l:List Int) (i:Nat) (v:Int):(wds l).setIfInBounds i (.int .u32 v)=wds (l.set i v):=by
  simp[wds,List.setIfInBounds_toArray,List.map_set]
theorem Hc (l:List Int):∀ v∈(wds l).toList,v.oneCell'=true:=by
  intro v hv
  simp only[wds,List.mem_map] at hv
  obtain⟨x,_,rfl⟩:=hv
  rfl
structure W8 where
  (a b c d e f g h:Int)
def W8.l (s:W8):List Int:=[s.a,s.b,s.c,s.d,s.e,s.f,s.g,s.h]
theorem W8.len (s:W8):s.l.length=8:=rfl
def rotW (x n:Int):Int:=Cu .or .u32 (x.fdiv (2 ^ min n.toNat IntKind.u32.bits)) (IntKind.u32.wrap (x * 2 ^ min (32 - n).toNat IntKind.u32.bits))
def pls (a b:Int):Int:=IntKind.u32.wrap (a+b)
def xrw (a b:Int):Int:=Cu .xor .u32 a b
def anw (a b:Int):Int:=Cu .and .u32 a b
def sgl (x:Int):Int:=xrw (xrw (rotW x 7) (rotW x 18)) (x.fdiv (2 ^ min (3:Int).toNat IntKind.u32.bits))
def sgh (x:Int):Int:=xrw (xrw (rotW x 17) (rotW x 19)) (x.fdiv (2 ^ min (10:Int).toNat IntKind.u32.bits))
def schW (l:List Int) (i:Nat):Int:=pls (pls (pls (l.getD (i - 16) 0) (sgl (l.getD (i - 15) 0))) (l.getD (i - 7) 0)) (sgh (l.getD (i - 2) 0))
def kTab:List Int:=[0x428a2f98,0x71374491,0xb5c0fbcf,0xe9b5dba5,0x3956c25b,0x59f111f1,0x923f82a4,0xab1c5ed5,0xd807aa98,0x12835b01,0x243185be,0x550c7dc3,0x72be5d74,0x80deb1fe,0x9bdc06a7,0xc19bf174,0xe49b69c1,0xefbe4786,0x0fc19dc6,0x240ca1cc,0x2de92c6f,0x4a7484aa,0x5cb0a9dc,0x76f988da,0x983e5152,0xa831c66d,0xb00327c8,0xbf597fc7,0xc6e00bf3,0xd5a79147,0x06ca6351,0x14292967,0x27b70a85,0x2e1b2138,0x4d2c6dfc,0x53380d13,0x650a7354,0x766a0abb,0x81c2c92e,0x92722c85,0xa2bfe8a1,0xa81a664b,0xc24b8b70,0xc76c51a3,0xd192e819,0xd6990624,0xf40e3585,0x106aa070,0x19a4c116,0x1e376c08,0x2748774c,0x34b0bcb5,0x391c0cb3,0x4ed8aa4a,0x5b9cca4f,0x682e6ff3,0x748f82ee,0x78a5636f,0x84c87814,0x8cc70208,0x90befffa,0xa4506ceb,0xbef9a3f7,0xc67178f2]
def s0W:W8:=⟨0x6a09e667,0xbb67ae85,0x3c6ef372,0xa54ff53a,0x510e527f,0x9b05688c,0x1f83d9ab,0x5be0cd19⟩
theorem Uq:kTab.length=64:=by decide
def tW (k w:Int) (s:W8):Int:=pls (pls (pls (pls s.h (xrw (xrw (rotW s.e 6) (rotW s.e 11)) (rotW s.e 25))) (xrw (anw s.e s.f) (anw (Cu .xor .u32 4294967295 s.e) s.g))) k) w
def uW (s:W8):Int:=pls (xrw (xrw (rotW s.a 2) (rotW s.a 13)) (rotW s.a 22)) (xrw (xrw (anw s.a s.b) (anw s.a s.c)) (anw s.b s.c))
def rndW (k w:Int) (s:W8):W8:=⟨pls (tW k w s) (uW s),s.a,s.b,s.c,pls s.d (tW k w s),s.e,s.f,s.g⟩
def runW (W:List Int) (s:W8):Nat→W8
  | 0=>s
  | n+1=>rndW (kTab.getD n 0) (W.getD n 0) (runW W s n)
def be4 (bs:List UInt8) (o:Nat):Int:=(((bs.getD o 0).toNat * 16777216+(bs.getD (o+1) 0).toNat * 65536+(bs.getD (o+2) 0).toNat * 256+(bs.getD (o+3) 0).toNat:Nat):Int)
def ownW (bs:List UInt8):Nat→List Int
  | 0=>List.replicate 64 0
  | n+1=>(ownW bs n).set n (be4 bs (4 * n))
def extW (l:List Int):Nat→List Int
  | 0=>l
  | n+1=>(extW l n).set (16+n) (schW (extW l n) (16+n))
def addW (x:List Int) (l:List Int):Nat→List Int
  | 0=>l
  | n+1=>(addW x l n).set n (pls ((addW x l n).getD n 0) (x.getD n 0))
def add8 (s t:W8):W8:=⟨pls s.a t.a,pls s.b t.b,pls s.c t.c,pls s.d t.d,pls s.e t.e,pls s.f t.f,pls s.g t.g,pls s.h t.h⟩
def mixF (s:W8) (bs:List UInt8):W8:=add8 s (runW (extW (ownW bs 16) 48) s 64)
theorem Ace (s t:W8):addW t.l s.l 8=(add8 s t).l:=rfl
theorem Cj (bs:List UInt8):∀ n,(ownW bs n).length=64
  | 0=>by simp[ownW]
  | n+1=>by rw[ownW,List.length_set,Cj bs n]
theorem C7 (l:List Int):∀ n,(extW l n).length=l.length
  | 0=>rfl
  | n+1=>by rw[extW,List.length_set,C7 l n]
theorem Jq (x l:List Int):∀ n,(addW x l n).length=l.length
  | 0=>rfl
  | n+1=>by rw[addW,List.length_set,Jq x l n]
theorem Ra (bs:List UInt8):∀ n i,n≤i→(ownW bs n).getD i 0=0
  | 0, i, _ => by
    rw[ownW,List.getD_eq_getElem?_getD,List.getElem?_replicate]
    split <;> rfl
  | n + 1, i, h => by
    rw[ownW,List.getD_eq_getElem?_getD,List.getElem?_set_ne (by omega),← List.getD_eq_getElem?_getD]
    exact Ra bs n i (by omega)
theorem Aag {l:List Int} {i:Nat} {v:Int} (h:l.getD i 0=v) (hi:i<l.length):l.set i v=l:=by
  rw[← h,List.getD_eq_getElem?_getD,List.getElem?_eq_getElem hi];simp
theorem Abk {l:List Int} {i:Nat} {v:Int} (hi:i<l.length):(l.set i v).getD i 0=v:=by
  rw[List.getD_eq_getElem?_getD,List.getElem?_set_self hi];rfl
def accB (bs:List UInt8) (o:Nat):Nat→Int
  | 0=>0
  | k+1=>pls (IntKind.u32.wrap (256 * accB bs o k)) ((bs.getD (o+k) 0).toNat:Int)
theorem Ae0 (bs:List UInt8) (o:Nat):accB bs o 4=be4 bs o:=by
  have h0:=(bs.getD o 0).toNat_lt
  have h1:=(bs.getD (o+1) 0).toNat_lt
  have h2:=(bs.getD (o+2) 0).toNat_lt
  have h3:=(bs.getD (o+3) 0).toNat_lt
  simp only[accB,pls,be4,I1,Nat.add_zero]
  omega
theorem Wc {x y k:Nat} (h:y<2 ^ k):(x * 2 ^ k) ||| y=x * 2 ^ k+y:=by
  have:=Nat.shiftLeft_add_eq_or_of_lt h x
  rw[Nat.shiftLeft_eq] at this
  exact this.symm
theorem shlB (b:UInt8):IntKind.u32.wrap ((b.toNat:Int) * 2 ^ min (24:Int).toNat IntKind.u32.bits)=((b.toNat * 16777216:Nat):Int)∧IntKind.u32.wrap ((b.toNat:Int) * 2 ^ min (16:Int).toNat IntKind.u32.bits)=((b.toNat * 65536:Nat):Int)∧IntKind.u32.wrap ((b.toNat:Int) * 2 ^ min (8:Int).toNat IntKind.u32.bits)=((b.toNat * 256:Nat):Int):=by
  have h:=b.toNat_lt
  have e1:(2:Int) ^ min (24:Int).toNat IntKind.u32.bits=16777216:=by decide
  have e2:(2:Int) ^ min (16:Int).toNat IntKind.u32.bits=65536:=by decide
  have e3:(2:Int) ^ min (8:Int).toNat IntKind.u32.bits=256:=by decide
  rw[e1,e2,e3]
  simp only[I1]
  omega
theorem or4 (bs:List UInt8) (o:Nat):Cu .or .u32 (Cu .or .u32 (Cu .or .u32 (IntKind.u32.wrap (((bs.getD o 0).toNat:Int) * 2 ^ min (24:Int).toNat IntKind.u32.bits)) (IntKind.u32.wrap (((bs.getD (o+1) 0).toNat:Int) * 2 ^ min (16:Int).toNat IntKind.u32.bits))) (IntKind.u32.wrap (((bs.getD (o+2) 0).toNat:Int) * 2 ^ min (8:Int).toNat IntKind.u32.bits))) ((bs.getD (o+3) 0).toNat:Int)=be4 bs o:=by
  have h0:=(bs.getD o 0).toNat_lt
  have h1:=(bs.getD (o+1) 0).toNat_lt
  have h2:=(bs.getD (o+2) 0).toNat_lt
  have h3:=(bs.getD (o+3) 0).toNat_lt
  unfold be4
  rw[(shlB _).1,(shlB _).2.1,(shlB _).2.2]
  generalize (bs.getD o 0).toNat=a at *
  generalize (bs.getD (o+1) 0).toNat=b at *
  generalize (bs.getD (o+2) 0).toNat=c at *
  have e1:a * 16777216 ||| b * 65536=(a * 256+b) * 65536:=by
    have:=Wc (x:=a) (y:=b * 65536) (k:=24) (by omega)
    rw[show a * 16777216=a * 2 ^ 24 by omega,this];omega
  have e2:(a * 256+b) * 65536 ||| c * 256=(a * 65536+b * 256+c) * 256:=by
    have:=Wc (x:=a * 256+b) (y:=c * 256) (k:=16) (by omega)
    rw[show (a * 256+b) * 65536=(a * 256+b) * 2 ^ 16 by omega,this];omega
  have e3:(a * 65536+b * 256+c) * 256 ||| (bs.getD (o+3) 0).toNat=a * 16777216+b * 65536+c * 256+(bs.getD (o+3) 0).toNat:=by
    have:=Wc (x:=a * 65536+b * 256+c) (y:=(bs.getD (o+3) 0).toNat) (k:=8) (by omega)
    rw[show (a * 65536+b * 256+c) * 256=(a * 65536+b * 256+c) * 2 ^ 8 by omega,this];omega
  rw[Wb (by omega) (by omega),e1,Wb (by omega) (by omega),e2,Wb (by omega) (by omega),e3]
def byI (x:Int):UInt8:=UInt8.ofNat (x % 256).toNat
theorem wrapI (x:Int):IntKind.u8.wrap x=((byI x).toNat:Int):=by
  rw[K5,byI,UInt8.toNat_ofNat'];omega
def beB (n i:Nat):UInt8:=byI (((n * 8:Nat):Int).fdiv (2 ^ min (56 - 8 * (i:Int)).toNat IntKind.u64.bits))
def be8 (n:Nat):List UInt8:=(List.range 8).map (beB n)
def ouB (s:W8) (i:Nat):UInt8:=byI ((s.l.getD (i / 4) 0).fdiv (2 ^ min (24 - 8 * ((i % 4:Nat):Int)).toNat IntKind.u32.bits))
def outB (s:W8):List UInt8:=(List.range 32).map (ouB s)
def outH (s:W8):Hash:=⟨outB s,by simp[outB]⟩
def padZ (n:Nat):Nat:=(119 - n % 64) % 64
def padF (xs:List UInt8):List UInt8:=xs++[128]++List.replicate (padZ xs.length) 0++be8 xs.length
theorem Iw (n:Nat):(be8 n).length=8:=by simp[be8]
theorem Ab7 (n:Nat) {i:Nat} (h:i<8):(be8 n).take i++[beB n i]=(be8 n).take (i+1):=by
  rw[List.take_succ_eq_append_getElem (by rw[Iw];exact h)]
  simp[be8]
theorem Pb (n:Nat):(n+1+padZ n) % 64=56:=by unfold padZ;omega
theorem Xl {n j:Nat} (h:j<padZ n):(n+1+j) % 64≠56:=by unfold padZ at h;omega
theorem N8 (n:Nat):padZ n<64:=Nat.mod_lt _ (by omega)
theorem Ub (xs:List UInt8):(padF xs).length=xs.length+1+padZ xs.length+8:=by simp[padF,Iw];omega
theorem Aar (xs:List UInt8):(padF xs).length % 64=0:=by have:=Pb xs.length;rw[Ub];omega
def stN (l:List UInt8):Nat→W8
  | 0=>s0W
  | n+1=>mixF (stN l n) ((l.drop (64 * n)).take 64)
def shaF (xs:List UInt8):Hash:=outH (stN (padF xs) ((padF xs).length / 64))
theorem Sa (l m:List UInt8):∀ n,64 * n≤l.length→stN (l++m) n=stN l n
  | 0,_=>rfl
  | n + 1, h => by
    rw[stN,stN,Sa l m n (by omega),List.drop_append_of_le_length (by omega),List.take_append_of_le_length (by rw[List.length_drop];omega)]
section
variable {P : Program} {ops : Array Oper} {Q : Exit → Act → World → Prop} {rest : List Oper} {N : Nat} {f : Nat → Value} {w : World}
variable {ty0 : TypeId} {pos : String} {aft : Array Edge} {gd : Option (Nat × Bool)} {x y : Operand} {T T2 : TypeId} {dst : Option Nat}
theorem Qf {e:TypeId} {len:Nat} (hT:P.underlying T=some (.array len e)) (hz:(P.info? e).map (·.size)=some 1) {b o lo:Nat} {k:IntKind} (hx:ev N f x = .pointer (some ⟨b,o,none⟩)) (hy:ev N f y = .int k (lo:Int)) (h3:lo<len) :
    Ex P w N f ⟨dst,.slice T x (some y) none none,ty0,pos,aft,gd⟩ (.slice (some ⟨b,o+lo,none⟩) (len - lo) (len - lo)):=by
  obtain⟨ii,hi',hs⟩:=Option.map_eq_some_iff.1 hz
  unfold Ex execOp
  simp only[Option.map,hx,hy]
  have hne:¬ len=lo:=by omega
  simp[Instr.sliceAt,Instr.sureAddr,Sem.run_bind,run_underlying hT,Le (P:=P) (w:=w) (a:=(lo:Int)) (Int.natCast_nonneg _) (by omega:(lo:Int)≤(len:Int)),sizeOf,typeInfo,hi',hs,hne,Addr.add_mid]
theorem Ach {e:TypeId} {len:Nat} (hT:P.underlying T=some (.array len e)) (hz:(P.info? e).map (·.size)=some 1) (he:P.plainKey e=true) {i:Nat} {cs:Array Value} {k:IntKind} {v:Value} (hx:ev N f x = .agg cs) (hy:ev N f y = .int k (i:Int)) (hi:i<len) (hv:cs[i]? = some v) :
    Ex P w N f ⟨dst,.index T x y,ty0,pos,aft,gd⟩ v:=by
  obtain⟨ii,hi',hs⟩:=Option.map_eq_some_iff.1 hz
  have hp:=run_part_plain (P:=P) (w:=w) he hv
  unfold Ex execOp
  simp only[hx,hy]
  simp[Instr.index,asIntOf,Sem.run_bind,run_underlying hT,sizeOf,typeInfo,hi',hs,hi,hp]
theorem Ada {d:Nat} {eb es:TypeId} {B:Nat} {q:Option Addr} {g o dl dc l c2:Nat} {cs:Array Value} {t:TypeId} {zs:List UInt8} (hT:P.underlying T=some (.slice eb)) (hz:(P.info? eb).map (·.size)=some 1)
    (hx:ev N f x = .slice (some ⟨g,o,none⟩) dl dc) (hy:ev N f y = .slice q l c2) (hB:Blk w g cs t) (ho:o+dl≤cs.size) (hs:Sl kByte es B w q l c2 zs) (hl:0<l)
    (k:∀ w',Put w w' g (cs.toList.take o++(zs.take (min l dl)).map cell++cs.toList.drop (o+min l dl)).toArray t→Lst P ops Q rest (fr N (upd f d (.int .i64 (min l dl:Nat)))) w') :
    Lst P ops Q (⟨some d,.call ⟨.builtin .copy,#[x,y],#[T,T2]⟩,ty0,pos,aft,none⟩ :: rest) (fr N f) w:=by
  have hzl:=hs.len
  have hq:=hs.adr Bb hl
  have hcl:((zs.take (min l dl)).map cell).length=min l dl:=by rw[List.length_map,List.length_take];omega
  have hsrc:∀ j v,((zs.take (min l dl)).map cell)[j]? = some v→w.cell? ((⟨ab q,ao q,none⟩:Addr).add j)=some v:=by
    intro j v hv
    have hj:j<min l dl:=by
      rcases Nat.lt_or_ge j (min l dl) with h | h
      · exact h
      · rw[List.getElem?_eq_none (by omega)] at hv;cases hv
    rw[List.getElem?_map,List.getElem?_take,if_pos hj,List.getElem?_eq_getElem (by omega)] at hv
    simp only[Option.map_some] at hv
    injection hv with hv
    subst hv
    rw[Addr.add_mid,hs.byteAt j (by omega),List.getD_eq_getElem?_getD,List.getElem?_eq_getElem (by omega)]
    rfl
  have hrun:=run_copy_cells (P:=P) w T T2 ty0 eb g o dl dc ⟨ab q,ao q,none⟩ l c2 ((zs.take (min l dl)).map cell) hT hz hcl hsrc
    (fun j hj=>by rw[hB.cell (v:=cs[o+j]'(by omega)) (Array.getElem?_eq_getElem (by omega))];rfl) (fun j hj=>frozen_of_row w g _ cs t hB)
    (fun v hv=>by simp only[List.mem_map] at hv;obtain⟨b,_,rfl⟩:=hv;rfl)
  have hP:=Gg ((zs.take (min l dl)).map cell) hB (o:=o) (by omega)
  rw[hcl] at hP
  refine l1 (w':=w.setCells g o ((zs.take (min l dl)).map cell)) (v := .int .i64 (min l dl:Nat)) ?_ (k _ hP)
  rw[hq] at hy
  simp only[execOp,resolve,invoke,builtin,Sem.run_bind,Sem.run_pure,Result.andThen_ok,List.map_toArray,List.map_cons,List.map_nil,hx,hy,hrun]
  rw[hcl];rfl
end
def bcs (l:List UInt8):Array Value:=(l.map cell).toArray
theorem Jo (l:List UInt8):(bcs l).size=l.length:=by simp[bcs]
theorem Oe {l:List UInt8} {i:Nat} (h:i<l.length):(bcs l)[i]? = some (.int .u8 ((l.getD i 0).toNat:Int)):=by
  simp[bcs,List.getD_eq_getElem?_getD,List.getElem?_eq_getElem h,cell]
theorem Tg (l:List UInt8) (i:Nat) (b:UInt8):(bcs l).setIfInBounds i (.int .u8 (b.toNat:Int))=bcs (l.set i b):=by
  simp[bcs,List.setIfInBounds_toArray,List.map_set,cell]
theorem Aec (s:W8):(wds s.l)[0]? = some (.int .u32 s.a):=rfl
theorem Aco (s:W8):(wds s.l)[1]? = some (.int .u32 s.b):=rfl
theorem Acn (s:W8):(wds s.l)[2]? = some (.int .u32 s.c):=rfl
theorem Ae3 (s:W8):(wds s.l)[3]? = some (.int .u32 s.d):=rfl
theorem Aeb (s:W8):(wds s.l)[4]? = some (.int .u32 s.e):=rfl
theorem Aea (s:W8):(wds s.l)[5]? = some (.int .u32 s.f):=rfl
theorem Ad9 (s:W8):(wds s.l)[6]? = some (.int .u32 s.g):=rfl
theorem Ae2 (s:W8):(wds s.l)[7]? = some (.int .u32 s.h):=rfl
def Rd (w:World) (g n:Nat) (l:List Int):Prop:=∀ j,j<n→w.cell? ⟨g,j,none⟩=some (.int .u32 (l.getD j 0))
theorem Rd.ext {w w':World} {g n:Nat} {l:List Int} (h:Rd w g n l) (x:Ext w w'):Rd w' g n l:=fun j hj=>x.cell (h j hj)
theorem Aal {w:World} {g n:Nat} {l:List Int} {t:TypeId} (h:Blk w g (wds l) t) (hn:n≤l.length):Rd w g n l:=fun j hj=>h.cell (Dh (by omega))
theorem Aeh {w:World} {g n:Nat} {l:List Int} {v:Int} {t:TypeId} (h:Blk w g (wds (l.set n v)) t) (hn:n≤l.length):Rd w g n l:=fun j hj=>by
  have:=Aal h (n:=n) (by rw[List.length_set];exact hn) j hj
  rw[this,List.getD_eq_getElem?_getD,List.getElem?_set_ne (by omega),← List.getD_eq_getElem?_getD]
def Rt (w:World):Prop:=∀ i,i<64→w.cell? ⟨1,i,none⟩=some (.int .u32 (kTab.getD i 0))
theorem Rt.ext {w w':World} (h:Rt w) (x:Ext w w'):Rt w':=fun i hi=>x.cell (h i hi)
def hstL (s:W8) (wt:List UInt8) (k n:Nat):List Value:=s.l.map (Value.int .u32)++(wt.map cell++[.int .i64 (k:Int),.int .i64 (n:Int)])
def hst (s:W8) (wt:List UInt8) (k n:Nat):Array Value:=(hstL s wt k n).toArray
theorem Pj (s:W8) (wt:List UInt8) (k n i:Nat):(hst s wt k n)[i]? = (hstL s wt k n)[i]? := List.getElem?_toArray
theorem Pz:∀ l:List UInt8,(l.map fun b=>[cell b]).flatten=l.map cell
  | []=>rfl
  | x :: l=>by rw[List.map_cons,List.flatten_cons,Pz l];rfl
section
variable {s : W8} {wt : List UInt8} {k n : Nat} (hw : wt.length = 64)
include hw
theorem F6:(hst s wt k n).size=74:=by simp[hst,hstL,W8.l,hw]
theorem Xv:(hst s wt k n)[0+72]? = some (.int .i64 (k:Int)):=by
  rw[Pj,show 0+72=72 from rfl]
  unfold hstL
  rw[List.getElem?_append_right (by simp[W8.l]),List.getElem?_append_right (by simp[W8.l,hw])]
  simp[W8.l,hw]
theorem Ad5:(hst s wt k n)[0+73]? = some (.int .i64 (n:Int)):=by
  rw[Pj,show 0+73=73 from rfl]
  unfold hstL
  rw[List.getElem?_append_right (by simp[W8.l]),List.getElem?_append_right (by simp[W8.l,hw])]
  simp[W8.l,hw]
theorem Us (m:Nat):(hst s wt k n).setIfInBounds (0+72) (.int .i64 (m:Int))=hst s wt m n:=by
  unfold hst hstL
  rw[List.setIfInBounds_toArray,List.set_append_right _ _ (by simp[W8.l]),List.set_append_right _ _ (by simp[W8.l,hw])]
  simp[W8.l,hw]
theorem Abe (m:Nat):(hst s wt k n).setIfInBounds (0+73) (.int .i64 (m:Int))=hst s wt k m:=by
  unfold hst hstL
  rw[List.setIfInBounds_toArray,List.set_append_right _ _ (by simp[W8.l]),List.set_append_right _ _ (by simp[W8.l,hw])]
  simp[W8.l,hw]
omit hw in
theorem Abd (t:W8):((hst s wt k n).toList.take (0+0)++(wds t.l).toList++(hst s wt k n).toList.drop (0+0+(wds t.l).size)).toArray=hst t wt k n:=by
  unfold hst hstL
  rw[Cn]
  simp[W8.l,wds]
omit hw in
theorem Adl:∀ v∈(hst s wt k n).toList,v.oneCell'=true:=by
  intro v hv
  simp only[hst,hstL,List.mem_append,List.mem_map,List.mem_cons,List.not_mem_nil,or_false] at hv
  rcases hv with ⟨x,_,rfl⟩ | ⟨x,_,rfl⟩ | rfl | rfl <;> rfl
theorem Abf (zs:List UInt8) (o j:Nat) (ho:o+j≤64) (hj:j≤zs.length) :
    ((hst s wt k n).toList.take (0+8+o)++(zs.take j).map cell++(hst s wt k n).toList.drop (0+8+o+j)).toArray=hst s (wt.take o++zs.take j++wt.drop (o+j)) k n:=by
  have hs:(s.l.map (Value.int .u32)).length=8:=by simp[W8.l]
  unfold hst hstL
  rw[List.take_append,List.drop_append,hs,List.take_of_length_le (by omega),List.drop_eq_nil_of_le (by omega),show 0+8+o - 8=o by omega,show 0+8+o+j - 8=o+j by omega,
    List.take_append_of_le_length (by simp[hw];omega),List.drop_append_of_le_length (by simp[hw];omega)]
  simp[List.map_take,List.map_drop]
end
theorem Afd {s:W8} {wt:List UInt8} {k n i:Nat} (h:i<8):(hst s wt k n)[i]? = some (.int .u32 (s.l.getD i 0)):=by
  rw[Pj]
  unfold hstL
  rw[List.getElem?_append_left (by simp[W8.l];omega),List.getElem?_map,List.getD_eq_getElem?_getD,List.getElem?_eq_getElem (by rw[W8.len];exact h)]
  rfl
theorem Ut {w:World} {g:Nat} {s:W8} {wt:List UInt8} {k n:Nat} {t:TypeId} (h:Blk w g (hst s wt k n) t):w.rangeAt g (0+0) (s.l.map (Value.int .u32)):=fun j v hv=>by
  have hj:j<(s.l.map (Value.int .u32)).length:=by
    rcases Nat.lt_or_ge j (s.l.map (Value.int .u32)).length with h | h
    · exact h
    · rw[List.getElem?_eq_none h] at hv;cases hv
  rw[show 0+0+j=j by omega]
  refine h.cell ?_
  rw[Pj]
  unfold hstL
  rw[List.getElem?_append_left hj];exact hv
theorem Jc {w:World} {g:Nat} {s:W8} {wt:List UInt8} {k n:Nat} {t:TypeId} (h:Blk w g (hst s wt k n) t):w.rangeAt g (0+8) (wt.map cell):=fun j v hv=>by
  have hj:j<(wt.map cell).length:=by
    rcases Nat.lt_or_ge j (wt.map cell).length with h | h
    · exact h
    · rw[List.getElem?_eq_none h] at hv;cases hv
  rw[show 0+8+j=8+j by omega]
  refine h.cell ?_
  rw[Pj]
  unfold hstL
  rw[List.getElem?_append_right (by simp[W8.l]),show 8+j - (s.l.map (Value.int .u32)).length=j by simp[W8.l],List.getElem?_append_left hj];exact hv
structure HsP (s:W8) (wt:List UInt8) (k:Nat) (done:List UInt8):Prop where
  wl:wt.length=64
  st:s=stN done (done.length / 64)
  kk:k=done.length % 64
  wait:wt.take k=done.drop (64 * (done.length / 64))
theorem HsP.lt {s:W8} {wt:List UInt8} {k:Nat} {done:List UInt8} (h:HsP s wt k done):k<64:=by rw[h.kk];exact Nat.mod_lt _ (by omega)
theorem HsP.new (wt:List UInt8) (h:wt.length=64):HsP s0W wt 0 []:=⟨h,rfl,rfl,rfl⟩
theorem HsP.part {s:W8} {wt:List UInt8} {k:Nat} {done:List UInt8} (h:HsP s wt k done) (zs:List UInt8) {j:Nat} (hj:j≤zs.length) (hlt:k+j<64) :
    HsP s (wt.take k++zs.take j++wt.drop (k+j)) (k+j) (done++zs.take j):=by
  have hk:=h.kk
  have hwl:=h.wl
  have hl:(done++zs.take j).length=done.length+j:=by rw[List.length_append,List.length_take];omega
  have hd:(done.length+j) / 64=done.length / 64:=by omega
  refine⟨by simp;omega,?_,by rw[hl];omega,?_⟩
  · rw[hl,hd,Sa _ _ _ (by omega)];exact h.st
  · rw[hl,hd,List.drop_append_of_le_length (by omega),← h.wait,List.take_append_of_le_length (by simp;omega),List.take_of_length_le (by simp;omega)]
theorem HsP.full {s:W8} {wt:List UInt8} {k:Nat} {done:List UInt8} (h:HsP s wt k done) (zs:List UInt8) {j:Nat} (hj:j≤zs.length) (hlt:k+j=64) :
    HsP (mixF s (wt.take k++zs.take j++wt.drop (k+j))) (wt.take k++zs.take j++wt.drop (k+j)) 0 (done++zs.take j):=by
  have hk:=h.kk
  have hwl:=h.wl
  have hl:(done++zs.take j).length=done.length+j:=by rw[List.length_append,List.length_take];omega
  have hd:(done.length+j) / 64=done.length / 64+1:=by omega
  have hdr:wt.drop (k+j)=[]:=List.drop_eq_nil_of_le (by omega)
  refine⟨by simp;omega,?_,by rw[hl];omega,?_⟩
  · rw[hl,hd,stN,Sa _ _ _ (by omega),← h.st,List.drop_append_of_le_length (by omega),← h.wait,hdr,List.append_nil,List.take_of_length_le (l:=wt.take k++zs.take j) (by simp;omega)]
  · rw[hl,hd,List.take_zero,List.drop_eq_nil_of_le (by rw[hl];omega)]
def Hs (w:World) (g:Nat) (all:List UInt8):Prop:=∃ s wt k,HsP s wt k all∧Blk w g (hst s wt k all.length) 178
theorem Hs.ext {w w':World} {g:Nat} {all:List UInt8} (h:Hs w g all) (x:Ext w w'):Hs w' g all:=by
  obtain⟨s,wt,k,h1,h2⟩:=h
  exact⟨s,wt,k,h1,h2.ext x⟩
theorem Hs.keep {w w':World} {g k:Nat} {all:List UInt8} {cs:Array Value} {t:TypeId} (h:Hs w g all) (hP:Put w w' k cs t) (hne:g≠k):Hs w' g all:=by
  obtain⟨s,wt,j,h1,h2⟩:=h
  exact⟨s,wt,j,h1,hP.keep h2 hne⟩
theorem Hs.lt {w:World} {g:Nat} {all:List UInt8} (h:Hs w g all):g<w.heap.size:=by obtain⟨s,wt,k,h1,h2⟩:=h;exact h2.lt
theorem But.ext {g:Nat} {t:TypeId} {a b c:World} (h:But g t a b) (k:Ext b c):But g t a c:=h.trans (.ofExt k)
theorem Sl.but {α:Type} {d:Kind α} {e:TypeId} {B:Nat} {w w':World} {p:Option Addr} {n c:Nat} {xs:List α} (h:Sl d e B w p n c xs) {g:Nat} {t:TypeId} (m:But g t w w') (hB:B≤g) (hE:∀ u∈e :: d.E,u≠t):Sl d e B w' p n c xs :=
  h.keep (fun k hk ho=>m.old k hk (ho.imp (fun h=>by omega) fun ⟨u,hu,hty⟩=>by rw[hty];intro q;injection q with q;exact hE u hu q))
theorem Rt.but {w w':World} {g:Nat} {t:TypeId} (h:Rt w) (m:But g t w w') (hg:1<g):Rt w':=fun i hi=>by
  have h1:=h i hi
  have h2:=World.block_lt_of_cell? w _ h1
  exact(World.cell?_of_block (w:=w) (a:=⟨1,i,none⟩) (m.old 1 h2 (.inl (by omega)))).trans h1
def RwB (w:World) (g:Nat) (wt:List UInt8):Prop:=w.rangeAt g (0+8) (wt.map cell)
theorem RwB.ext {w w':World} {g:Nat} {wt:List UInt8} (h:RwB w g wt) (x:Ext w w'):RwB w' g wt:=fun j v hv=>x.cell (h j v hv)
def KwB (w:World) (g k:Nat):Prop:=w.cell? ⟨g,0+72,none⟩=some (.int .i64 (k:Int))
theorem KwB.ext {w w':World} {g k:Nat} (h:KwB w g k) (x:Ext w w'):KwB w' g k:=x.cell h
def Bt (w:World):Prop:=∀ i,i<8→w.cell? ⟨0,i,none⟩=some (.int .u32 (s0W.l.getD i 0))
theorem Bt.ext {w w':World} (h:Bt w) (x:Ext w w'):Bt w':=fun i hi=>x.cell (h i hi)
theorem Bt.range {w:World} (h:Bt w):w.rangeAt 0 0 (s0W.l.map (Value.int .u32)):=fun j v hv=>by
  have hj:j<8:=by
    rcases Nat.lt_or_ge j 8 with h | h
    · exact h
    · rw[List.getElem?_eq_none (by simp[W8.l];omega)] at hv;cases hv
  rw[Nat.zero_add,h j hj,← hv,List.getElem?_map,List.getD_eq_getElem?_getD,List.getElem?_eq_getElem (by rw[W8.len];exact hj)]
  rfl
def setB (f:Nat→UInt8) (l:List UInt8):Nat→List UInt8
  | 0=>l
  | i+1=>(setB f l i).set i (f i)
theorem Ld (f:Nat→UInt8) (l:List UInt8):∀ n,(setB f l n).length=l.length
  | 0=>rfl
  | n+1=>by rw[setB,List.length_set,Ld f l n]
theorem N6 (f:Nat→UInt8) (l:List UInt8):∀ n,n≤l.length→setB f l n=(List.range n).map f++l.drop n
  | 0,_=>rfl
  | n + 1, h => by
    rw[setB,N6 f l n (by omega),List.set_append_right _ _ (by simp),List.range_succ,List.map_append,List.append_assoc]
    congr 1
    simp only[List.length_map,List.length_range,Nat.sub_self]
    rw[List.drop_eq_getElem_cons (by omega:n<l.length)]
    rfl
theorem Aef {w:World} {g m:Nat} {l:List UInt8} {t:TypeId} (h:Blk w g (bcs l) t) (hl:l.length=m) (hm:m≤9223372036854775807):Sl kByte t 0 w (some ⟨g,0,none⟩) m m l:=by
  refine⟨hl,Nat.le_refl _,hm,l.map fun b=>[cell b],B6 _ _ _,?_⟩
  rw[Pz]
  refine⟨⟨fun _=>rfl,fun j v hv=>?_⟩,fun _ => .inr h.ty⟩
  show w.cell? ⟨g,0+j,none⟩=_
  rw[Nat.zero_add]
  exact h.cell (by simpa [bcs] using hv)
theorem shl3 {n:Nat} (h:n≤1000000000000000):IntKind.u64.wrap ((n:Int) * 2 ^ min (3:Int).toNat IntKind.u64.bits)=((n * 8:Nat):Int):=by
  have e1:(2:Int) ^ min (3:Int).toNat IntKind.u64.bits=8:=by decide
  have e2:((n:Int) * 8)=((n * 8:Nat):Int):=by omega
  rw[e1,e2]
  exact Ct (by omega) (by omega)
def findF (l:List (List UInt8)) (h:Hash):Option (List UInt8):=l.find? fun x=>decide (shaF x=h)
theorem Rt.lt {w:World} (h:Rt w):1<w.heap.size:=World.block_lt_of_cell? w _ (h 0 (by omega))
theorem Qb:∀ {a b:List UInt8},Op.bytesLess a b=true→Op.bytesLess b a=false
  | _,[],h=>by simp[Op.bytesLess] at h
  | [],_ :: _,_=>by simp[Op.bytesLess]
  | a :: x, b :: y, h => by
    simp only[Op.bytesLess,Bool.or_eq_true,decide_eq_true_eq,Bool.and_eq_true,beq_iff_eq,Bool.or_eq_false_iff,decide_eq_false_iff_not,Bool.and_eq_false_imp] at h ⊢
    rcases h with h | ⟨rfl,h⟩
    · exact⟨UInt8.not_lt.2 (UInt8.le_of_lt h),fun e=>by subst e;exact absurd h (UInt8.lt_irrefl _)⟩
    · exact⟨UInt8.lt_irrefl _,fun _=>Qb h⟩
theorem Zk (a:List UInt8):Op.bytesLess a a=false:=by
  cases h:Op.bytesLess a a
  · rfl
  · have:=Qb h;rw[h] at this;exact this
theorem Vh:∀ {a b c:List UInt8},Op.bytesLess a b=true→Op.bytesLess b c=true→Op.bytesLess a c=true
  | _,[],_,h,_=>by simp[Op.bytesLess] at h
  | _,_ :: _,[],_,h=>by simp[Op.bytesLess] at h
  | [],_ :: _,_ :: _,_,_=>by simp[Op.bytesLess]
  | a :: x, b :: y, c :: z, h, k => by
    simp only[Op.bytesLess,Bool.or_eq_true,decide_eq_true_eq,Bool.and_eq_true,beq_iff_eq] at h k ⊢
    rcases h with h | ⟨rfl,h⟩ <;> rcases k with k | ⟨rfl,k⟩
    · exact .inl (UInt8.lt_trans h k)
    · exact .inl h
    · exact .inl k
    · exact .inr ⟨rfl,Vh h k⟩
theorem Qa:∀ (a b:List UInt8),a=b∨Op.bytesLess a b=true∨Op.bytesLess b a=true
  | [],[] => .inl rfl
  | [],_ :: _ => .inr (.inl (by simp[Op.bytesLess]))
  | _ :: _,[] => .inr (.inr (by simp[Op.bytesLess]))
  | a :: x, b :: y => by
    rcases Nat.lt_trichotomy a.toNat b.toNat with h | h | h
    · exact .inr (.inl (by simp[Op.bytesLess,UInt8.lt_iff_toNat_lt,h]))
    rotate_left
    · exact .inr (.inr (by simp[Op.bytesLess,UInt8.lt_iff_toNat_lt,h]))
    · have h := UInt8.toNat_inj.1 h
      subst h
      rcases Qa x y with e | e | e
      · exact .inl (by rw[e])
      · exact .inr (.inl (by simp[Op.bytesLess,e]))
      · exact .inr (.inr (by simp[Op.bytesLess,e]))
theorem F3 {a b:ByteArray} (h:a.toList=b.toList):a=b:=by
  have e:=beq_toListBytes a b
  rw[h,beq_self_eq_true] at e
  exact(MapKept.bytes_beq a b).1 e
theorem Aa5 {a b:ByteArray} (h:lssB a b=true):lssB b a=false:=Qb h
theorem Mi (a:ByteArray):lssB a a=false:=Zk _
theorem I7 {a b c:ByteArray} (h:lssB a b=true) (k:lssB b c=true):lssB a c=true:=Vh h k
theorem I8 (a b:ByteArray):a=b∨lssB a b=true∨lssB b a=true:=(Qa a.toList b.toList).imp F3 id
theorem Pf {a b:ByteArray} (h:lssB a b=true):a≠b:=by intro e;subst e;rw[Mi] at h;cases h
theorem Rh {α:Type} [DecidableEq α]:∀ {xs ks:List α},xs.Nodup→(∀ z∈xs,z∈ks)→xs.length≤ks.length
  | [],_,_,_=>by simp
  | x :: xs, ks, hn, hs => by
    have hn':=List.nodup_cons.1 hn
    have hx:x∈ks:=hs x (by simp)
    have h1:=Rh (ks:=ks.erase x) hn'.2 (fun z hz=>(List.mem_erase_of_ne (fun e=>hn'.1 (by rw[← e];exact hz))).2 (hs z (by simp[hz])))
    rw[List.length_erase_of_mem hx] at h1
    have:=List.length_pos_of_mem hx
    simp only[List.length_cons]
    omega
section assoc
variable {α : Type} [Inhabited α]
def RiseNA (l:List (ByteArray×α)):Prop:=l.Pairwise fun a b=>lssB a.1 b.1=true
def ascA (l:List (ByteArray×α)) (k:ByteArray):Option α:=(l.find? fun x=>decide (x.1=k)).map (·.2)
theorem Vj (k:ByteArray):ascA ([]:List (ByteArray×α)) k=none:=rfl
theorem Em (x:ByteArray×α) (l:List (ByteArray×α)) (k:ByteArray):ascA (x :: l) k=if x.1=k then some x.2 else ascA l k:=by
  unfold ascA
  by_cases h:x.1=k <;> simp[List.find?_cons,h]
theorem L6 {l:List (ByteArray×α)} {k:ByteArray} (h:∀ x∈l,lssB k x.1=true):ascA l k=none:=by
  induction l with
  | nil=>rfl
  | cons x l ih =>
    rw[Em,if_neg (fun e=>Pf (h x (by simp)) e.symm)]
    exact ih fun y hy=>h y (by simp[hy])
theorem Qd {l:List (ByteArray×α)} {k:ByteArray} {hs:α} (h:ascA l k=some hs):(k,hs)∈l:=by
  unfold ascA at h
  obtain⟨x,hx,e⟩:=Option.map_eq_some_iff.1 h
  have h1:=List.find?_some hx
  have h2:=List.mem_of_find?_eq_some hx
  simp at h1
  obtain⟨a,b⟩:=x
  simp only at h1 e
  subst h1 e
  exact h2
theorem G0 {l:List (ByteArray×α)} {k:ByteArray}:ascA l k≠none↔k∈l.map (·.1):=by
  induction l with
  | nil=>simp[Vj]
  | cons x l ih =>
    rw[Em,List.map_cons,List.mem_cons]
    by_cases h:x.1=k
    · rw[if_pos h];simp[h]
    · rw[if_neg h,ih];simp[Ne.symm h]
theorem RiseNA.nodup {l:List (ByteArray×α)} (h:RiseNA l):(l.map (·.1)).Nodup:=by
  unfold List.Nodup
  rw[List.pairwise_map]
  exact List.Pairwise.imp (fun h=>Pf h) h
theorem Jp {l:List (ByteArray×α)} (hr:RiseNA l) {x:ByteArray×α} (h:x∈l):ascA l x.1=some x.2:=by
  induction l with
  | nil=>simp at h
  | cons y l ih =>
    have hr':=List.pairwise_cons.1 hr
    rw[Em]
    rcases List.mem_cons.1 h with e | e
    · rw[e,if_pos rfl]
    · rw[if_neg (fun q=>Pf (hr'.1 x e) q)];exact ih hr'.2 e
def put1A (k:ByteArray) (o:Option α):List (ByteArray×α):=match o with | some h=>[(k,h)] | none=>[]
def insA:List (ByteArray×α)→ByteArray→Option α→List (ByteArray×α)
  | [],k,o=>put1A k o
  | x :: l,k,o=>if lssB x.1 k=true then x :: insA l k o else if x.1=k then put1A k o++l else put1A k o++x :: l
theorem Mc {k:ByteArray} {o:Option α} {x:ByteArray×α} (h:x∈put1A k o):x.1=k:=by
  cases o with
  | none=>simp[put1A] at h
  | some hs=>simp[put1A] at h;rw[h]
theorem Ur {l:List (ByteArray×α)} {k:ByteArray} {o:Option α} {x:ByteArray×α} (h:x∈insA l k o):x.1=k∨x∈l:=by
  induction l with
  | nil=>exact .inl (Mc h)
  | cons y l ih =>
    unfold insA at h
    split at h
    · rcases List.mem_cons.1 h with e | e
      · right;rw[e];simp
      · rcases ih e with e | e
        · exact .inl e
        · right;simp[e]
    · split at h
      · rcases List.mem_append.1 h with e | e
        · exact .inl (Mc e)
        · right;simp[e]
      · rcases List.mem_append.1 h with e | e
        · exact .inl (Mc e)
        · exact .inr e
theorem Ky {k:ByteArray} {o:Option α} {l:List (ByteArray×α)} (hr:RiseNA l) (h:∀ x∈l,lssB k x.1=true):RiseNA (put1A k o++l):=by
  cases o with
  | none=>exact hr
  | some hs=>exact List.pairwise_cons.2 ⟨h,hr⟩
theorem Dj {l:List (ByteArray×α)} (hr:RiseNA l) (k:ByteArray) (o:Option α):RiseNA (insA l k o):=by
  induction l with
  | nil=>have:=Ky (k:=k) (o:=o) (l:=[]) .nil (by simp);rw[List.append_nil] at this;exact this
  | cons x l ih =>
    have hr':=List.pairwise_cons.1 hr
    unfold insA
    split
    · rename_i hx
      refine List.pairwise_cons.2 ⟨fun y hy=>?_,ih hr'.2⟩
      rcases Ur hy with e | e
      · rw[e];exact hx
      · exact hr'.1 y e
    · rename_i hx
      split
      · rename_i e
        exact Ky hr'.2 fun y hy=>by rw[← e];exact hr'.1 y hy
      · rename_i e
        have hk:lssB k x.1=true:=by
          rcases I8 x.1 k with h | h | h
          · exact absurd h e
          · exact absurd h hx
          · exact h
        refine Ky hr fun y hy=>?_
        rcases List.mem_cons.1 hy with q | q
        · rw[q];exact hk
        · exact I7 hk (hr'.1 y q)
theorem M0 (k z:ByteArray) (o:Option α) (l:List (ByteArray×α)):ascA (put1A k o++l) z=if z=k then (o.orElse fun _=>ascA l z) else ascA l z:=by
  cases o with
  | none=>simp[put1A]
  | some h =>
    show ascA ((k,h) :: l) z=_
    rw[Em]
    by_cases e:z=k
    · rw[if_pos e.symm,if_pos e];rfl
    · rw[if_neg (fun q=>e q.symm),if_neg e]
theorem D5 {l:List (ByteArray×α)} (hr:RiseNA l) (k:ByteArray) (o:Option α) (z:ByteArray):mset (ascA l) k o z=ascA (insA l k o) z:=by
  unfold mset
  induction l with
  | nil =>
    have:=M0 k z o []
    rw[List.append_nil] at this
    show _=ascA (put1A k o) z
    rw[this]
    by_cases e:z=k
    · rw[if_pos e,if_pos e];cases o <;> rfl
    · rw[if_neg e,if_neg e]
  | cons x l ih =>
    have hr':=List.pairwise_cons.1 hr
    have ih:=ih hr'.2
    unfold insA
    by_cases hx:lssB x.1 k=true
    · rw [if_pos hx, Em, Em, ← ih]
      by_cases e:z=k
      · rw[if_pos e,if_pos e,if_neg (fun q=>Pf hx (q.trans e))]
      · rw[if_neg e,if_neg e]
    · rw [if_neg hx]
      by_cases e:x.1=k
      · rw [if_pos e, M0, Em]
        have hn:ascA l k=none:=L6 fun y hy=>by rw[← e];exact hr'.1 y hy
        by_cases q:z=k
        · rw[if_pos q,if_pos q,q,hn];cases o <;> rfl
        · rw[if_neg q,if_neg q,if_neg (fun h=>q (h.symm.trans e))]
      · have hk : lssB k x.1 = true := by
          rcases I8 x.1 k with h | h | h
          · exact absurd h e
          · exact absurd h hx
          · exact h
        rw[if_neg e,M0]
        by_cases q:z=k
        · rw [if_pos q, if_pos q]
          have hn:ascA (x :: l) z=none:=L6 fun y hy=>by
            rw[q]
            rcases List.mem_cons.1 hy with h | h
            · rw[h];exact hk
            · exact I7 hk (hr'.1 y h)
          rw[hn];cases o <;> rfl
        · rw[if_neg q,if_neg q]
theorem Kz:∀ {l m:List (ByteArray×α)},RiseNA l→RiseNA m→(∀ x,x∈l↔x∈m)→l=m
  | [],[],_,_,_=>rfl
  | [],y :: _,_,_,h=>by have:=(h y).2 (by simp);simp at this
  | x :: _,[],_,_,h=>by have:=(h x).1 (by simp);simp at this
  | x :: l, y :: m, hl, hm, h => by
    have hl':=List.pairwise_cons.1 hl
    have hm':=List.pairwise_cons.1 hm
    have e:x=y:=by
      rcases List.mem_cons.1 ((h x).1 (by simp)) with e | e
      · exact e
      · rcases List.mem_cons.1 ((h y).2 (by simp)) with q | q
        · exact q.symm
        · have h1 := hm'.1 x e
          have h2:=hl'.1 y q
          rw[Aa5 h1] at h2;cases h2
    subst e
    congr 1
    refine Kz hl'.2 hm'.2 fun z=>⟨fun hz=>?_,fun hz=>?_⟩
    · rcases List.mem_cons.1 ((h z).1 (by simp [hz])) with q | q
      · have h1 := hl'.1 z hz
        rw[q,Mi] at h1;cases h1
      · exact q
    · rcases List.mem_cons.1 ((h z).2 (by simp [hz])) with q | q
      · have h1 := hm'.1 z hz
        rw[q,Mi] at h1;cases h1
      · exact q
theorem W0 {l:List (ByteArray×α)} (hr:RiseNA l) {ks:List ByteArray} (hn:ks.Nodup) (hk:∀ k,k∈ks↔ascA l k≠none):ks.length=l.length:=by
  have h1:ks.Perm (l.map (·.1)):=(List.perm_ext_iff_of_nodup hn hr.nodup).2 fun k=>(hk k).trans G0
  have:=h1.length_eq
  rwa [List.length_map] at this
def plcA (l:List (ByteArray×α)) (k:ByteArray):Nat:=(l.takeWhile fun x=>lssB x.1 k).length
def isAtA (l:List (ByteArray×α)) (i:Nat) (k:ByteArray):Prop:=i<l.length∧(l.getD i default).1=k
theorem Md:∀ (l:List (ByteArray×α)) (k:ByteArray) (i:Nat),i≤l.length→(∀ j,j<i→lssB (l.getD j default).1 k=true)→(i<l.length→lssB (l.getD i default).1 k=false)→plcA l k=i
  | [], k, i, hi, _, _ => by have : i = 0 := by simpa using hi
                             subst this;rfl
  | x :: l, k, 0, _, _, h2 => by
    have h2:=h2 (by simp)
    simp only[List.getD_cons_zero] at h2
    unfold plcA
    rw[List.takeWhile_cons,h2];rfl
  | x :: l, k, i + 1, hi, h1, h2 => by
    have h0:=h1 0 (by omega)
    simp only[List.getD_cons_zero] at h0
    have ih:=Md l k i (by simpa using hi) (fun j hj=>by have:=h1 (j+1) (by omega);simpa using this) (fun hi=>by have:=h2 (by simpa using hi);simpa using this)
    unfold plcA at ih ⊢
    rw[List.takeWhile_cons,h0]
    simp[ih]
theorem Gh (l:List (ByteArray×α)) (k:ByteArray):plcA l k≤l.length:=(List.takeWhile_sublist _).length_le
theorem Qy (x:ByteArray×α) (l:List (ByteArray×α)) (k:ByteArray):plcA (x :: l) k=if lssB x.1 k=true then plcA l k+1 else 0:=by
  unfold plcA
  rw[List.takeWhile_cons]
  by_cases h:lssB x.1 k=true
  · rw[if_pos h,if_pos h];rfl
  · rw[if_neg h,if_neg h];rfl
theorem Rs {l:List (ByteArray×α)} (hr:RiseNA l) (k:ByteArray):isAtA l (plcA l k) k↔ascA l k≠none:=by
  induction l with
  | nil=>simp[isAtA,Vj]
  | cons x l ih =>
    have hr':=List.pairwise_cons.1 hr
    have ih:=ih hr'.2
    rw[Qy,Em]
    by_cases hx:lssB x.1 k=true
    · rw [if_pos hx, if_neg (Pf hx), ← ih]
      unfold isAtA
      simp
    · rw [if_neg hx]
      unfold isAtA
      by_cases e:x.1=k
      · rw[if_pos e];simp[e]
      · rw [if_neg e]
        have hk:lssB k x.1=true:=by
          rcases I8 x.1 k with h | h | h
          · exact absurd h e
          · exact absurd h hx
          · exact h
        have hn:ascA l k=none:=L6 fun y hy=>I7 hk (hr'.1 y hy)
        rw[hn];simp[e]
theorem Ad0 {l:List (ByteArray×α)} (hr:RiseNA l) {k:ByteArray} (h:isAtA l (plcA l k) k):ascA l k=some (l.getD (plcA l k) default).2:=by
  have hm:l.getD (plcA l k) default∈l:=by rw[List.getD_eq_getElem?_getD,List.getElem?_eq_getElem h.1];exact List.getElem_mem _
  have:=Jp hr hm
  rw[h.2] at this
  exact this
theorem H5 {l:List (ByteArray×α)} (k:ByteArray) (o:Option α) (m:Nat) (hm:(isAtA l (plcA l k) k∧m=1)∨(¬ isAtA l (plcA l k) k∧m=0)):l.take (plcA l k)++put1A k o++l.drop (plcA l k+m)=insA l k o:=by
  induction l with
  | nil=>simp[plcA,insA]
  | cons x l ih =>
    rw[Qy] at hm ⊢
    unfold insA
    by_cases hx:lssB x.1 k=true
    · rw [if_pos hx] at hm ⊢
      rw[if_pos hx]
      have ih:=ih (by
        unfold isAtA at hm ⊢
        simpa using hm)
      rw[List.take_succ_cons,List.cons_append,List.cons_append,show plcA l k+1+m=(plcA l k+m)+1 from by omega,List.drop_succ_cons,ih]
    · rw [if_neg hx] at hm ⊢
      rw[if_neg hx]
      unfold isAtA at hm
      simp only[List.getD_cons_zero,List.length_cons] at hm
      by_cases e:x.1=k
      · rw [if_pos e]
        have:m=1:=by rcases hm with h | h;(· exact h.2);(· exact absurd ⟨Nat.succ_pos _,e⟩ h.1)
        subst this
        simp
      · rw [if_neg e]
        have:m=0:=by rcases hm with h | h;(· exact absurd h.1.2 e);(· exact h.2)
        subst this
        simp
end assoc
abbrev Fb:=List UInt8×Nat
abbrev Fl:=ByteArray×Fb
def usedL (l:List Fl):Nat:=(l.map fun x=>x.2.1.length).sum
structure DS where
  most:Nat
  l:List Fl
  steps:Nat
  left:Int
  done:Bool
  down:Bool
def Bg (s:ByteArray):Bool:=decide (1≤s.size∧s.size≤32) && s.data.toList.all fun c=>decide (33≤c.toNat∧c.toNat≤126)
def ascF (l:List Fl) (k:ByteArray):Option Fb:=ascA l k
def lookD (D:DS) (ns:List ByteArray):Int:=if ns.all Bg=false then 30 else if D.down=true then 20 else 0
def stepD (D:DS) (act:List Fl) (failing always:Bool):DS×Int :=
  if D.left≠0 then ({ D with l:=act,left:=max (-1) (D.left - 1),steps:=D.steps+1 },0)
  else ({ D with l:=(if (failing && (always || D.done))=true then act else D.l),down:=true,left:=-1 },20)
def A9 (D:DS) (k:ByteArray):DS×Int :=
  if lookD D [k]≠0 then (D,lookD D [k]) else if ascF D.l k≠none then (D,23) else if 64≤D.l.length then (D,21) else stepD D (insA D.l k (some ([],0))) true false
def getF (D:DS) (k:ByteArray):Fb:=(ascF D.l k).getD ([],0)
def Bm (D:DS) (k:ByteArray) (p:List UInt8):DS×Int :=
  if lookD D [k]≠0 then (D,lookD D [k]) else if ascF D.l k=none then (D,22) else if (D.most:Int) - usedL D.l<p.length then (D,21) else stepD D (insA D.l k (some ((getF D k).1++p,(getF D k).2))) true true
def syncD (D:DS) (k:ByteArray):DS×Int :=
  if lookD D [k]≠0 then (D,lookD D [k]) else if ascF D.l k=none then (D,22) else stepD D (insA D.l k (some ((getF D k).1,(getF D k).1.length))) false false
def renL (l:List Fl) (old now:ByteArray) (f:Fb):List Fl:=if old=now then l else insA (insA l now (some f)) old none
def Bv (D:DS) (old now:ByteArray):DS×Int :=
  if lookD D [old,now]≠0 then (D,lookD D [old,now]) else if ascF D.l old=none then (D,22) else stepD D (renL D.l old now (getF D old)) true false
def B3 (D:DS) (k:ByteArray):DS×Int :=
  if lookD D [k]≠0 then (D,lookD D [k]) else if ascF D.l k=none then (D,22) else stepD D (insA D.l k none) true false
def cutD (D:DS) (k:ByteArray) (n:Int):DS×Int :=
  if lookD D [k]≠0 then (D,lookD D [k]) else if ascF D.l k=none then (D,22) else if n<0∨((getF D k).1.length:Int)<n then (D,2) else stepD D (insA D.l k (some ((getF D k).1.take n.toNat,n.toNat))) true false
def readD (D:DS) (k:ByteArray):List UInt8×Int :=
  if lookD D [k]≠0 then ([],lookD D [k]) else if ascF D.l k=none then ([],22) else ((getF D k).1,0)
def failD (D:DS) (n:Int) (done:Bool):DS×Int :=
  if D.down=true then (D,20) else if n<0 then (D,2) else ({ D with left:=n,done:=done },0)
structure DOk (D:DS):Prop where
  rise:RiseNA D.l
  few:D.l.length≤64
  room:usedL D.l≤D.most
  most:D.most≤16777216
  left:-1≤D.left
  safe:∀ x∈D.l,x.2.2≤x.2.1.length
theorem Kv (x:Fl) (l:List Fl):usedL (x :: l)=x.2.1.length+usedL l:=by simp[usedL]
theorem Ge (a b:List Fl):usedL (a++b)=usedL a+usedL b:=by simp[usedL]
theorem Ku (k:ByteArray) (o:Option Fb):usedL (put1A k o)=(o.map fun f=>f.1.length).getD 0:=by
  cases o <;> simp[put1A,usedL]
theorem Ek:∀ {l:List Fl} (hr:RiseNA l) (k:ByteArray) (o:Option Fb),usedL (insA l k o)+((ascA l k).map fun f=>f.1.length).getD 0=usedL l+(o.map fun f=>f.1.length).getD 0
  | [],_,k,o=>by show usedL (put1A k o)+0=0+_;rw[Ku];omega
  | x :: l, hr, k, o => by
    have hr':=List.pairwise_cons.1 hr
    unfold insA
    rw[Em]
    by_cases hx:lssB x.1 k=true
    · rw [if_pos hx, if_neg (Pf hx), Kv, Kv]
      have:=Ek hr'.2 k o
      omega
    · rw [if_neg hx]
      by_cases e:x.1=k
      · rw[if_pos e,if_pos e,Ge,Ku,Kv];simp only[Option.map_some,Option.getD_some];omega
      · rw [if_neg e, if_neg e, Ge, Ku]
        have hk:lssB k x.1=true:=by
          rcases I8 x.1 k with h | h | h
          · exact absurd h e
          · exact absurd h hx
          · exact h
        have hn:ascA l k=none:=L6 fun y hy=>I7 hk (hr'.1 y hy)
        rw[hn];simp only[Option.map_none,Option.getD_none];omega
theorem Hh:∀ {l:List Fl} (hr:RiseNA l) (k:ByteArray) (o:Option Fb),(insA l k o).length+(if ascA l k=none then 0 else 1)=l.length+(if o=none then 0 else 1)
  | [],_,k,o=>by cases o <;> rfl
  | x :: l, hr, k, o => by
    have hr':=List.pairwise_cons.1 hr
    have hp:(put1A k o).length=if o=none then 0 else 1:=by cases o <;> rfl
    unfold insA
    rw[Em]
    by_cases hx:lssB x.1 k=true
    · rw [if_pos hx, if_neg (Pf hx), List.length_cons, List.length_cons]
      have:=Hh hr'.2 k o
      omega
    · rw [if_neg hx]
      by_cases e:x.1=k
      · rw[if_pos e,if_pos e,List.length_append,hp,List.length_cons];simp only[reduceCtorEq,if_false];omega
      · rw [if_neg e, if_neg e, List.length_append, hp]
        have hk:lssB k x.1=true:=by
          rcases I8 x.1 k with h | h | h
          · exact absurd h e
          · exact absurd h hx
          · exact h
        have hn:ascA l k=none:=L6 fun y hy=>I7 hk (hr'.1 y hy)
        rw[hn,if_pos rfl];omega
theorem G5 {l:List Fl} {k:ByteArray} {o:Option Fb} (h:∀ x∈l,x.2.2≤x.2.1.length) (ho:∀ f,o=some f→f.2≤f.1.length):∀ x∈insA l k o,x.2.2≤x.2.1.length:=by
  intro x hx
  induction l with
  | nil =>
    cases o with
    | none=>simp[insA,put1A] at hx
    | some f=>simp[insA,put1A] at hx;rw[hx];exact ho f rfl
  | cons y l ih =>
    have hp:∀ x∈put1A k o,x.2.2≤x.2.1.length:=fun x hx=>by
      cases o with
      | none=>simp[put1A] at hx
      | some f=>simp[put1A] at hx;rw[hx];exact ho f rfl
    unfold insA at hx
    split at hx
    · rcases List.mem_cons.1 hx with e | e
      · rw[e];exact h y (by simp)
      · exact ih (fun z hz=>h z (by simp[hz])) e
    · split at hx
      · rcases List.mem_append.1 hx with e | e
        · exact hp x e
        · exact h x (by simp[e])
      · rcases List.mem_append.1 hx with e | e
        · exact hp x e
        · exact h x e
theorem F2 {D:DS} (h:DOk D) (k:ByteArray):(getF D k).1.length≤usedL D.l∧(getF D k).2≤(getF D k).1.length:=by
  unfold getF ascF
  cases e:ascA D.l k with
  | none=>exact⟨Nat.zero_le _,Nat.le_refl _⟩
  | some f =>
    have hm:=Qd e
    refine⟨?_,h.safe _ hm⟩
    have:=Ek h.rise k none
    rw[e] at this
    simp only[Option.map_some,Option.getD_some,Option.map_none,Option.getD_none] at this
    show f.1.length≤_
    omega
theorem Hy {D:DS} (h:DOk D) {act:List Fl} {failing always:Bool} (hr:RiseNA act) (hf:act.length≤64) (hu:usedL act≤D.most) (hs:∀ x∈act,x.2.2≤x.2.1.length):DOk (stepD D act failing always).1:=by
  unfold stepD
  by_cases hl:D.left≠0
  · rw[if_pos hl];exact⟨hr,hf,hu,h.most,by simp only;omega,hs⟩
  · rw [if_neg hl]
    by_cases hb:(failing && (always || D.done))=true
    · simp only[hb,if_true];exact⟨hr,hf,hu,h.most,by simp,hs⟩
    · simp only[hb];exact⟨h.rise,h.few,h.room,h.most,by simp,h.safe⟩
theorem Zj {D:DS} (h:DOk D) (k:ByteArray):DOk (A9 D k).1:=by
  unfold A9
  split
  · exact h
  · split
    · exact h
    · split
      · exact h
      · rename_i h1 h2 h3
        have hn:ascA D.l k=none:=Classical.byContradiction fun e=>h2 e
        refine Hy h (Dj h.rise _ _) ?_ ?_ (G5 h.safe fun f hf=>by injection hf with hf;rw[← hf];exact Nat.le_refl _)
        · have:=Hh h.rise k (some ([],0));rw[hn] at this;simp at this;omega
        · have:=Ek h.rise k (some ([],0));rw[hn] at this;simp at this;have:=h.room;omega
theorem Hw {D:DS} (h:DOk D) {k:ByteArray} (hk:ascA D.l k≠none) (o:Option Fb):(insA D.l k o).length≤64:=by
  have:=Hh h.rise k o;rw[if_neg hk] at this;have:=h.few;split at * <;> omega
theorem Eo {D:DS} (h:DOk D) {k:ByteArray} (hk:ascA D.l k≠none) (o:Option Fb):usedL (insA D.l k o)+(getF D k).1.length=usedL D.l+(o.map fun f=>f.1.length).getD 0:=by
  have:=Ek h.rise k o
  unfold getF ascF
  cases e:ascA D.l k with
  | none=>exact absurd e hk
  | some f=>rw[e] at this;simpa using this
theorem Zl {D:DS} (h:DOk D) (k:ByteArray) (p:List UInt8):DOk (Bm D k p).1:=by
  unfold Bm
  split
  · exact h
  · split
    · exact h
    · split
      · exact h
      · rename_i h1 h2 h3
        have hg:=F2 h k
        refine Hy h (Dj h.rise _ _) (Hw h h2 _) ?_ (G5 h.safe fun f hf=>by injection hf with hf;rw[← hf];simp only[List.length_append];omega)
        have:=Eo h h2 (some ((getF D k).1++p,(getF D k).2))
        simp only[Option.map_some,Option.getD_some,List.length_append] at this
        omega
theorem Acu {D:DS} (h:DOk D) (k:ByteArray):DOk (syncD D k).1:=by
  unfold syncD
  split
  · exact h
  · split
    · exact h
    · rename_i h1 h2
      refine Hy h (Dj h.rise _ _) (Hw h h2 _) ?_ (G5 h.safe fun f hf=>by injection hf with hf;rw[← hf];exact Nat.le_refl _)
      have:=Eo h h2 (some ((getF D k).1,(getF D k).1.length))
      simp only[Option.map_some,Option.getD_some] at this
      have:=h.room
      omega
theorem Yt {D:DS} (h:DOk D) (k:ByteArray):DOk (B3 D k).1:=by
  unfold B3
  split
  · exact h
  · split
    · exact h
    · rename_i h1 h2
      refine Hy h (Dj h.rise _ _) (Hw h h2 _) ?_ (G5 h.safe fun f hf=>by cases hf)
      have:=Eo h h2 none
      simp only[Option.map_none,Option.getD_none] at this
      have:=h.room
      omega
theorem Aex {D:DS} (h:DOk D) (k:ByteArray) (n:Int):DOk (cutD D k n).1:=by
  unfold cutD
  split
  · exact h
  · split
    · exact h
    · split
      · exact h
      · rename_i h1 h2 h3
        refine Hy h (Dj h.rise _ _) (Hw h h2 _) ?_ (G5 h.safe fun f hf=>by injection hf with hf;rw[← hf];simp only[List.length_take];omega)
        have:=Eo h h2 (some ((getF D k).1.take n.toNat,n.toNat))
        simp only[Option.map_some,Option.getD_some,List.length_take] at this
        have:=h.room
        omega
theorem Aah {D:DS} (h:DOk D) {old now:ByteArray} (hk:ascA D.l old≠none):RiseNA (renL D.l old now (getF D old))∧(renL D.l old now (getF D old)).length≤64∧usedL (renL D.l old now (getF D old))≤D.most∧(∀ x∈renL D.l old now (getF D old),x.2.2≤x.2.1.length) ∧
    (old≠now→usedL (renL D.l old now (getF D old))+(getF D now).1.length=usedL D.l):=by
  unfold renL
  by_cases e:old=now
  · rw[if_pos e];exact⟨h.rise,h.few,h.room,h.safe,fun hn=>absurd e hn⟩
  · rw [if_neg e]
    have hr1:=Dj h.rise now (some (getF D old))
    have ha:ascA (insA D.l now (some (getF D old))) old=some (getF D old):=by
      rw[← D5 h.rise]
      unfold mset
      rw[if_neg e]
      unfold getF ascF
      cases q:ascA D.l old with
      | none=>exact absurd q hk
      | some f=>rfl
    have hu1:=Ek h.rise now (some (getF D old))
    have hu2:=Ek hr1 old none
    rw[ha] at hu2
    have hl1:=Hh h.rise now (some (getF D old))
    have hl2:=Hh hr1 old none
    rw[ha] at hl2
    have hg:((ascA D.l now).map fun f=>f.1.length).getD 0=(getF D now).1.length:=by unfold getF ascF;cases ascA D.l now <;> rfl
    rw[hg] at hu1
    simp only[Option.map_some,Option.getD_some,Option.map_none,Option.getD_none,Nat.add_zero,reduceCtorEq,if_false,if_true] at hu1 hu2 hl1 hl2
    have hroom:=h.room
    have hfew:=h.few
    refine⟨Dj hr1 _ _,?_,by omega,G5 (G5 h.safe fun f hf=>by injection hf with hf;rw[← hf];exact(F2 h old).2) (fun f hf=>by cases hf),fun _=>by omega⟩
    split at hl1 <;> omega
theorem Ys {D:DS} (h:DOk D) (old now:ByteArray):DOk (Bv D old now).1:=by
  unfold Bv
  split
  · exact h
  · split
    · exact h
    · rename_i h1 h2
      obtain⟨a,b,c,d,_⟩:=Aah h (now:=now) h2
      exact Hy h a b c d
theorem Adv {D:DS} (h:DOk D) (n:Int) (done:Bool):DOk (failD D n done).1:=by
  unfold failD
  split
  · exact h
  · split
    · exact h
    · exact⟨h.rise,h.few,h.room,h.most,by simp only;omega,h.safe⟩
theorem K8 {D:DS} {act:List Fl} {failing always:Bool} (h:D.left≠0):stepD D act failing always=({ D with l:=act,left:=max (-1) (D.left - 1),steps:=D.steps+1 },0):=if_pos h
theorem Ma {D:DS} {act:List Fl} {failing always:Bool} (h:¬ D.left≠0) (hc:(failing && (always || D.done))=true):stepD D act failing always=({ D with l:=act,down:=true,left:=-1 },20):=by
  unfold stepD;rw[if_neg h,if_pos hc]
theorem Ow {D:DS} {act:List Fl} {failing always:Bool} (h:¬ D.left≠0) (hc:(failing && (always || D.done))=false):stepD D act failing always=({ D with down:=true,left:=-1 },20):=by
  unfold stepD;rw[if_neg h,if_neg (by rw[hc];simp)]
abbrev tDisk:TypeId:=102
def ED:List TypeId:=[102,tMap,5,113]
abbrev Raw:=Option Addr×Nat×Nat×Nat
def raw0:Raw:=(none,0,0,0)
def rawV (x:Raw):Value := .agg #[.slice x.1 x.2.1 x.2.2.1,.int .i64 (x.2.2.2:Int)]
def vFile:VK Raw:=⟨[],fun _ _ x v=>v=rawV x,fun _ h=>h,fun _ h=>h⟩
structure Fls (S:Nat→Prop) (w:World) (μ:ByteArray→Option Raw) (l:List Fl):Prop where
  no:∀ k,μ k=none→ascA l k=none
  yes:∀ k r,μ k=some r→∃ f,ascA l k=some f∧r.2.2.2=f.2∧FB S w r.1 r.2.1 r.2.2.1 f.1
  ap:∀ k k' r r',k≠k'→μ k=some r→μ k'=some r'→Apart r.1 r'.1
namespace Fls
variable {S S' : Nat → Prop} {w w' : World} {μ : ByteArray → Option Raw} {l : List Fl} {t : TypeId} {r : Nat}
theorem keep (h:Fls S w μ l) (hk:∀ k x,μ k=some x→∀ xs,FB S w x.1 x.2.1 x.2.2.1 xs→FB S' w' x.1 x.2.1 x.2.2.1 xs):Fls S' w' μ l :=
  ⟨h.no,fun k x hx=>by obtain⟨f,h1,h2,h3⟩:=h.yes k x hx;exact⟨f,h1,h2,hk k x hx _ h3⟩,h.ap⟩
theorem ext (h:Fls S w μ l) (x:Ext w w'):Fls S w' μ l:=h.keep fun _ _ _ _ hf=>hf.ext x
theorem one (h:Fls S w μ l) (m:One t r w w') (ht:t≠5):Fls S w' μ l:=h.keep fun _ _ _ _ hf=>hf.one m ht
theorem modT (h:Fls S w μ l) {B:Nat} (m:Mod B t w w') (ht:t≠5):Fls S w' μ l:=h.keep fun _ _ _ _ hf=>hf.modT m ht
theorem mono (h:Fls S w μ l) (hS:∀ k,k<w.heap.size→S k→S' k):Fls S' w μ l:=h.keep fun _ _ _ _ hf=>hf.mono hS
theorem iff (h:Fls S w μ l) (k:ByteArray):μ k=none↔ascA l k=none:=by
  refine⟨h.no k,fun hn=>?_⟩
  cases e:μ k with
  | none=>rfl
  | some x=>obtain⟨f,h1,_⟩:=h.yes k x e;rw[h1] at hn;cases hn
theorem app (h:Fls S w μ l) {k:ByteArray} {x:Raw} (hx:μ k=some x) (m:OneR x.1 w w') {xs:List UInt8} (hx2:ascA l k=some (xs,x.2.2.2)) (hF:FB S w' x.1 x.2.1 x.2.2.1 xs):Fls S w' μ l :=
  ⟨h.no,fun k' y hy=>by
    by_cases e:k'=k
    · subst e
      rw[hx] at hy;injection hy with hy;subst hy
      exact⟨_,hx2,rfl,hF⟩
    · obtain ⟨f, h1, h2, h3⟩ := h.yes k' y hy
      exact⟨f,h1,h2,h3.oneR (S':=S) m (h.ap _ _ _ _ (Ne.symm e) hx hy)⟩,h.ap⟩
theorem put (h:Fls S w μ l) (hr:RiseNA l) (k:ByteArray) (x:Raw) (f:Fb) (hs:x.2.2.2=f.2) (hF:FB S w x.1 x.2.1 x.2.2.1 f.1) (ha:∀ k' y,k'≠k→μ k'=some y→Apart x.1 y.1):Fls S w (mset μ k (some x)) (insA l k (some f)):=by
  have hi:∀ z,ascA (insA l k (some f)) z=if z=k then some f else ascA l z:=fun z=>(D5 hr k (some f) z).symm
  refine⟨fun z hz=>?_,fun z y hy=>?_,fun z z' y y' hne hy hy'=>?_⟩
  · unfold mset at hz
    rw[hi]
    split at hz
    · cases hz
    · rename_i e;rw[if_neg e];exact h.no z hz
  · unfold mset at hy
    rw[hi]
    split at hy
    · rename_i e
      injection hy with hy;subst hy
      rw[if_pos e];exact⟨f,rfl,hs,hF⟩
    · rename_i e;rw[if_neg e];exact h.yes z y hy
  · unfold mset at hy hy'
    split at hy <;> split at hy'
    · rename_i e e';exact absurd (e.trans e'.symm) hne
    · rename_i e e';injection hy with hy;subst hy;exact ha z' y' e' hy'
    · rename_i e e';injection hy' with hy';subst hy';exact(ha z y e hy).symm
    · exact h.ap z z' y y' hne hy hy'
theorem del (h:Fls S w μ l) (hr:RiseNA l) (k:ByteArray):Fls S w (mset μ k none) (insA l k none):=by
  have hi:∀ z,ascA (insA l k none) z=if z=k then none else ascA l z:=fun z=>(D5 hr k none z).symm
  refine⟨fun z hz=>?_,fun z y hy=>?_,fun z z' y y' hne hy hy'=>?_⟩
  · unfold mset at hz
    rw[hi]
    split at hz
    · rename_i e;rw[if_pos e]
    · rename_i e;rw[if_neg e];exact h.no z hz
  · unfold mset at hy
    rw[hi]
    split at hy
    · cases hy
    · rename_i e;rw[if_neg e];exact h.yes z y hy
  · unfold mset at hy hy'
    split at hy <;> split at hy'
    · cases hy
    · cases hy
    · cases hy'
    · exact h.ap z z' y y' hne hy hy'
theorem get (h:Fls S w μ l) (k:ByteArray):FB S w ((μ k).getD raw0).1 ((μ k).getD raw0).2.1 ((μ k).getD raw0).2.2.1 ((ascA l k).getD ([],0)).1∧((μ k).getD raw0).2.2.2=((ascA l k).getD ([],0)).2:=by
  cases e:μ k with
  | none=>rw[h.no k e];exact⟨FB.nil _ _,rfl⟩
  | some x=>obtain⟨f,h1,h2,h3⟩:=h.yes k x e;rw[h1];exact⟨h3,h2⟩
end Fls
theorem Mp.tyOf {κ ν:Type} {kk:κ→Value} {d:VK ν} {B B0 r:Nat} {w:World} {μ:κ→Option ν} (h:Mp kk d B B0 w r μ):ty w r=some tMap:=by
  obtain⟨es,clock,m,hm,_⟩:=h.ex;exact hm.ty
theorem Mp.one {κ ν:Type} {kk:κ→Value} {d:VK ν} {B B0 r k:Nat} {t:TypeId} {w w':World} {μ:κ→Option ν} (h:Mp kk d B B0 w r μ) (m:One t k w w') (ht:t≠tMap) (hd:d.E=[]) (hB:B=0):Mp kk d B B0 w' r μ:=by
  subst hB
  exact h.keep (fun hl=>m.old r hl fun e=>ht (by have:=h.tyOf;rw[e,m.was] at this;injection this)) (fun j hj ho=>ho.elim (fun h=>by omega) fun ⟨u,hu,_⟩=>by rw[hd] at hu;simp at hu)
theorem Mp.oneR {κ ν:Type} {kk:κ→Value} {d:VK ν} {B0 r:Nat} {w w':World} {μ:κ→Option ν} {p:Option Addr} (h:Mp kk d 0 B0 w r μ) (m:OneR p w w') {S:Nat→Prop} {n c:Nat} {xs:List UInt8} (hF:FB S w p n c xs) (hd:d.E=[]):Mp kk d 0 B0 w' r μ :=
  h.keep (fun hl=>m.old r hl fun e=>by have:=hF.tyOf e;rw[h.tyOf] at this;revert this;decide) (fun j hj ho=>ho.elim (fun h=>by omega) fun ⟨u,hu,_⟩=>by rw[hd] at hu;simp at hu)
section
variable [DecidableEq ByteArray] {P : Program} {w : World} {T K e : TypeId} {r : Nat} {μ : ByteArray → Option Raw}
theorem lookF (hT:P.underlying T=some (.map K e)) (hz:(P.info? e).map (·.zero)=some (some (.agg #[.slice none 0 0,.int .i64 0]))) (hK:KeyOk P K kkStr) (hM:Mp kkStr vFile 0 0 w r μ) (a:ByteArray) {n:Nat} {f:Nat→Value} {x y:Operand} {ty0:TypeId} {pos:String} {aft:Array Edge} {dst':Option Nat} {gd:Option (Nat×Bool)} (hx:ev n f x = .map (some r)) (hy:ev n f y = .string a) :
    Ex P w n f ⟨dst',.lookup T x y false,ty0,pos,aft,gd⟩ (rawV ((μ a).getD raw0))∧Ex P w n f ⟨dst',.lookup T x y true,ty0,pos,aft,gd⟩ (.tuple #[rawV ((μ a).getD raw0),.bool (decide (μ a≠none))]):=by
  obtain⟨v,h1,h2⟩:=look hT hz hK hM a
  have hv:v=rawV ((μ a).getD raw0):=by
    cases e:μ a with
    | none=>rw[e] at h1;exact h1
    | some b=>rw[e] at h1;exact h1
  subst hv
  exact h2 hx hy
end
structure Dsk (S:Nat→Prop) (w:World) (g:Nat) (D:DS):Prop where
  ex:∃ r μ,Blk w g #[.int .i64 (D.most:Int),.int .i64 ((usedL D.l:Nat):Int),.map (some r),.int .i64 (D.steps:Int),.int .i64 D.left,.bool D.done,.bool D.down] tDisk∧Mp kkStr vFile 0 0 w r μ∧S g∧S r∧Fls S w μ D.l
namespace Dsk
variable {S S' : Nat → Prop} {w w' w0 : World} {g : Nat} {D : DS} {E : List TypeId}
theorem ext (h:Dsk S w g D) (x:Ext w w'):Dsk S w' g D:=by
  obtain⟨r,μ,h1,h2,h3,h4,h5⟩:=h.ex
  exact⟨r,μ,h1.ext x,h2.ext x,h3,h4,h5.ext x⟩
theorem mono (h:Dsk S w g D) (hS:∀ k,k<w.heap.size→S k→S' k):Dsk S' w g D:=by
  obtain⟨r,μ,h1,h2,h3,h4,h5⟩:=h.ex
  exact⟨r,μ,h1,h2,hS _ h1.lt h3,hS _ h2.lt h4,h5.mono hS⟩
theorem grown (h:Dsk S w g D) (w0:World):Dsk (grow S w0 w) w g D:=h.mono fun _ _ h => .inl h
theorem wide (h:Dsk (grow S w0 w) w g D) {w1:World} (hs:w1.heap.size≤w0.heap.size):Dsk (grow S w1 w) w g D:=h.mono fun k hk hg=>hg.imp id fun ⟨h1,h2⟩=>⟨by omega,h2⟩
theorem modS (h:Dsk S w g D) (m:ModS S' E w w') (hd:∀ j,S j→¬ S' j):Dsk S w' g D:=by
  obtain⟨r,μ,h1,h2,h3,h4,h5⟩:=h.ex
  exact⟨r,μ,h1.modS m (.inl (hd _ h3)),h2.keep (fun hl=>m.old r hl (.inl (hd _ h4))) (fun j hj ho=>ho.elim (fun h=>by omega) fun ⟨u,hu,_⟩=>by simp[vFile] at hu),h3,h4,
    h5.keep fun _ _ _ _ hf=>hf.keep fun j hj hl=>m.old j hl (.inl (hd _ (hf.inS hj).1))⟩
end Dsk
theorem Xi {S:Nat→Prop} {w w':World} {k:Nat} (hk:k<w'.heap.size) (h:S k∨w.heap.size≤k):grow S w w' k:=h.imp id fun h=>⟨h,hk⟩
theorem Rj {s:ByteArray} {i:Nat} (hi:i<s.size) (h:¬ (33≤(btAt s i).toNat∧(btAt s i).toNat≤126)):Bg s=false:=by
  unfold Bg
  have:(s.data.toList.all fun c=>decide (33≤c.toNat∧c.toNat≤126))=false:=by
    rw[List.all_eq_false]
    have hi':i<s.data.toList.length:=by simpa using hi
    refine⟨s.data.toList[i],List.getElem_mem hi',?_⟩
    rw[btAt,List.getD_eq_getElem?_getD,List.getElem?_eq_getElem hi',Option.getD_some] at h
    simpa using h
  rw[this,Bool.and_false]
theorem Wj {s:ByteArray} (h:s.size=0∨32<s.size):Bg s=false:=by unfold Bg;rw[decide_eq_false (by omega)];rfl
theorem Wk {s:ByteArray} (h:1≤s.size∧s.size≤32) (ha:∀ i,i<s.size→33≤(btAt s i).toNat∧(btAt s i).toNat≤126):Bg s=true:=by
  unfold Bg
  rw[decide_eq_true h,Bool.true_and,List.all_eq_true]
  intro c hc
  obtain⟨i,hi,e⟩:=List.mem_iff_getElem.1 hc
  have:=ha i (by simpa using hi)
  rw[btAt,List.getD_eq_getElem?_getD,List.getElem?_eq_getElem hi,Option.getD_some,e] at this
  exact decide_eq_true this
theorem Sl.strAt {e:TypeId} {B:Nat} {w:World} {p:Option Addr} {n c:Nat} {xs:List ByteArray} (h:Sl kStr e B w p n c xs) (i:Nat) (h1:i<n):w.cell? ⟨ab p,ao p+i,none⟩=some (.string (xs.getD i ByteArray.empty)):=by
  obtain⟨cs,hk,hr⟩:=h.get ByteArray.empty i h1
  have:cs=[.string (xs.getD i ByteArray.empty)]:=hk
  subst this
  have:=hr 0 _ rfl
  have e1:kStr.sz=1:=rfl
  rw[e1] at this
  simpa using this
theorem Ks {xs:List ByteArray} {k:Nat} (h:∀ i,i<k→Bg (xs.getD i ByteArray.empty)=true) (hk:k=xs.length):xs.all Bg=true:=by
  rw[List.all_eq_true]
  intro c hc
  obtain⟨i,hi,e⟩:=List.mem_iff_getElem.1 hc
  have:=h i (by omega)
  rw[List.getD_eq_getElem?_getD,List.getElem?_eq_getElem hi,Option.getD_some,e] at this
  exact this
theorem Lj {xs:List ByteArray} {k:Nat} (hk:k<xs.length) (h:Bg (xs.getD k ByteArray.empty)=false):xs.all Bg=false:=by
  rw[List.all_eq_false]
  refine⟨xs[k],List.getElem_mem hk,?_⟩
  rw[List.getD_eq_getElem?_getD,List.getElem?_eq_getElem hk,Option.getD_some] at h
  rw[h];simp
theorem Dsk.of {S S1:Nat→Prop} {w0 w:World} {g r:Nat} {μ:ByteArray→Option Raw} {D:DS} (hB:Blk w g #[.int .i64 (D.most:Int),.int .i64 ((usedL D.l:Nat):Int),.map (some r),.int .i64 (D.steps:Int),.int .i64 D.left,.bool D.done,.bool D.down] tDisk) (hM:Mp kkStr vFile 0 0 w r μ)
    (hg:S g) (hr:S1 r) (hF:Fls S1 w μ D.l) (hS:∀ k,k<w.heap.size→S1 k→S k∨w0.heap.size≤k):Dsk (grow S w0 w) w g D :=
  ⟨r,μ,hB,hM,.inl hg,Xi hM.lt (hS r hM.lt hr),hF.mono fun k hk h=>Xi hk (hS k hk h)⟩
theorem Po {S:Nat→Prop} {w0 w w1:World} {n:Nat} (hw:w0.heap.size≤w.heap.size):∀ k,k<n→grow S w w1 k→S k∨w0.heap.size≤k:=fun k _ h=>h.imp id fun ⟨h1,_⟩=>by omega
theorem Ev {S:Nat→Prop} {w0:World} {n:Nat}:∀ k,k<n→S k→S k∨w0.heap.size≤k:=fun _ _ h => .inl h
section
variable {P : Program} {n : Nat} {f : Nat → Value} {w : World} {dst : Option Nat} {T ty0 : TypeId} {x : Operand} {pos : String} {aft : Array Edge} {gd : Option (Nat × Bool)}
theorem K4 {i ft off:Nat} {cs:Array Value} {u:Value} (hF:A3 P T i=some (ft,off)) (hu:(P.underlying ft).map TypeDesc.isRow=some false) (hx:ev n f x = .agg cs) (hi:cs[off]? = some u):Ex P w n f ⟨dst,.field T x i,ty0,pos,aft,gd⟩ u:=by
  obtain⟨fs,fld,hd,hf,rfl,rfl⟩:=L0 hF
  obtain⟨d,hu,hd'⟩:=Option.map_eq_some_iff.1 hu
  unfold Ex execOp
  simp[hx,Instr.field,Sem.run_bind,run_underlying hd,hf,asAgg,part,Oa (w:=w) hu hd',hi]
theorem Oj {S:Nat→Prop} {K e:TypeId} {r:Nat} {μ:ByteArray→Option Raw} {l:List Fl} (hT:P.underlying T=some (.map K e)) (hM:Mp kkStr vFile 0 0 w r μ) (hF:Fls S w μ l) (hr:RiseNA l) (hx:ev n f x = .map (some r)):Ex P w n f ⟨dst,.call ⟨.builtin .len,#[x],#[T]⟩,ty0,pos,aft,gd⟩ (.int .i64 (l.length:Int)):=by
  obtain⟨es,clock,m,hm,ht⟩:=hM.ex
  have hl:es.size=l.length:=by
    have h1:=hm.ents.length
    have h2:=W0 hr hm.nd fun k=>(ht.key k).trans (not_congr (hF.iff k))
    rw[List.length_map] at h2
    rw[← h2,← h1];simp
  unfold Ex execOp
  simp[resolve,invoke,builtin,hx,Builtin.len_,run_underlying hT,Sem.run_bind,MapKept.run_getObj_map hm.blk,goInt,hl]
end
theorem OneR.app {p:Option Addr} {w w':World} (m:OneR p w w'):w.heap.size≤w'.heap.size:=m.size
theorem Fls.there {S:Nat→Prop} {w:World} {μ:ByteArray→Option Raw} {l:List Fl} (h:Fls S w μ l) {k:ByteArray} (hk:ascA l k≠none):μ k=some ((μ k).getD raw0)∧ascA l k=some ((ascA l k).getD ([],0)):=by
  refine⟨?_,?_⟩
  · cases e : μ k with
    | none=>exact absurd (h.no k e) hk
    | some x=>rfl
  · cases e : ascA l k with
    | none=>exact absurd e hk
    | some x=>rfl
theorem Dsk.made {S S1:Nat→Prop} {w0 w:World} {g r:Nat} {u:Int} {μ:ByteArray→Option Raw} {D:DS} {l:List Fl} (hB:Blk w g #[.int .i64 (D.most:Int),.int .i64 u,.map (some r),.int .i64 (D.steps:Int),.int .i64 D.left,.bool D.done,.bool D.down] tDisk) (hu:u=((usedL l:Nat):Int)) (hM:Mp kkStr vFile 0 0 w r μ)
    (hg:S g) (hr:S1 r) (hF:Fls S1 w μ l) (hS:∀ k,k<w.heap.size→S1 k→S k∨w0.heap.size≤k):Dsk (grow S w0 w) w g { D with l:=l }:=by
  subst hu
  exact Dsk.of (D:={ D with l:=l }) hB hM hg hr hF hS
theorem R6 {S:Nat→Prop} {w:World} {μ:ByteArray→Option Raw} {l:List Fl} (h:Fls S w μ l) {k:ByteArray} {x:Raw} (hx:μ k=some x):∀ k' y,k'≠k→μ k'=some y→Apart x.1 y.1:=fun k' y hne hy=>h.ap k k' x y (Ne.symm hne) hx hy
theorem Zm {S:Nat→Prop} {w:World} {μ:ByteArray→Option Raw} {l:List Fl} (h:Fls S w μ l) {k:ByteArray} {x:Raw} (hx:μ k=some x) {p':Option Addr} (hp:p'=x.1∨∃ g,p'=some ⟨g,0,none⟩∧w.heap.size≤g):∀ k' y,k'≠k→μ k'=some y→Apart p' y.1:=fun k' y hne hy=>by
  obtain⟨f,h1,h2,h3⟩:=h.yes k' y hy
  exact FB.apart (S':=S) (h.ap k k' x y (Ne.symm hne) hx hy) h3 hp
theorem Fls.ren {S:Nat→Prop} {w:World} {μ:ByteArray→Option Raw} {l:List Fl} (h:Fls S w μ l) (hr:RiseNA l) {old now:ByteArray} (hne:old≠now) (hk:ascA l old≠none) :
    Fls S w (mset (mset μ now (some ((μ old).getD raw0))) old none) (insA (insA l now (some ((ascA l old).getD ([],0)))) old none):=by
  obtain⟨h1,h2⟩:=h.there hk
  have hi:∀ z,ascA (insA (insA l now (some ((ascA l old).getD ([],0)))) old none) z=if z=old then none else if z=now then some ((ascA l old).getD ([],0)) else ascA l z:=fun z=>by
    rw[← D5 (Dj hr _ _)]
    unfold mset
    split
    · rfl
    · exact(D5 hr now _ z).symm
  have hm:∀ z,mset (mset μ now (some ((μ old).getD raw0))) old none z=if z=old then none else if z=now then some ((μ old).getD raw0) else μ z:=fun z=>rfl
  obtain⟨f,hf1,hf2,hf3⟩:=h.yes old _ h1
  have hff:f=(ascA l old).getD ([],0):=by rw[hf1];rfl
  subst hff
  refine⟨fun z hz=>?_,fun z y hy=>?_,fun z z' y y' hzz hy hy'=>?_⟩
  · rw [hm] at hz; rw [hi]
    split at hz
    · rename_i e;rw[if_pos e]
    · rename_i e
      split at hz
      · cases hz
      · rename_i e';rw[if_neg e,if_neg e'];exact h.no z hz
  · rw [hm] at hy; rw [hi]
    split at hy
    · cases hy
    · rename_i e
      split at hy
      · rename_i e'
        injection hy with hy;subst hy
        rw[if_neg e,if_pos e'];exact⟨_,rfl,hf2,hf3⟩
      · rename_i e';rw[if_neg e,if_neg e'];exact h.yes z y hy
  · rw [hm] at hy hy'
    split at hy
    · cases hy
    · rename_i e
      split at hy'
      · cases hy'
      · rename_i e'
        split at hy <;> split at hy'
        · rename_i q q';exact absurd (q.trans q'.symm) hzz
        · rename_i q q';injection hy with hy;subst hy;exact h.ap old z' _ _ (fun x=>e' x.symm) h1 hy'
        · rename_i q q';injection hy' with hy';subst hy';exact(h.ap old z _ _ (fun x=>e x.symm) h1 hy).symm
        · exact h.ap z z' y y' hzz hy hy'
def newD (most:Int):DS:={ most:=(max 0 (min most 16777216)).toNat,l:=[],steps:=0,left:=-1,done:=false,down:=false }
theorem Xr (most:Int):DOk (newD most):=⟨.nil,Nat.zero_le _,Nat.zero_le _,by show (max 0 (min most 16777216)).toNat≤16777216;omega,by show (-1:Int)≤-1;omega,fun x hx=>by cases hx⟩
theorem Abq (S:Nat→Prop) (w:World):Fls S w (fun _=>none) []:=⟨fun _ _=>rfl,fun _ _ h=>(by cases h),fun _ _ _ _ _ h=>(by cases h)⟩
theorem Ade {w w':World} {g r:Nat} {most:Int} (hB:Blk w' g #[.int .i64 (max 0 (min most 16777216)),.int .i64 0,.map (some r),.int .i64 0,.int .i64 (-1),.bool false,.bool false] tDisk) (hM:Mp kkStr vFile 0 w.heap.size w' r (fun _=>none)) (hg:w.heap.size≤g) (hX:Ext w w'):Dsk (grow (fun _=>False) w w') w' g (newD most):=by
  have e:max 0 (min most 16777216)=(((newD most).most:Nat):Int):=by show _=(((max 0 (min most 16777216)).toNat:Nat):Int);omega
  rw[e] at hB
  exact⟨r,_,hB,hM.lower (Nat.zero_le _),.inr ⟨hg,hB.lt⟩,.inr ⟨hM.low,hM.lt⟩,Abq _ _⟩
theorem Y3 {l m:List ByteArray} (hl:l.Pairwise fun a b=>lssB a b=true) (hm:m.Pairwise fun a b=>lssB a b=true) (h:∀ x,x∈l↔x∈m):l=m:=by
  have e:=Kz (α:=Unit) (l:=l.map fun x=>(x,())) (m:=m.map fun x=>(x,())) (List.pairwise_map.2 hl) (List.pairwise_map.2 hm) fun x=>by
    simp only[List.mem_map]
    constructor
    · rintro⟨a,ha,rfl⟩;exact⟨a,(h a).1 ha,rfl⟩
    · rintro⟨a,ha,rfl⟩;exact⟨a,(h a).2 ha,rfl⟩
  have:=congrArg (List.map Prod.fst) e
  simpa [List.map_map,Function.comp_def] using this
theorem Y5 (zs:Array Value) (n:Nat):(madeCells zs n).size=n:=by simp[madeCells]
section
variable {P : Program} {N : Nat} {f : Nat → Value} {w : World} {dst : Option Nat} {T ty0 : TypeId} {pos : String} {aft : Array Edge} {gd : Option (Nat × Bool)}
theorem Zw {x y z:Operand} {z0 z1 z2 z3 z4 z5 z6:Value} {k:Nat} {i:Int}
    (hP:Co P T=some (.agg #[z0,z1,z2,z3,z4,z5,z6],[(0,1),(1,1),(2,1),(3,1),(4,1),(5,1),(6,1)])) (hx:ev N f x = .int .i64 i) (hy:ev N f y = .map (some k)) (hz:ev N f z = .int .i64 (-1)) :
    Ex P w N f ⟨dst,.build T #[(0,x),(2,y),(4,z)],ty0,pos,aft,gd⟩ (.agg #[.int .i64 i,z1,.map (some k),z3,.int .i64 (-1),z5,z6]) :=
  Eb (parts:=[(0,x),(2,y),(4,z)]) (ps:=[(0,.int .i64 i),(2,.map (some k)),(4,.int .i64 (-1))]) hP (by rw[← hx,← hy,← hz];rfl) (by show Instr.fill _ #[z0,z1,z2,z3,z4,z5,z6] _=_;simp[Instr.fill,Value.cells] <;> rfl)
end
structure Out (S:Nat→Prop) (w:World) (p:Option Addr) (n c:Nat) (xs:List UInt8):Prop where
  len:xs.length=n
  cap:n≤c
  fit:c≤9223372036854775807
  row:Row w p (xs.map cell)
  out:xs≠[]→¬ S (ab p)
namespace Out
variable {S S' : Nat → Prop} {E : List TypeId} {w w' : World} {p : Option Addr} {n c : Nat} {xs : List UInt8}
theorem modS (h:Out S w p n c xs) (m:ModS S E w w'):Out S w' p n c xs :=
  ⟨h.len,h.cap,h.fit,h.row.of_block fun hne=>m.old _ (h.row.lt hne) (.inl (h.out (by intro e;rw[e] at hne;exact hne rfl))),h.out⟩
theorem sl (h:Out S w p n c xs):Sl kByte fk w.heap.size w p n c xs :=
  ⟨h.len,h.cap,h.fit,_,B6 _ w xs,by rw[Bf];exact⟨h.row,fun hne => .inl (h.row.lt hne)⟩⟩
theorem ofSl {e:TypeId} {B:Nat} (h:Sl kByte e B w p n c xs) (ho:xs≠[]→¬ S (ab p)):Out S w p n c xs:=by
  have hr:=h.pureRow.row
  rw[Bf] at hr
  exact⟨h.len,h.cap,h.fit,hr,ho⟩
theorem nil (S:Nat→Prop) (w:World):Out S w none 0 0 []:=⟨rfl,Nat.le_refl _,by omega,Row.nil _ _,fun h=>absurd rfl h⟩
end Out
theorem Vn (l:List Fl) (k:Nat):usedL (l.take k)+usedL (l.drop k)=usedL l:=by rw[← Ge,List.take_append_drop]
theorem J8 {D:DS} {ns:List ByteArray} (hn:ns.all Bg=true) (hd:D.down=false):lookD D ns=0:=by unfold lookD;rw[hn,hd];rfl
def since (w:World):Nat→Prop:=fun j=>w.heap.size≤j
theorem Dsk.all {S:Nat→Prop} {w w1 w':World} {g:Nat} {D:DS} (h:Dsk (grow S w1 w') w' g D) (hS:∀ j,S j→w.heap.size≤j) (hw:w.heap.size≤w1.heap.size):Dsk (since w) w' g D :=
  h.mono fun k _ hk=>hk.elim (hS k) fun h=>Nat.le_trans hw h.1
theorem Ep (w:World):∀ j,since w j→w.heap.size≤j:=fun _ h=>h
theorem slx {e B:Nat} {w w':World} {p:Option Addr} {n c:Nat} {xs:List UInt8} (h:Sl kByte e B w p n c xs) (hR:∀ p vs,Row w p vs→Row w' p vs):Sl kByte fk w'.heap.size w' p n c xs:=by
  have hr:=h.pureRow.row
  rw[Bf] at hr
  exact(Out.sl (S:=fun _=>False) ⟨h.len,h.cap,h.fit,hR _ _ hr,fun _=>id⟩)
structure DAct where
  k:UInt8
  nm:ByteArray
  now:ByteArray
  data:List UInt8
  n:Int
  done:Bool
instance : Inhabited DAct := ⟨⟨0, ByteArray.empty, ByteArray.empty, [], 0, false⟩⟩
structure Good (D:DS) (i:Nat):Prop where
  ok:DOk D
  steps:D.steps≤i
  left:D.left≤9223372036854775807
  names:∀ x∈D.l,Bg x.1=true
theorem Gu {D:DS} {i:Nat} (h:Good D i) {act:List Fl} {fa al:Bool} (hok:DOk (stepD D act fa al).1) (hn:∀ x∈act,Bg x.1=true):Good (stepD D act fa al).1 (i+1):=by
  have h1:=h.steps
  have h2:=h.left
  by_cases hl:D.left≠0
  · rw [K8 hl] at hok ⊢
    exact⟨hok,by show D.steps+1≤_;omega,by show max (-1) (D.left - 1)≤_;omega,hn⟩
  · cases hb : (fa && (al || D.done)) with
    | true=>rw[Ma hl hb] at hok ⊢;exact⟨hok,by show D.steps≤_;omega,by show (-1:Int)≤_;omega,hn⟩
    | false=>rw[Ow hl hb] at hok ⊢;exact⟨hok,by show D.steps≤_;omega,by show (-1:Int)≤_;omega,h.names⟩
theorem Dz {D:DS} {i:Nat} (h:Good D i):Good D (i+1):=⟨h.ok,Nat.le_succ_of_le h.steps,h.left,h.names⟩
theorem Ft {l:List Fl} {k:ByteArray} {o:Option Fb} (h:∀ x∈l,Bg x.1=true) (hk:Bg k=true):∀ x∈insA l k o,Bg x.1=true:=fun x hx=>by
  rcases Ur hx with e | e
  · rw[e];exact hk
  · exact h x e
theorem look0 {D:DS} {ns:List ByteArray} (h:¬ lookD D ns≠0):ns.all Bg=true:=by
  unfold lookD at h
  cases hn:ns.all Bg with
  | true=>rfl
  | false=>rw[if_pos hn] at h;exact absurd (by decide) h
theorem look1 {D:DS} {k:ByteArray} (h:¬ lookD D [k]≠0):Bg k=true:=by have:=look0 h;simpa using this
theorem Nj {D:DS} {i:Nat} (h:Good D i) (k:ByteArray):Good (A9 D k).1 (i+1):=by
  have ho:=Zj h.ok k
  unfold A9 at ho ⊢
  split at ho
  · rename_i c;rw[if_pos c];exact Dz h
  · rename_i c1
    rw[if_neg c1]
    split at ho
    · rename_i c;rw[if_pos c];exact Dz h
    · rename_i c2
      rw[if_neg c2]
      split at ho
      · rename_i c;rw[if_pos c];exact Dz h
      · rename_i c3;rw[if_neg c3];exact Gu h ho (Ft h.names (look1 c1))
theorem Nk {D:DS} {i:Nat} (h:Good D i) (k:ByteArray) (p:List UInt8):Good (Bm D k p).1 (i+1):=by
  have ho:=Zl h.ok k p
  unfold Bm at ho ⊢
  split at ho
  · rename_i c;rw[if_pos c];exact Dz h
  · rename_i c1
    rw[if_neg c1]
    split at ho
    · rename_i c;rw[if_pos c];exact Dz h
    · rename_i c2
      rw[if_neg c2]
      split at ho
      · rename_i c;rw[if_pos c];exact Dz h
      · rename_i c3;rw[if_neg c3];exact Gu h ho (Ft h.names (look1 c1))
theorem Rw {D:DS} {i:Nat} (h:Good D i) (k:ByteArray):Good (syncD D k).1 (i+1):=by
  have ho:=Acu h.ok k
  unfold syncD at ho ⊢
  split at ho
  · rename_i c;rw[if_pos c];exact Dz h
  · rename_i c1
    rw[if_neg c1]
    split at ho
    · rename_i c;rw[if_pos c];exact Dz h
    · rename_i c2;rw[if_neg c2];exact Gu h ho (Ft h.names (look1 c1))
theorem Dr {D:DS} {i:Nat} (h:Good D i) (k:ByteArray):Good (B3 D k).1 (i+1):=by
  have ho:=Yt h.ok k
  unfold B3 at ho ⊢
  split at ho
  · rename_i c;rw[if_pos c];exact Dz h
  · rename_i c1
    rw[if_neg c1]
    split at ho
    · rename_i c;rw[if_pos c];exact Dz h
    · rename_i c2;rw[if_neg c2];exact Gu h ho (Ft h.names (look1 c1))
theorem Ni {D:DS} {i:Nat} (h:Good D i) (old now:ByteArray):Good (Bv D old now).1 (i+1):=by
  have ho:=Ys h.ok old now
  unfold Bv at ho ⊢
  split at ho
  · rename_i c;rw[if_pos c];exact Dz h
  · rename_i c1
    rw[if_neg c1]
    split at ho
    · rename_i c;rw[if_pos c];exact Dz h
    · rename_i c2
      rw[if_neg c2]
      have hn:=look0 c1
      simp only[List.all_cons,List.all_nil,Bool.and_true,Bool.and_eq_true] at hn
      refine Gu h ho ?_
      unfold renL
      split
      · exact h.names
      · exact Ft (Ft h.names hn.2) hn.1
theorem Lr {D:DS} {i:Nat} (h:Good D i) (k:ByteArray) (n:Int):Good (cutD D k n).1 (i+1):=by
  have ho:=Aex h.ok k n
  unfold cutD at ho ⊢
  split at ho
  · rename_i c;rw[if_pos c];exact Dz h
  · rename_i c1
    rw[if_neg c1]
    split at ho
    · rename_i c;rw[if_pos c];exact Dz h
    · rename_i c2
      rw[if_neg c2]
      split at ho
      · rename_i c;rw[if_pos c];exact Dz h
      · rename_i c3;rw[if_neg c3];exact Gu h ho (Ft h.names (look1 c1))
theorem Zc {D:DS} {i:Nat} (h:Good D i) (n:Int) (b:Bool) (hn:n≤9223372036854775807):Good (failD D n b).1 (i+1):=by
  have ho:=Adv h.ok n b
  unfold failD at ho ⊢
  split at ho
  · rename_i c;rw[if_pos c];exact Dz h
  · rename_i c1
    rw[if_neg c1]
    split at ho
    · rename_i c;rw[if_pos c];exact Dz h
    · rename_i c2;rw[if_neg c2];exact⟨ho,by have:=h.steps;show D.steps≤_;omega,hn,h.names⟩
theorem Uw (most:Int):Good (newD most) 0:=⟨Xr most,Nat.le_refl _,by show (-1:Int)≤_;omega,fun x hx=>by cases hx⟩
theorem Ik {k:ByteArray} (h:Bg k=true):k.size≤32:=by
  unfold Bg at h
  rw[Bool.and_eq_true] at h
  have:=of_decide_eq_true h.1
  omega
structure Lo (B:Nat) (w:World) (p:Option Addr) (n c:Nat) (xs:List UInt8):Prop where
  len:xs.length=n
  cap:n≤c
  fit:c≤9223372036854775807
  row:Row w p (xs.map cell)
  low:xs≠[]→ab p<B
namespace Lo
variable {B B' : Nat} {w w' : World} {p : Option Addr} {n c : Nat} {xs : List UInt8} {E : List TypeId}
theorem keep (h:Lo B w p n c xs) (hs:Same B E w w'):Lo B w' p n c xs :=
  ⟨h.len,h.cap,h.fit,h.row.of_block fun hne=>hs _ (h.row.lt hne) (.inl (h.low (by intro e;rw[e] at hne;exact hne rfl))),h.low⟩
theorem mono (h:Lo B w p n c xs) (hB:B≤B'):Lo B' w p n c xs:=⟨h.len,h.cap,h.fit,h.row,fun hne=>Nat.lt_of_lt_of_le (h.low hne) hB⟩
theorem out (h:Lo B w p n c xs) {w0:World} (hB:B≤w0.heap.size):Out (since w0) w p n c xs:=⟨h.len,h.cap,h.fit,h.row,fun hne hs=>by have:=h.low hne;have:w0.heap.size≤ab p:=hs;omega⟩
end Lo
theorem Dsk.one {S:Nat→Prop} {w w':World} {g r:Nat} {t:TypeId} {D:DS} (h:Dsk S w g D) (m:One t r w w') (ht:t∉[tDisk,tMap,5]):Dsk S w' g D:=by
  simp only[List.mem_cons,List.not_mem_nil,or_false,not_or] at ht
  obtain⟨r',μ,h1,h2,h3,h4,h5⟩:=h.ex
  exact⟨r',μ,h1.one m (fun e=>ht.1 e.symm),h2.one m ht.2.1 rfl rfl,h3,h4,h5.one m ht.2.2⟩
structure UpD (D:DS) (M i:Nat):Prop where
  good:Good D i
  down:D.down=false
  left:D.left=-1
  most:D.most=M
theorem Xh {D:DS} {M i:Nat} (h:UpD D M i) (act:List Fl) (fa al:Bool):stepD D act fa al=({ D with l:=act,left:=-1,steps:=D.steps+1 },0):=by
  rw[K8 (by rw[h.left];decide),h.left];rfl
theorem Ad2 {D:DS} {M i:Nat} (h:UpD D M i) {act:List Fl} (hg:Good { D with l:=act,left:=-1,steps:=D.steps+1 } (i+1)):UpD { D with l:=act,left:=-1,steps:=D.steps+1 } M (i+1):=⟨hg,h.down,rfl,h.most⟩
theorem Acr {D:DS} {M i:Nat} (h:UpD D M i) {k:ByteArray} (hn:Bg k=true) {f:Fb} (hk:ascF D.l k=some f):readD D k=(f.1,0):=by
  unfold readD getF
  rw[J8 (by simp[hn]) h.down,if_neg (by simp),if_neg (by rw[hk];simp),hk];rfl
def nMan:ByteArray:=toStr [109,97,110,105,102,101,115,116]
def nNew:ByteArray:=toStr [109,97,110,105,102,101,115,116,46,110,101,119]
def nSeg (n:Nat):ByteArray:=toStr (nameF n)
def andD (r:DS×Int) (f:DS→DS×Int):DS×Int:=if r.2=0 then f r.1 else r
def writeD (D:DS) (b:By):DS×Int:=andD (A9 D nNew) fun D=>andD (Bm D nNew b) fun D=>andD (syncD D nNew) fun D=>Bv D nNew nMan
def writeM (D:DS) (m:Mf):DS×Int:=if errM m.seg m.size m.index=0 then writeD D (manB m) else (D,errM m.seg m.size m.index)
def SegN (n:ByteArray):Prop:=∃ k:Nat,1≤k∧k≤999999∧n=nSeg k
open Classical in
noncomputable def keepN (n keep : ByteArray) : Bool := decide (n ≠ nNew ∧ (¬ SegN n ∨ n = keep))
noncomputable def cleanL (keep : ByteArray) : DS → List ByteArray → DS × Int
  | D, [] => (D, 0)
  | D, n :: ns => if keepN n keep then cleanL keep D ns else andD (B3 D n) fun D => cleanL keep D ns
noncomputable def cleanD (D : DS) (keep : ByteArray) : DS × Int := cleanL keep D (D.l.map (·.1))
structure CS where
  D:DS
  seg:Nat
  size:Nat
  index:By
  L:List By
  next:Option (List Hash×Nat)
  dead:Bool
open Classical in
noncomputable def loadC (D : DS) (raw : By) : CS × Int :=
  if h : ∃ m, ManOf raw m then
    let m := h.choose
    let C : CS := ⟨D, m.seg, m.size, m.index, (getSg ((readD D (nSeg m.seg)).1.take m.size)).1, none, false⟩
    if (readD D (nSeg m.seg)).2 ≠ 0 ∨ (readD D (nSeg m.seg)).1.length < m.size ∨ (getSg ((readD D (nSeg m.seg)).1.take m.size)).2 ≠ 0 then ({ C with D := D }, 50)
    else
      let r := andD (if m.size < (readD D (nSeg m.seg)).1.length then cutD D (nSeg m.seg) m.size else (D, 0)) fun D => cleanD D (nSeg m.seg)
      ({ C with D := r.1 }, r.2)
  else (⟨D, 1, 0, [], [], none, false⟩, 50)
noncomputable def openC (D : DS) : CS × Int :=
  if (readD D nMan).2 = 0 then loadC D (readD D nMan).1
  else if (readD D nMan).2 = 22 then
    let r := andD (cleanD D (toStr [])) fun D => andD (A9 D (nSeg 1)) fun D => writeM D ⟨1, 0, []⟩
    (⟨r.1, 1, 0, [], [], none, false⟩, r.2)
  else (⟨D, 1, 0, [], [], none, false⟩, (readD D nMan).2)
def E0 (D:DS) (k:ByteArray):Prop:=ascF D.l k≠none
instance (D : DS) (k : ByteArray) : Decidable (E0 D k) := inferInstanceAs (Decidable (_ ≠ _))
def undoD (D:DS) (seg size:Nat) (step:Bool):DS×Int :=
  andD (if size<(readD D (nSeg seg)).1.length then cutD D (nSeg seg) size else (D,0)) fun D =>
  andD (if E0 D nNew then B3 D nNew else (D,0)) fun D =>
  if step=true∧E0 D (nSeg (seg+1)) then B3 D (nSeg (seg+1)) else (D,0)
def undoC (C:CS) (e:Int) (step:Bool):CS×Int :=
  if e=20 then ({ C with dead:=true },20)
  else if (undoD C.D C.seg C.size step).2≠0 then ({ C with D:=(undoD C.D C.seg C.size step).1,dead:=true },20)
  else ({ C with D:=(undoD C.D C.seg C.size step).1,next:=if step=true then none else C.next },e)
def Be (L:List By):List By→List By
  | []=>[]
  | c :: cs=>if findF L (shaF c)=none then c :: Be (L++[c]) cs else Be L cs
def segB (l:List By):By:=l.flatMap (sealF 1)
def putC (C:CS) (cs:List By) (index:By):CS×Int :=
  if C.dead=true then (C,20)
  else if 524288<index.length∨∃ c∈cs,1048576<c.length then (C,5)
  else
    let l:=Be C.L cs
    let r:=andD (if l=[] then (C.D,0) else andD (Bm C.D (nSeg C.seg) (segB l)) fun D=>syncD D (nSeg C.seg)) fun D=>writeM D ⟨C.seg,C.size+(segB l).length,index⟩
    if r.2≠0 then undoC { C with D:=r.1 } r.2 false
    else ({ C with D:=r.1,size:=C.size+(segB l).length,index:=index,L:=C.L++l },0)
abbrev DG:=Good
theorem Good.mono {D:DS} {k k':Nat} (h:Good D k) (hk:k≤k'):Good D k':=⟨h.ok,Nat.le_trans h.steps hk,h.left,h.names⟩
theorem Good.create {D:DS} {k:Nat} (h:Good D k) (n:ByteArray):Good (A9 D n).1 (k+1):=Nj h n
theorem Good.append {D:DS} {k:Nat} (h:Good D k) (n:ByteArray) (b:By):Good (Bm D n b).1 (k+1):=Nk h n b
theorem Good.sync {D:DS} {k:Nat} (h:Good D k) (n:ByteArray):Good (syncD D n).1 (k+1):=Rw h n
theorem Good.rename {D:DS} {k:Nat} (h:Good D k) (o n:ByteArray):Good (Bv D o n).1 (k+1):=Ni h o n
theorem Good.remove {D:DS} {k:Nat} (h:Good D k) (n:ByteArray):Good (B3 D n).1 (k+1):=Dr h n
theorem Good.cut {D:DS} {k:Nat} (h:Good D k) (n:ByteArray) (z:Int):Good (cutD D n z).1 (k+1):=Lr h n z
theorem Good.andD {r:DS×Int} {f:DS→DS×Int} {a b:Nat} (h:Good r.1 a) (hf:∀ D,Good D a→Good (f D).1 b) (hab:a≤b):Good (Eng.andD r f).1 b:=by
  unfold Eng.andD
  split
  · exact hf _ h
  · exact h.mono hab
theorem Good.writeD {D:DS} {k:Nat} (h:Good D k) (b:By):Good (Eng.writeD D b).1 (k+4) :=
  (h.create _).andD (fun D h=>(h.append _ _).andD (fun D h=>(h.sync _).andD (fun D h=>h.rename _ _) (by omega)) (by omega)) (by omega)
theorem Good.writeM {D:DS} {k:Nat} (h:Good D k) (m:Mf):Good (Eng.writeM D m).1 (k+4):=by
  unfold Eng.writeM
  split
  · exact h.writeD _
  · exact h.mono (by omega)
theorem Good.cleanL (keep:ByteArray):∀ (ns:List ByteArray) {D:DS} {k:Nat},Good D k→Good (Eng.cleanL keep D ns).1 (k+ns.length)
  | [],_,_,h=>h
  | n :: ns, D, k, h => by
    unfold Eng.cleanL
    split
    · exact(Good.cleanL keep ns h).mono (by rw[List.length_cons];omega)
    · exact(h.remove n).andD (fun D h=>(Good.cleanL keep ns h).mono (by rw[List.length_cons];omega)) (by rw[List.length_cons];omega)
theorem Good.cleanD {D:DS} {k:Nat} (h:Good D k) (keep:ByteArray):Good (Eng.cleanD D keep).1 (k+64) :=
  (Good.cleanL keep _ h).mono (by have:=h.ok.few;rw[List.length_map];omega)
theorem Jd (cs:List By) (c:By):∀ (L:List By),Be L (cs++[c])=if findF (L++Be L cs) (shaF c)=none then Be L cs++[c] else Be L cs:=by
  induction cs with
  | nil=>intro L;simp[Be]
  | cons x cs ih =>
    intro L
    rw[List.cons_append]
    unfold Be
    by_cases hx:findF L (shaF x)=none
    · rw [if_pos hx, if_pos hx, ih]
      have:L++x :: Be (L++[x]) cs=L++[x]++Be (L++[x]) cs:=by simp
      rw[this]
      split <;> simp
    · rw[if_neg hx,if_neg hx,ih]
theorem Cz (L l:List By) (h:Hash):findF (L++l) h=(findF L h).or (findF l h):=by unfold findF;rw[List.find?_append]
theorem Ly {L:List By} {h:Hash} {c:By} (e:findF L h=some c):shaF c=h∧c∈L:=by
  unfold findF at e
  have h1:=List.find?_some e
  exact⟨by simpa using h1,List.mem_of_find?_eq_some e⟩
theorem Lz {L:List By} {h:Hash}:findF L h=none↔∀ c∈L,shaF c≠h:=by unfold findF;simp
theorem Fy (cs:List By):∀ (L:List By),∀ c∈Be L cs,findF L (shaF c)=none∧c∈cs:=by
  induction cs with
  | nil=>intro L c hc;simp[Be] at hc
  | cons x cs ih =>
    intro L c hc
    unfold Be at hc
    by_cases hx:findF L (shaF x)=none
    · rw [if_pos hx] at hc
      rcases List.mem_cons.1 hc with rfl | hc
      · exact⟨hx,by simp⟩
      · obtain ⟨h1, h2⟩ := ih _ c hc
        rw[Cz] at h1
        exact⟨(Option.or_eq_none_iff.1 h1).1,by simp[h2]⟩
    · rw [if_neg hx] at hc
      obtain⟨h1,h2⟩:=ih _ c hc
      exact⟨h1,by simp[h2]⟩
def runD:List (DS→DS×Int)→DS→DS×Int
  | [],D=>(D,0)
  | f :: fs,D=>andD (f D) (runD fs)
theorem Ha (r:DS×Int):andD r (fun D=>(D,0))=r:=by
  unfold andD
  split
  · rename_i h;rw[← h]
  · rfl
theorem On (D:DS) (b:By):writeD D b=runD [fun D=>A9 D nNew,fun D=>Bm D nNew b,fun D=>syncD D nNew,fun D=>Bv D nNew nMan] D:=by
  simp only[writeD,runD,Ha]
theorem Yr {ops:List (DS→DS×Int)} {i:Nat} (h:i<ops.length) (D:DS):runD (ops.drop i) D=andD ((ops.getD i fun D=>(D,0)) D) (runD (ops.drop (i+1))):=by
  rw[List.drop_eq_getElem_cons h,List.getD_eq_getElem?_getD,List.getElem?_eq_getElem h];rfl
theorem I9 {D:DS} {raw:By} (h:¬ ∃ m,ManOf raw m):loadC D raw=(⟨D,1,0,[],[],none,false⟩,50):=by unfold loadC;rw[dif_neg h]
def loadS (D:DS) (m:Mf):CS:=⟨D,m.seg,m.size,m.index,(getSg ((readD D (nSeg m.seg)).1.take m.size)).1,none,false⟩
noncomputable def loadR (D : DS) (m : Mf) : DS × Int := andD (if m.size < (readD D (nSeg m.seg)).1.length then cutD D (nSeg m.seg) m.size else (D, 0)) fun D => cleanD D (nSeg m.seg)
theorem Gs {D:DS} {raw:By} {m:Mf} (h:ManOf raw m):loadC D raw=if (readD D (nSeg m.seg)).2≠0∨(readD D (nSeg m.seg)).1.length<m.size∨(getSg ((readD D (nSeg m.seg)).1.take m.size)).2≠0 then (loadS D m,50) else ({ loadS D m with D:=(loadR D m).1 },(loadR D m).2):=by
  have hex:∃ m,ManOf raw m:=⟨m,h⟩
  have e:hex.choose=m:=Wm hex.choose_spec h
  unfold loadC
  rw[dif_pos hex]
  simp only[e]
  rfl
theorem Fr {D:DS} (h:(readD D nMan).2=0):openC D=loadC D (readD D nMan).1:=if_pos h
noncomputable def openOps : List (DS → DS × Int) := [fun D => cleanD D (toStr []), fun D => A9 D (nSeg 1), fun D => writeM D ⟨1, 0, []⟩]
theorem Gq {D:DS} (h:(readD D nMan).2=22):openC D=(⟨(runD openOps D).1,1,0,[],[],none,false⟩,(runD openOps D).2):=by
  unfold openC
  rw[if_neg (by omega),if_pos h]
  simp only[openOps,runD,Ha]
theorem H3 {D:DS} (h:(readD D nMan).2≠0) (h2:(readD D nMan).2≠22):openC D=(⟨D,1,0,[],[],none,false⟩,(readD D nMan).2):=by
  unfold openC
  rw[if_neg h,if_neg h2]
structure CN (C:CS) (k:Nat):Prop where
  good:Good C.D k
  hi:C.seg≤999999
  sz:C.size≤1099511627776
  ix:C.index.length≤4194304000
  nx:∀ g z,C.next=some (g,z)→z≤1099511627776
  ln:C.L.length≤4194304
  cl:∀ c∈C.L,c.length≤1048576
theorem Dy {r:DS×Int} {f:DS→DS×Int} (h:r.2=0):andD r f=f r.1:=if_pos h
theorem Ee {r:DS×Int} {f:DS→DS×Int} (h:r.2≠0):andD r f=r:=if_neg h
def put1 (C:CS) (l:List By):DS×Int:=if l=[] then (C.D,0) else runD [fun D=>Bm D (nSeg C.seg) (segB l),fun D=>syncD D (nSeg C.seg)] C.D
def putR (C:CS) (l:List By) (ix:By):DS×Int:=andD (put1 C l) fun D=>writeM D ⟨C.seg,C.size+(segB l).length,ix⟩
theorem Qw {C:CS} {cs:List By} {ix:By} (hd:¬ C.dead=true) (hl:¬ (524288<ix.length∨∃ c∈cs,1048576<c.length)) :
    putC C cs ix=if (putR C (Be C.L cs) ix).2≠0 then undoC { C with D:=(putR C (Be C.L cs) ix).1 } (putR C (Be C.L cs) ix).2 false
      else ({ C with D:=(putR C (Be C.L cs) ix).1,size:=C.size+(segB (Be C.L cs)).length,index:=ix,L:=C.L++Be C.L cs },0):=by
  unfold putC
  rw[if_neg hd,if_neg hl]
  simp only[putR,put1,runD,Ha]
theorem Ua {C:CS} {l:List By} (h:l=[]):put1 C l=(C.D,0):=if_pos h
theorem Qx {C:CS} {l:List By} (h:l≠[]):put1 C l=runD [fun D=>Bm D (nSeg C.seg) (segB l),fun D=>syncD D (nSeg C.seg)] C.D:=if_neg h
theorem Aao {l:List By} (h:∀ c∈l,c.length≤1048576):putF l=(segB l,0):=by
  unfold putF
  rw[if_pos (List.all_eq_true.2 fun c hc=>decide_eq_true (h c hc))];rfl
theorem Tw (k:UInt8) (b:By) (h:b.length≤1048576):(sealF k b).length≤b.length+15:=by
  have h1:=C9 (n:=b.length) (by omega)
  unfold sealF bodyF sumB le4
  simp only[List.length_append,List.length_cons,List.length_nil]
  omega
theorem Tu:∀ {l:List By},(∀ c∈l,c.length≤1048576)→(segB l).length≤l.length * 1048591
  | [],_=>by simp[segB]
  | c :: l, h => by
    have h1:=Tw 1 c (h c (by simp))
    have h2:=Tu (l:=l) fun x hx=>h x (by simp[hx])
    have h3:=h c (by simp)
    unfold segB at h2 ⊢
    rw[List.flatMap_cons,List.length_append,List.length_cons]
    omega
theorem Ps (cs:List By):∀ L,(Be L cs).length≤cs.length:=by
  induction cs with
  | nil=>intro L;simp[Be]
  | cons x cs ih =>
    intro L
    unfold Be
    split
    · simp only[List.length_cons];have:=ih (L++[x]);omega
    · simp only[List.length_cons];have:=ih L;omega
theorem P7 {P:Program} {T e T' e':TypeId} {w:World} {B len c:Nat} {p:Option Addr} {xs:List UInt8} (hT:P.underlying T=some (.slice e)) (he:P.underlying e=some (.int .u8)) (hd:P.underlying T'=some .string) (h:Sl kByte e' B w p len c xs) :
    (convert T T' (.slice p len c)).run P w = .ok (.string (toStr xs)) w:=by
  rcases Nat.eq_zero_or_pos len with h0 | h0
  · have hx0 : xs = [] := List.eq_nil_of_length_eq_zero (by rw [h.len, h0])
    subst h0 hx0
    cases p with
    | none=>exact run_convert_bytes_nil w T e hT he 0 c T' hd
    | some a=>rw[run_convert_bytes_string w T T' e (some a) 0 c hT he hd];simp[Conv.bytesToString];rfl
  · have hp := h.adr Bb h0
    have hlen:=h.len
    rw[hp,← Gf]
    refine run_convert_bytes_arg w T e hT he (ab p) (ao p) len c _ (by simp[hlen]) (fun i hi=>?_) T' hd
    rw[h.byteAt i hi]
    simp[hlen,hi,List.getD_eq_getElem?_getD]
theorem L5 (xs:List UInt8):Lib.bytesOf (xs.map fun b=>(b.toNat:Int))=xs:=by
  unfold Lib.bytesOf
  rw[List.map_map]
  conv=>rhs;rw[← List.map_id xs]
  exact List.map_congr_left fun b _=>by simp
theorem uI23:Tryz.prog.underlying 23=some (.slice 5):=by kernel_rfl
theorem uI5:Tryz.prog.underlying 5=some (.int .u8):=by kernel_rfl
theorem uI9:Tryz.prog.underlying 9=some .string:=by kernel_rfl
theorem Nz {e1 e2 B1 B2 n c m c2:Nat} {p q:Option Addr} (xs ys:List UInt8) (w:World) (ha:Sl kByte e1 B1 w p n c xs) (hb:Sl kByte e2 B2 w q m c2 ys) :
    Ret Tryz.prog 140 [.slice p n c,.slice q m c2] w (fun v w'=>v = .bool (decide (xs=ys))∧Ext w w'):=by
  refine⟨Calls.mono (Tryz.bytes_Equal _ _ (xs.map fun b=>(b.toNat:Int)) (ys.map fun b=>(b.toNat:Int)) w (by rw[Gf];exact P7 uI23 uI5 uI9 ha) (by rw[Gf];exact P7 uI23 uI5 uI9 hb)) ?_⟩
  rintro e w' ⟨rfl,rfl⟩
  refine⟨_,rfl,?_,Ext.refl _⟩
  rw[L5,L5]
  by_cases h:xs=ys <;> simp[h]
structure Cop (S:Nat→Prop) (w:World) (ν:ByteArray→Option Raw) (vs:List ByteArray) (l:List Fl):Prop where
  has:∀ k∈vs,ν k≠none
  yes:∀ k y,ν k=some y→k∈vs∧∃ f,ascA l k=some f∧y.2.2.2=f.2∧FB S w y.1 y.2.1 y.2.2.1 f.1
  ap:∀ k k' y y',k≠k'→ν k=some y→ν k'=some y'→Apart y.1 y'.1
namespace Cop
variable {S : Nat → Prop} {w w' : World} {ν : ByteArray → Option Raw} {vs : List ByteArray} {l : List Fl} {t : TypeId} {r : Nat}
theorem none (S:Nat→Prop) (w:World) (l:List Fl):Cop S w (fun _=>Option.none) [] l:=⟨fun _ h=>(by cases h),fun _ _ h=>(by cases h),fun _ _ _ _ _ h=>(by cases h)⟩
end Cop
theorem Vo {l:List Fl} {k:Nat} (hk:k<l.length):usedL (l.take (k+1))=usedL (l.take k)+(l.getD k default).2.1.length:=by
  rw[List.take_add_one,List.getElem?_eq_getElem hk,Ge,List.getD_eq_getElem?_getD,List.getElem?_eq_getElem hk]
  simp[usedL]
theorem Dsk.narrow {S:Nat→Prop} {w:World} {g:Nat} {D:DS} (h:Dsk S w g D) {B:Nat} (hB:w.heap.size≤B):Dsk (fun j=>S j∧j<B) w g D:=h.mono fun k hk hs=>⟨hs,by omega⟩
def encF (x:Fl):List Value:=[.string x.1,.string (toStr (x.2.1.take x.2.2)),.string (toStr (x.2.1.drop x.2.2))]
def kFl:Kind Fl := .pure 3 encF (fun _=>rfl) (fun x v hv=>by simp[encF] at hv;rcases hv with rfl | rfl | rfl <;> rfl)
theorem Cq:0<kFl.sz:=by decide
theorem Sl.flRange {e:TypeId} {B:Nat} {w:World} {p:Option Addr} {n c:Nat} {l:List Fl} (h:Sl kFl e B w p n c l) (i:Nat) (hi:i<n):w.rangeAt (ab p) (ao p+i * 3) (encF (l.getD i default)):=by
  obtain⟨cs,hk,hr⟩:=h.get default i hi
  have:cs=encF (l.getD i default):=hk
  subst this
  exact hr
theorem Sl.flAt {e:TypeId} {B:Nat} {w:World} {p:Option Addr} {n c:Nat} {l:List Fl} (h:Sl kFl e B w p n c l) (i:Nat) (hi:i<n) (j:Nat) {v:Value} (hv:(encF (l.getD i default))[j]? = some v):w.cell? ⟨ab p,ao p+i * 3+j,none⟩=some v:=h.flRange i hi j v hv
section
variable {P : Program} {N : Nat} {f : Nat → Value} {w : World} {dst : Option Nat} {T T' ty0 : TypeId} {pos : String} {aft : Array Edge} {gd : Option (Nat × Bool)} {x y : Operand}
theorem Js {s t:ByteArray} (hx:ev N f x = .string s) (hy:ev N f y = .string t) (h:s.size+t.size≤9223372036854775807):Ex P w N f ⟨dst,.binOp .add T x y T',ty0,pos,aft,gd⟩ (.string (s++t)) :=
  Ci hx hy (H7 s t) (by
    have h1:¬ (IntKind.i64.max<((s.size+t.size:Nat):Int)):=by show ¬ ((9223372036854775807:Int)<_);omega
    simp only[binOp,Op.stringOp]
    rw[if_neg (by exact h1)]
    rfl)
theorem Kk (hT:P.underlying T=some .string) {xs:List UInt8} {k:IntKind} {b:Int} (hx:ev N f x = .string (toStr xs)) (hy:ev N f y = .int k b) (h0:0≤b) (h1:b≤(xs.length:Int)) :
    Ex P w N f ⟨dst,.slice T x none (some y) none,ty0,pos,aft,gd⟩ (.string (toStr (xs.take b.toNat))):=by
  have hs:(toStr xs).size=xs.length:=Bo xs
  have e:(toStr xs).extract 0 b.toNat=toStr (xs.take b.toNat):=by
    apply F3
    rw[ByteArray.toList_eq,ByteArray.toList_eq]
    simp[toStr,ByteArray.data_extract]
  unfold Ex execOp
  simp only[Option.map,hx,hy]
  simp[Instr.sliceAt,Instr.slice,Sem.run_bind,run_underlying hT,Instr.sliceBounds,Instr.sliceBound,asIntOf,h0,hs,h1,e]
end
structure LfOk (D:DS) (lf:Int):Prop where
  eq:0≤D.left→lf=D.left
  lo:-1≤lf
  hi:lf≤9223372036854775807
def RefV (w:World) (cs:Array Value) (D:DS):Prop:=∃ p n c lf,cs=#[.int .i64 (D.most:Int),.slice p n c,.int .i64 (D.steps:Int),.bool (decide (0≤D.left)),.int .i64 lf,.bool D.done,.bool D.down]∧Sl kFl 119 0 w p n c D.l∧LfOk D lf
theorem Aa2 {s:ByteArray} (h:∀ i,i<s.size→33≤(btAt s i).toNat∧(btAt s i).toNat≤126):Bg s=decide (1≤s.size∧s.size≤32):=by
  unfold Bg
  have:(s.data.toList.all fun c=>decide (33≤c.toNat∧c.toNat≤126))=true:=by
    rw[List.all_eq_true]
    intro c hc
    obtain⟨i,hi,e⟩:=List.mem_iff_getElem.1 hc
    have:=h i (by simpa using hi)
    rw[btAt,List.getD_eq_getElem?_getD,List.getElem?_eq_getElem hi,Option.getD_some,e] at this
    exact decide_eq_true this
  rw[this,Bool.and_true]
instance (l : List Fl) (i : Nat) (k : ByteArray) : Decidable (isAtA l i k) := by unfold isAtA; exact inferInstance
theorem Ym {D:DS} {act:List Fl} {fa al:Bool} {w:World} {p py:Option Addr} {n c ny cy:Nat} {lf:Int} (ha:Sl kFl 119 0 w p n c act) (hy:Sl kFl 119 0 w py ny cy (if (fa && (al || D.done))=true then act else D.l)) (hlf:LfOk D lf) (hok:-1≤D.left) :
    ∃ cs,(if decide (0≤D.left)=true∧lf=0 then Value.tuple #[.agg #[.int .i64 (D.most:Int),.slice py ny cy,.int .i64 (D.steps:Int),.bool false,.int .i64 lf,.bool D.done,.bool true],.int .i64 20] else .tuple #[.agg #[.int .i64 (D.most:Int),.slice p n c,.int .i64 ((D.steps:Int)+1),.bool (decide (0≤D.left)),.int .i64 (if decide (0≤D.left)=true then lf - 1 else lf),.bool D.done,.bool D.down],.int .i64 0]) = .tuple #[.agg cs,.int .i64 (stepD D act fa al).2]∧RefV w cs (stepD D act fa al).1:=by
  obtain⟨h1,h2,h3⟩:=hlf
  by_cases hl:D.left≠0
  · rw [if_neg (fun h => by have h4 := of_decide_eq_true h.1; have := h1 h4; omega), K8 hl]
    refine⟨_,rfl,p,n,c,(if decide (0≤D.left)=true then lf - 1 else lf),?_,ha,?_⟩
    · have e : decide (0 ≤ D.left) = decide (0 ≤ max (-1) (D.left - 1)) := decide_eq_decide.2 (by omega)
      show (#[Value.int .i64 (D.most:Int),.slice p n c,.int .i64 ((D.steps:Int)+1),.bool (decide (0≤D.left)),_,_,_]:Array Value)=#[.int .i64 (D.most:Int),.slice p n c,.int .i64 ((D.steps+1:Nat):Int),.bool (decide (0≤max (-1) (D.left - 1))),_,_,_]
      rw[← e];rfl
    · refine ⟨fun h => ?_, ?_, ?_⟩
      · have h : 0 ≤ max (-1) (D.left - 1) := h
        have h5:0≤D.left:=by omega
        rw[if_pos (decide_eq_true h5),h1 h5]
        show _=max (-1) (D.left - 1)
        omega
      · split
        · rename_i h;have h6:0≤D.left:=of_decide_eq_true h;have h7:=h1 h6;rw[h7];show (-1:Int)≤_;omega
        · exact h2
      · split <;> omega
  · have h0 : D.left = 0 := by omega
    rw[if_pos ⟨decide_eq_true (by omega),by rw[h1 (by omega)];exact h0⟩]
    unfold stepD
    rw[if_neg hl]
    exact⟨_,rfl,py,ny,cy,lf,rfl,hy,⟨fun h=>by have h:(0:Int)≤-1:=h;omega,h2,h3⟩⟩
theorem Kh {D:DS} (hok:DOk D) {k:ByteArray} (hat:isAtA D.l (plcA D.l k) k):∃ f,ascF D.l k=some f∧D.l.getD (plcA D.l k) default=(k,f)∧f.1.length≤usedL D.l∧f.2≤f.1.length∧getF D k=f:=by
  have h1:=Ad0 hok.rise hat
  have h2:getF D k=(D.l.getD (plcA D.l k) default).2:=by unfold getF ascF;rw[h1];rfl
  have h3:=F2 hok k
  rw[h2] at h3
  exact⟨_,h1,Prod.ext hat.2 rfl,h3.1,h3.2,h2⟩
theorem G9 {D:DS} (hok:DOk D) {k:ByteArray} (hat:¬ isAtA D.l (plcA D.l k) k):ascF D.l k=none:=Classical.byContradiction fun h=>hat ((Rs hok.rise k).2 h)
theorem Ac2 {l:List Fl} (hr:RiseNA l) {old now:ByteArray} {f:Fb} (hf:ascA l old=some f):insA (insA l old none) now (some f)=renL l old now f:=by
  have hr1:=Dj hr old (none:Option Fb)
  have hr2:=Dj hr1 now (some f)
  have key:∀ m:List Fl,RiseNA m→(∀ z,ascA (insA (insA l old none) now (some f)) z=ascA m z)→insA (insA l old none) now (some f)=m:=fun m hm h=>Kz hr2 hm fun x=>by
    constructor
    · intro hx;have:=Jp hr2 hx;rw[h] at this;exact Qd this
    · intro hx;have:=Jp hm hx;rw[← h] at this;exact Qd this
  have hz:∀ z,ascA (insA (insA l old none) now (some f)) z=if z=now then some f else if z=old then none else ascA l z:=fun z=>by
    rw[← D5 hr1];unfold mset
    split
    · rfl
    · rw[← D5 hr];rfl
  unfold renL
  by_cases e:old=now
  · rw [if_pos e]
    refine key _ hr fun z=>?_
    rw[hz]
    split
    · rename_i h;rw[h,← e];exact hf.symm
    · rename_i h;rw[if_neg (by rw[e];exact h)]
  · rw [if_neg e]
    refine key _ (Dj (Dj hr _ _) _ _) fun z=>?_
    rw[hz,← D5 (Dj hr _ _)]
    unfold mset
    by_cases h1:z=now
    · rw[if_pos h1,if_neg (fun h=>e (h.symm.trans h1)),← D5 hr];unfold mset;rw[if_pos h1]
    · rw [if_neg h1]
      by_cases h2:z=old
      · rw[if_pos h2,if_pos h2]
      · rw[if_neg h2,if_neg h2,← D5 hr];unfold mset;rw[if_neg h1]
section
variable {P : Program} {N : Nat} {f : Nat → Value} {w : World} {dst : Option Nat} {T ty0 : TypeId} {pos : String} {aft : Array Edge} {gd : Option (Nat × Bool)}
theorem Yg {x:Operand} {z0 z1 z2:Value} {s:ByteArray} (hP:Co P T=some (.agg #[z0,z1,z2],[(0,1),(1,1),(2,1)])) (hx:ev N f x = .string s):Ex P w N f ⟨dst,.build T #[(0,x)],ty0,pos,aft,gd⟩ (.agg #[.string s,z1,z2]) :=
  Eb (parts:=[(0,x)]) (ps:=[(0,.string s)]) hP (by rw[← hx];rfl) (by show Instr.fill _ #[z0,z1,z2] _=_;simp[Instr.fill,Value.cells] <;> rfl)
theorem Jr {x y z:Operand} {z0 z1 z2:Value} {s t u:ByteArray} (hP:Co P T=some (.agg #[z0,z1,z2],[(0,1),(1,1),(2,1)])) (hx:ev N f x = .string s) (hy:ev N f y = .string t) (hz:ev N f z = .string u):Ex P w N f ⟨dst,.build T #[(0,x),(1,y),(2,z)],ty0,pos,aft,gd⟩ (.agg #[.string s,.string t,.string u]) :=
  Eb (parts:=[(0,x),(1,y),(2,z)]) (ps:=[(0,.string s),(1,.string t),(2,.string u)]) hP (by rw[← hx,← hy,← hz];rfl) (by show Instr.fill _ #[z0,z1,z2] _=_;simp[Instr.fill,Value.cells] <;> rfl)
theorem Yf {x:Operand} {z0 z1 z2 z3 z4 z5 z6:Value} {i:Int} (hP:Co P T=some (.agg #[z0,z1,z2,z3,z4,z5,z6],[(0,1),(1,1),(2,1),(3,1),(4,1),(5,1),(6,1)])) (hx:ev N f x = .int .i64 i):Ex P w N f ⟨dst,.build T #[(0,x)],ty0,pos,aft,gd⟩ (.agg #[.int .i64 i,z1,z2,z3,z4,z5,z6]) :=
  Eb (parts:=[(0,x)]) (ps:=[(0,.int .i64 i)]) hP (by rw[← hx];rfl) (by show Instr.fill _ #[z0,z1,z2,z3,z4,z5,z6] _=_;simp[Instr.fill,Value.cells] <;> rfl)
end
structure FBm (B:Nat) (w:World) (p:Option Addr) (n c:Nat) (xs:List UInt8):Prop where
  len:xs.length=n
  ok:∃ g cur m,p=some ⟨g,0,none⟩∧B≤g∧w.heap[g]? = some (.cells cur 5 m)∧(cur.size≤m.1∨m=(0,0))∧n≤c∧c≤cur.size∧c≤9223372036854775807∧cur.toList.take n=xs.map cell
namespace FBm
variable {B : Nat} {w w' : World} {p : Option Addr} {n c : Nat} {xs : List UInt8}
theorem keep (h:FBm B w p n c xs) (hb:∀ g,p=some ⟨g,0,none⟩→g<w.heap.size→w'.heap[g]? = w.heap[g]?):FBm B w' p n c xs:=by
  obtain⟨g,cur,m,h1,h2,h3,h4⟩:=h.ok
  exact⟨h.len,g,cur,m,h1,h2,(hb g h1 (Array.getElem?_eq_some_iff.1 h3).1).trans h3,h4⟩
theorem ext (h:FBm B w p n c xs) (x:Ext w w'):FBm B w' p n c xs:=h.keep fun g _ hg=>x.old g hg
theorem cap (h:FBm B w p n c xs):n≤c∧c≤9223372036854775807:=by
  obtain⟨g,cur,m,_,_,_,_,h1,_,h2,_⟩:=h.ok
  exact⟨h1,h2⟩
theorem row (h:FBm B w p n c xs):Row w p (xs.map cell):=by
  obtain⟨g,cur,m,h1,h2,h3,h4,h5,h6,h7,h8⟩:=h.ok
  subst h1
  refine⟨fun _=>rfl,fun j v hv=>?_⟩
  rw[← h8,List.getElem?_take] at hv
  split at hv
  · show w.cell? ⟨g, 0 + j, none⟩ = _
    rw[Nat.zero_add]
    unfold World.cell?
    simp only[h3]
    simpa using hv
  · cases hv
theorem sl (h:FBm B w p n c xs):Sl kByte fk w.heap.size w p n c xs :=
  Out.sl (S:=fun _=>False) ⟨h.len,h.cap.1,h.cap.2,h.row,fun _=>id⟩
end FBm
section
variable {P : Program} {ops : Array Oper} {Q : Exit → Act → World → Prop} {rest : List Oper} {N : Nat} {f : Nat → Value} {w : World}
variable {t0 ty0 : TypeId} {pos : String} {aft : Array Edge} {dst : Nat} {x y : Operand} {T T' tx : TypeId} {p : Option Addr} {n c B : Nat} {xs : List UInt8}
theorem Uf {xs:List UInt8} (hs:P.underlying T=some .string) (hd:P.underlying T'=some (.slice 5)) (he:P.underlying 5=some (.int .u8)) (hx:ev N f x = .string (toStr xs)) (hlen:xs.length≤281474976710656)
    (k:∀ p' c' w',Ext w w'→FBm w.heap.size w' p' xs.length c' xs→Lst P ops Q rest (fr N (upd f dst (.slice p' xs.length c'))) w') :
    Lst P ops Q (⟨some dst,.convert T T' x,ty0,pos,aft,none⟩ :: rest) (fr N f) w:=by
  have hr:=run_bytes_of_string (P:=P) w T T' 5 (toStr xs) hs hd he
  have hz:=Bo xs
  rw[hz] at hr
  have hge:=grownCap_ge w xs.length 0 5
  have hcm:grownCap w xs.length 0 5≤maxLen:=grownCap_le_maxLen w xs.length 0 5 (by unfold maxLen;omega)
  have hsz:(bytesRow (toStr xs) (grownCap w xs.length 0 5)).size=grownCap w xs.length 0 5:=by
    unfold bytesRow
    have:(toStr xs).data.size=xs.length:=by simp[toStr]
    rw[Array.size_append,Array.size_map,Array.size_replicate,this,hz];omega
  have hX:=(Ext.drew w).trans (Ext.alloc w.drew (.cells (bytesRow (toStr xs) (grownCap w xs.length 0 5)) 5 ((bytesRow (toStr xs) (grownCap w xs.length 0 5)).size,(bytesRow (toStr xs) (grownCap w xs.length 0 5)).size+1)))
  refine l1 (w':=w.drew.alloc (.cells (bytesRow (toStr xs) (grownCap w xs.length 0 5)) 5 ((bytesRow (toStr xs) (grownCap w xs.length 0 5)).size,(bytesRow (toStr xs) (grownCap w xs.length 0 5)).size+1))) (v := .slice (some ⟨w.heap.size,0,none⟩) xs.length (grownCap w xs.length 0 5)) ?_ (k _ _ _ hX ⟨rfl,w.heap.size,_,_,rfl,Nat.le_refl _,heap_alloc_new w.drew _,.inl (Nat.le_refl _),hge,by rw[hsz];exact Nat.le_refl _,by unfold maxLen at hcm;omega,?_⟩)
  · simp only[execOp,hx,Sem.run_bind,hr,Result.andThen_ok];rfl
  · unfold bytesRow
    rw[Array.toList_append,List.take_append_of_le_length (by simp[toStr]),List.take_of_length_le (by simp[toStr])]
    simp[toStr,cell]
end
theorem Dsk.modT {S:Nat→Prop} {w w':World} {g B:Nat} {t:TypeId} {D:DS} (h:Dsk S w g D) (m:Mod B t w w') (ht:t∉[tDisk,tMap,5]):Dsk S w' g D:=by
  simp only[List.mem_cons,List.not_mem_nil,or_false,not_or] at ht
  obtain⟨r,μ,h1,h2,h3,h4,h5⟩:=h.ex
  exact⟨r,μ,h1.mod m (fun e=>ht.1 e.symm),h2.mod m (Nat.zero_le _) (by simp[vFile];exact ht.2.1),h3,h4,h5.modT m ht.2.2⟩
theorem Dsk.oneF {F:Nat→Prop} {w w':World} {g r:Nat} {t:TypeId} {D:DS} (h:Dsk F w g D) (m:One t r w w') (hr:¬ F r) (ht:t∈ED):Dsk F w' g D :=
  h.modS (S':=fun j=>j=r) (E:=ED) ((ModS.refl (fun j=>j=r) ED w).one m ⟨.inl rfl,ht⟩) fun j hj e=>hr (by rw[← e];exact hj)
def OwnR (F:Nat→Prop) (B0:Nat) (w:World) (q:Option Addr) (n:Nat):Prop:=n=0∨∃ gq cur,q=some ⟨gq,0,none⟩∧¬ F gq∧B0≤gq∧Blk w gq cur 5∧n≤cur.size∧∀ j,j<n→∃ b:UInt8,cur[j]? = some (cell b)
theorem OwnR.of {F:Nat→Prop} {B B0 n c:Nat} {w:World} {q:Option Addr} {xs:List UInt8} (h:Own kByte 5 B B0 w q n c xs) (hF:∀ gq,q=some ⟨gq,0,none⟩→¬ F gq):OwnR F B0 w q n:=by
  rcases Nat.eq_zero_or_pos n with h0 | h0
  · exact .inl h0
  · obtain ⟨gq, cur, css, e1, h2, h3, h4, h5, h6, ha, hlf, ht⟩ := h.block h0
    have hc:=Ia ha
    subst hc
    have hz:kByte.sz=1:=rfl
    rw[hz,Nat.mul_one] at h6 ht
    have hl:=h.len
    refine .inr ⟨gq,cur,e1,hF gq e1,h2,h3,by omega,fun j hj=>⟨xs.getD j 0,?_⟩⟩
    have e2:(xs.map cell)[j]? = cur[j]? := by
      rw[← Bf xs]
      have:=congrArg (fun l=>l[j]?) ht
      simp only[List.getElem?_take,if_pos hj,Array.getElem?_toList] at this
      exact this.symm
    rw[← e2,List.getElem?_map,List.getElem?_eq_getElem (by omega),List.getD_eq_getElem?_getD,List.getElem?_eq_getElem (by omega)];rfl
theorem Z1 (b:UInt8):IntKind.u8.wrap ((b.toNat:Int)+1)=((b+1).toNat:Int):=by
  have h1:(b+1).toNat=(b.toNat+1) % 256:=by simp[UInt8.toNat_add]
  rw[h1]
  unfold IntKind.wrap
  simp[IntKind.bits,IntKind.signed]
theorem Xm {S:Nat→Prop} {B B0 n c:Nat} {w:World} {q:Option Addr} {xs:List UInt8} (h:Own kByte 5 B B0 w q n c xs) (hS:∀ j,S j→j<B0):Out S w q n c xs :=
  Out.ofSl h.sl fun hne hs=>by
    have hpos:0<n:=by rw[← h.len];exact List.length_pos_iff.2 hne
    obtain⟨gq,cur,css,e1,h2,_⟩:=h.block hpos
    subst e1
    have h1:gq<B0:=hS gq hs
    omega
theorem Yp {cur:Array Value} {n o:Nat} {b:UInt8} (hn:n≤cur.size) (h:∀ j,j<n→∃ b:UInt8,cur[j]? = some (cell b)):∀ j,j<n→∃ b':UInt8,(cur.setIfInBounds o (cell b))[j]? = some (cell b'):=fun j hj=>by
  rw[Array.getElem?_setIfInBounds]
  split
  · rename_i e
    subst e
    rw[if_pos (by omega)]
    exact⟨b,rfl⟩
  · exact h j hj
abbrev tSto:TypeId:=91
abbrev tNxt:TypeId:=166
abbrev R3:=Option Addr×Nat×Nat
def r30:R3:=(none,0,0)
def r3V (x:R3):Value := .slice x.1 x.2.1 x.2.2
def vCh:VK R3:=⟨[],fun _ _ x v=>v=r3V x,fun _ h=>h,fun _ h=>h⟩
def nS (S:Nat→Prop):Nat→Prop:=fun j=>¬ S j
def EC:List TypeId:=[tSto,tNxt]++ED
structure Chs (S:Nat→Prop) (w:World) (μ:Hash→Option R3) (L:List By):Prop where
  no:∀ h,μ h=none→findF L h=none
  yes:∀ h x,μ h=some x→x.1≠none∧∃ c,findF L h=some c∧FB (nS S) w x.1 x.2.1 x.2.2 c
section
variable {S S' : Nat → Prop} {E : List TypeId} {w w' w0 : World} {p : Option Addr} {n c : Nat} {xs : By}
theorem FB.turnS (h:FB (nS S) w p n c xs) (m:ModS S E w w'):FB (nS (grow S w w')) w' p n c xs :=
  (h.mono (S':=nS (grow S w w')) fun k hk hn hg=>hn (G8 hg hk)).keep fun g hg hl=>m.old g hl (.inl fun hs=>(h.inS hg).1 hs)
end
namespace Chs
variable {S S' : Nat → Prop} {E : List TypeId} {w w' : World} {μ μ' : Hash → Option R3} {L l : List By} {t : TypeId} {r B : Nat}
theorem keep (h:Chs S w μ L) (hk:∀ (x:R3) (c:By),FB (nS S) w x.1 x.2.1 x.2.2 c→FB (nS S') w' x.1 x.2.1 x.2.2 c):Chs S' w' μ L :=
  ⟨h.no,fun k x hx=>by obtain⟨h1,c,h2,h3⟩:=h.yes k x hx;exact⟨h1,c,h2,hk x c h3⟩⟩
theorem ext (h:Chs S w μ L) (x:Ext w w'):Chs S w' μ L:=h.keep fun _ _ hf=>hf.ext x
theorem one (h:Chs S w μ L) (m:One t r w w') (ht:t≠5):Chs S w' μ L:=h.keep fun _ _ hf=>hf.one m ht
theorem mod (h:Chs S w μ L) (m:Mod B t w w') (_:0≤B) (ht:t∉[5]):Chs S w' μ L:=h.keep fun _ _ hf=>hf.modT m (by simpa using ht)
theorem turn (h:Chs S w μ L) (m:ModS S E w w'):Chs (grow S w w') w' μ L:=h.keep fun _ _ hf=>hf.turnS m
theorem mono (h:Chs S w μ L) (hS:∀ k,k<w.heap.size→S' k→S k):Chs S' w μ L:=h.keep fun _ _ hf=>hf.mono fun k hk hn hs=>hn (hS k hk hs)
theorem none_ (S:Nat→Prop) (w:World):Chs S w (fun _=>none) []:=⟨fun _ _=>rfl,fun _ _ h=>by cases h⟩
theorem get (h:Chs S w μ L) (k:Hash):(((μ k).getD r30).1=none↔findF L k=none)∧FB (nS S) w ((μ k).getD r30).1 ((μ k).getD r30).2.1 ((μ k).getD r30).2.2 ((findF L k).getD []):=by
  cases e:μ k with
  | none=>rw[h.no k e];exact⟨⟨fun _=>rfl,fun _=>rfl⟩,FB.nil _ _⟩
  | some x =>
    obtain⟨h1,c,h2,h3⟩:=h.yes k x e
    rw[h2]
    exact⟨⟨fun q=>absurd q h1,fun q=>by cases q⟩,h3⟩
theorem iff (h:Chs S w μ L) (k:Hash):μ k=none↔findF L k=none:=by
  refine⟨h.no k,fun hn=>?_⟩
  cases e:μ k with
  | none=>rfl
  | some x=>obtain⟨_,c,h1,_⟩:=h.yes k x e;rw[h1] at hn;cases hn
theorem put (h:Chs S w μ L) {c:By} (hn:findF L (shaF c)=none) (x:R3) (hx:x.1≠none) (hF:FB (nS S) w x.1 x.2.1 x.2.2 c):Chs S w (mset μ (shaF c) (some x)) (L++[c]):=by
  have hs:∀ k,findF [c] k=if shaF c=k then some c else none:=fun k=>by
    unfold findF;rw[List.find?_cons]
    by_cases e:shaF c=k
    · rw[decide_eq_true e,if_pos e]
    · rw[decide_eq_false e,if_neg e];rfl
  refine⟨fun k hk=>?_,fun k y hy=>?_⟩
  · unfold mset at hk
    split at hk
    · cases hk
    · rename_i e
      rw[Cz,h.no k hk,hs,if_neg (fun q=>e q.symm)];rfl
  · unfold mset at hy
    split at hy
    · rename_i e
      injection hy with hy;subst hy
      exact⟨hx,c,by rw[Cz,e,hn,hs,if_pos rfl];rfl,hF⟩
    · rename_i e
      obtain⟨h1,c',h2,h3⟩:=h.yes k y hy
      exact⟨h1,c',by rw[Cz,h2];rfl,h3⟩
theorem both (h:Chs S w μ L) (h':Chs S w μ' l) (hd:∀ c∈l,findF L (shaF c)=none):Chs S w (fun k=>(μ' k).or (μ k)) (L++l):=by
  refine⟨fun k hk=>?_,fun k y hy=>?_⟩
  · obtain ⟨h1, h2⟩ := Option.or_eq_none_iff.1 hk
    rw[Cz,h.no k h2,h'.no k h1];rfl
  · cases e : μ' k with
    | none =>
      simp only[e,Option.none_or] at hy
      obtain⟨h1,c,h2,h3⟩:=h.yes k y hy
      exact⟨h1,c,by rw[Cz,h2];rfl,h3⟩
    | some z =>
      simp only[e,Option.some_or] at hy
      injection hy with hy;subst hy
      obtain⟨h1,c,h2,h3⟩:=h'.yes k z e
      obtain⟨g1,g2⟩:=Ly h2
      have:=hd c g2
      rw[g1] at this
      exact⟨h1,c,by rw[Cz,this,h2];rfl,h3⟩
end Chs
def gotS (got:List Hash):Hash→Option Bool:=fun h=>if h∈got then some true else none
def Nxt (S Sd:Nat→Prop) (w:World) (r:Nat) (a:Option Addr):Option (List Hash×Nat)→Prop
  | none=>a=none
  | some (got,z)=>∃ gn rn,a=some ⟨gn,0,none⟩∧Blk w gn #[.map (some rn),.int .i64 (z:Int)] tNxt∧Mp Dd vBool 0 0 w rn (gotS got)∧S gn∧S rn∧¬ Sd rn∧rn≠r
theorem Mp.turn {κ ν:Type} {kk:κ→Value} {d:VK ν} {S:Nat→Prop} {E:List TypeId} {w w':World} {r:Nat} {μ:κ→Option ν} (h:Mp kk d 0 0 w r μ) (m:ModS S E w w') (hr:¬ S r) (hd:d.E=[]):Mp kk d 0 0 w' r μ :=
  h.keep (fun hl=>m.old r hl (.inl hr)) (fun j hj ho=>ho.elim (fun h=>by omega) fun ⟨u,hu,_⟩=>by rw[hd] at hu;simp at hu)
theorem Mp.other {κ ν:Type} {kk:κ→Value} {d:VK ν} {t:TypeId} {w w':World} {r k:Nat} {μ:κ→Option ν} (h:Mp kk d 0 0 w r μ) (m:One t k w w') (hr:r≠k) (hd:d.E=[]):Mp kk d 0 0 w' r μ :=
  h.keep (fun hl=>m.old r hl hr) (fun j hj ho=>ho.elim (fun h=>by omega) fun ⟨u,hu,_⟩=>by rw[hd] at hu;simp at hu)
section
variable {S S' Sd Sd' : Nat → Prop} {E : List TypeId} {w w' w0 : World} {a : Option Addr} {r g k : Nat} {t : TypeId} {o : Option (List Hash × Nat)}
theorem Nxt.ext (h:Nxt S Sd w r a o) (x:Ext w w'):Nxt S Sd w' r a o:=by
  cases o with
  | none=>exact h
  | some gz=>obtain⟨gn,rn,h1,h2,h3,h4⟩:=h;exact⟨gn,rn,h1,h2.ext x,h3.ext x,h4⟩
theorem Nxt.turn (h:Nxt S Sd w r a o) (m:ModS Sd ED w w'):Nxt (grow S w w') (grow Sd w w') w' r a o:=by
  cases o with
  | none=>exact h
  | some gz =>
    obtain⟨gn,rn,h1,h2,h3,h4,h5,h6,h7⟩:=h
    exact⟨gn,rn,h1,h2.modS m (.inr (by decide)),h3.turn m h6 rfl,.inl h4,.inl h5,fun hg=>h6 (G8 hg h3.lt),h7⟩
theorem Nxt.one (h:Nxt S Sd w r a o) (m:One t k w w') (ht:t≠tNxt) (hm:t=tMap→k=r):Nxt S Sd w' r a o:=by
  cases o with
  | none=>exact h
  | some gz =>
    obtain⟨gn,rn,h1,h2,h3,h4,h5,h6,h7⟩:=h
    refine⟨gn,rn,h1,h2.one m (fun e=>ht e.symm),?_,h4,h5,h6,h7⟩
    by_cases e:rn=k
    · subst e
      exfalso
      have:=h3.tyOf
      rw[m.was] at this
      injection this with this
      exact h7 (hm this)
    · exact h3.other m e rfl
theorem Nxt.mono (h:Nxt S Sd w r a o) (hS:∀ j,j<w.heap.size→S j→S' j) (hd:∀ j,j<w.heap.size→Sd' j→Sd j):Nxt S' Sd' w r a o:=by
  cases o with
  | none=>exact h
  | some gz=>obtain⟨gn,rn,h1,h2,h3,h4,h5,h6,h7⟩:=h;exact⟨gn,rn,h1,h2,h3,hS _ h2.lt h4,hS _ h3.lt h5,fun q=>h6 (hd _ h3.lt q),h7⟩
end
def stoV (gd:Nat) (C:CS) (pi:Option Addr) (ni ci r:Nat) (nx:Option Addr):Array Value :=
  #[.pointer (some ⟨gd,0,none⟩),.int .i64 (C.seg:Int),.int .i64 (C.size:Int),.slice pi ni ci,.map (some r),.pointer nx,.bool C.dead]
structure CstX (S Sd:Nat→Prop) (w:World) (g gd r:Nat) (μ:Hash→Option R3) (pi:Option Addr) (ni ci:Nat) (nx:Option Addr) (C:CS):Prop where
  sub:∀ k,Sd k→S k
  d:Dsk Sd w gd C.D
  b:Blk w g (stoV gd C pi ni ci r nx) tSto
  m:Mp Dd vCh 0 0 w r μ
  c:Chs Sd w μ C.L
  i:FB (nS Sd) w pi ni ci C.index
  sg:S g
  sr:S r
  nr:¬ Sd r
  n:Nxt S Sd w r nx C.next
def Cst (S:Nat→Prop) (w:World) (g gd:Nat) (C:CS):Prop:=∃ Sd r μ pi ni ci nx,CstX S Sd w g gd r μ pi ni ci nx C
section
variable {S S' Sd Sd' : Nat → Prop} {w w' w0 w1 : World} {g gd r k : Nat} {μ : Hash → Option R3} {pi nx : Option Addr} {ni ci : Nat} {C : CS} {D : DS} {t : TypeId}
theorem CstX.ext (h:CstX S Sd w g gd r μ pi ni ci nx C) (x:Ext w w'):CstX S Sd w' g gd r μ pi ni ci nx C :=
  ⟨h.sub,h.d.ext x,h.b.ext x,h.m.ext x,h.c.ext x,h.i.ext x,h.sg,h.sr,h.nr,h.n.ext x⟩
theorem CstX.turn (h:CstX S Sd w g gd r μ pi ni ci nx C) (m:ModS Sd ED w w') (hD:Dsk (grow Sd w w') w' gd D):CstX (grow S w w') (grow Sd w w') w' g gd r μ pi ni ci nx { C with D:=D } :=
  ⟨fun k hk=>hk.imp (h.sub k) id,hD,h.b.modS m (.inr (by decide)),h.m.turn m h.nr rfl,h.c.turn m,h.i.turnS m,.inl h.sg,.inl h.sr,fun hg=>h.nr (G8 hg h.m.lt),h.n.turn m⟩
theorem CstX.mono (h:CstX S Sd w g gd r μ pi ni ci nx C) (hS:∀ j,j<w.heap.size→S j→S' j):CstX S' (fun j=>Sd j∧j<w.heap.size) w g gd r μ pi ni ci nx C :=
  ⟨fun k hk=>hS k hk.2 (h.sub k hk.1),h.d.mono fun k hk hs=>⟨hs,hk⟩,h.b,h.m,h.c.mono fun k _ hs=>hs.1,h.i.mono fun k _ hn hs=>hn hs.1,hS _ h.b.lt h.sg,hS _ h.m.lt h.sr,fun hs=>h.nr hs.1,h.n.mono hS fun j _ hs=>hs.1⟩
theorem Cst.ext (h:Cst S w g gd C) (x:Ext w w'):Cst S w' g gd C:=by
  obtain⟨Sd,r,μ,pi,ni,ci,nx,h⟩:=h;exact⟨Sd,r,μ,pi,ni,ci,nx,h.ext x⟩
theorem Cst.mono (h:Cst S w g gd C) (hS:∀ j,j<w.heap.size→S j→S' j):Cst S' w g gd C:=by
  obtain⟨Sd,r,μ,pi,ni,ci,nx,h⟩:=h;exact⟨_,r,μ,pi,ni,ci,nx,h.mono hS⟩
theorem Cst.grown (h:Cst S w g gd C) (w0:World):Cst (grow S w0 w) w g gd C:=h.mono fun _ _ h => .inl h
theorem CstX.fin (h:CstX S Sd w g gd r μ pi ni ci nx C):Cst S w g gd C:=⟨_,_,_,_,_,_,_,h⟩
theorem ModS.wideE (m:ModS Sd ED w w') (hS:∀ k,Sd k→S k):ModS S EC w w' :=
  ⟨m.size,fun k hk ho=>m.old k hk (ho.imp (fun hn hs=>hn (hS k hs)) fun ht t htE=>ht t (List.mem_append_right _ htE)),m.tys,m.drawn,m.os,m.tape,m.output⟩
end
abbrev Clo:=Nat×List Value
def fcv (x:Clo):Value := .func (.func x.1) #[] x.2.toArray
def kFn:Kind Clo := .pure 1 (fun x=>[fcv x]) (fun _=>rfl) (fun _ v hv=>by simp at hv;subst hv;rfl)
theorem Adj:0<kFn.sz:=Nat.zero_lt_one
theorem Sl.fnAt {e:TypeId} {B:Nat} {w:World} {p:Option Addr} {n c:Nat} {xs:List Clo} (h:Sl kFn e B w p n c xs) (i:Nat) (h1:i<n):w.cell? ⟨ab p,ao p+i,none⟩=some (fcv (xs.getD i default)):=by
  obtain⟨cs,hk,hr⟩:=h.get default i h1
  have:cs=[fcv (xs.getD i default)]:=hk
  subst this
  have:=hr 0 _ rfl
  have e1:kFn.sz=1:=rfl
  rw[e1] at this
  simpa using this
section
variable [DecidableEq Hash] {P : Program} {w : World} {T K e : TypeId} {r : Nat} {μ : Hash → Option R3}
theorem lookC (hT:P.underlying T=some (.map K e)) (hz:(P.info? e).map (·.zero)=some (some (.slice none 0 0))) (hK:KeyOk P K Dd) (hM:Mp Dd vCh 0 0 w r μ) (a:Hash) {n:Nat} {f:Nat→Value} {x y:Operand} {ty0:TypeId} {pos:String} {aft:Array Edge} {dst':Option Nat} {gd:Option (Nat×Bool)} (hx:ev n f x = .map (some r)) (hy:ev n f y=Dd a) :
    Ex P w n f ⟨dst',.lookup T x y false,ty0,pos,aft,gd⟩ (r3V ((μ a).getD r30)):=by
  obtain⟨v,h1,h2⟩:=look hT hz hK hM a
  have hv:v=r3V ((μ a).getD r30):=by
    cases e:μ a with
    | none=>rw[e] at h1;exact h1
    | some b=>rw[e] at h1;exact h1
  subst hv
  exact(h2 hx hy).1
theorem Tn {x y:Operand} {z0 z1 z2 u v:Value} {n:Nat} {f:Nat→Value} {ty0:TypeId} {pos:String} {aft:Array Edge} {dst:Option Nat} {gd:Option (Nat×Bool)}
    (hP:Co P T=some (.agg #[z0,z1,z2],[(0,1),(1,1),(2,1)])) (hx:ev n f x=u) (hy:ev n f y=v) (hu:u.cells=#[u]) (hv:v.cells=#[v]):Ex P w n f ⟨dst,.build T #[(0,x),(1,y)],ty0,pos,aft,gd⟩ (.agg #[u,v,z2]) :=
  Eb (parts:=[(0,x),(1,y)]) (ps:=[(0,u),(1,v)]) hP (by rw[← hx,← hy];rfl) (by show Instr.fill _ #[z0,z1,z2] _=_;simp[Instr.fill,hu,hv] <;> rfl)
theorem Zv {x y:Operand} {z0 z1 z2 z3 z4 z5 z6:Value} {k g:Nat} {n:Nat} {f:Nat→Value} {ty0:TypeId} {pos:String} {aft:Array Edge} {dst:Option Nat} {gd:Option (Nat×Bool)}
    (hP:Co P T=some (.agg #[z0,z1,z2,z3,z4,z5,z6],[(0,1),(1,1),(2,1),(3,1),(4,1),(5,1),(6,1)])) (hx:ev n f x = .pointer (some ⟨g,0,none⟩)) (hy:ev n f y = .map (some k)) {u:Operand} (hu:ev n f u = .int .i64 1) :
    Ex P w n f ⟨dst,.build T #[(0,x),(1,u),(4,y)],ty0,pos,aft,gd⟩ (.agg #[.pointer (some ⟨g,0,none⟩),.int .i64 1,z2,z3,.map (some k),z5,z6]) :=
  Eb (parts:=[(0,x),(1,u),(4,y)]) (ps:=[(0,.pointer (some ⟨g,0,none⟩)),(1,.int .i64 1),(4,.map (some k))]) hP (by rw[← hx,← hy,← hu];rfl) (by show Instr.fill _ #[z0,z1,z2,z3,z4,z5,z6] _=_;simp[Instr.fill,Value.cells] <;> rfl)
end
theorem FB.mod {S:Nat→Prop} {w w':World} {p:Option Addr} {n c B:Nat} {xs:By} {t:TypeId} (h:FB S w p n c xs) (m:Mod B t w w') (_:0≤B) (ht:t∉[5]):FB S w' p n c xs:=h.modT m (by simpa using ht)
theorem Chs.dup {S:Nat→Prop} {w:World} {μ:Hash→Option R3} {L:List By} (h:Chs S w μ L) {c:By} (hn:findF L (shaF c)≠none):Chs S w μ (L++[c]):=by
  have hs:∀ k,findF (L++[c]) k=findF L k:=fun k=>by
    rw[Cz]
    cases e:findF L k with
    | some x=>rfl
    | none =>
      have:findF [c] k=none:=Lz.2 fun x hx q=>by
        simp only[List.mem_singleton] at hx
        subst hx
        rw[q,e] at hn;exact hn rfl
      rw[this];rfl
  exact⟨fun k hk=>by rw[hs];exact h.no k hk,fun k x hx=>by obtain⟨a,c',b,d⟩:=h.yes k x hx;exact⟨a,c',by rw[hs];exact b,d⟩⟩
theorem One.mods {t:TypeId} {r:Nat} {w w':World} (m:One t r w w'):ModS (fun j=>j=r) [t] w w':=(ModS.refl _ _ w).one m ⟨.inl rfl,by simp⟩
theorem into1 {S:Nat→Prop} {w a b w':World} (ha:w.heap.size≤a.heap.size):∀ j,j<w'.heap.size→grow S a b j→grow S w w' j:=fun j hj h=>h.imp id fun ⟨h1,_⟩=>⟨by omega,hj⟩
theorem into2 {S:Nat→Prop} {w a b c d w':World} (ha:w.heap.size≤a.heap.size) (hc:w.heap.size≤c.heap.size):∀ j,j<w'.heap.size→grow (grow S a b) c d j→grow S w w' j:=fun j hj h=>by
  rcases h with (h | ⟨h1,_⟩) | ⟨h1,_⟩
  · exact .inl h
  · exact .inr ⟨by omega,hj⟩
  · exact .inr ⟨by omega,hj⟩
section
variable {S Sd : Nat → Prop} {w wk w' : World} {g gd r : Nat} {μ : Hash → Option R3} {pi nx : Option Addr} {ni ci : Nat} {C : CS} {D : DS}
def opn (S:Nat→Prop) (w:World):Nat→Prop:=fun j=>S j∨w.heap.size≤j
theorem CstX.start (h:CstX S Sd w g gd r μ pi ni ci nx C):CstX (opn S w) Sd w g gd r μ pi ni ci nx C :=
  ⟨fun k hk => .inl (h.sub k hk),h.d,h.b,h.m,h.c,h.i,.inl h.sg,.inl h.sr,h.nr,h.n.mono (fun _ _ => .inl) fun _ _ h=>h⟩
theorem CstX.stepD (h:CstX (opn S w) Sd wk g gd r μ pi ni ci nx C) (hw:w.heap.size≤wk.heap.size) (m:ModS Sd ED wk w') (hD:Dsk (grow Sd wk w') w' gd D):CstX (opn S w) (grow Sd wk w') w' g gd r μ pi ni ci nx { C with D:=D } :=
  have h2:=h.turn m hD
  have ho:∀ k,grow (opn S w) wk w' k→opn S w k:=fun k hk=>hk.elim id fun ⟨a,_⟩ => .inr (Nat.le_trans hw a)
  ⟨fun k hk=>ho k (h2.sub k hk),h2.d,h2.b,h2.m,h2.c,h2.i,ho _ h2.sg,ho _ h2.sr,h2.nr,h2.n.mono (fun k _ hk=>ho k hk) fun _ _ h=>h⟩
theorem CstX.done (h:CstX (opn S w) Sd wk g gd r μ pi ni ci nx C):Cst (grow S w wk) wk g gd C:=h.fin.mono fun j hj hs=>hs.imp id fun a=>⟨a,hj⟩
theorem ModS.stepE (h:ModS S EC w wk) (m:ModS Sd ED wk w') (hS:∀ j,j<w.heap.size→Sd j→S j):ModS S EC w w':=h.trans (m.wideE fun k h=>h) hS
theorem Eu (h:CstX (opn S w) Sd wk g gd r μ pi ni ci nx C):∀ j,j<w.heap.size→Sd j→S j:=fun j hj hs=>(h.sub j hs).resolve_right (by omega)
theorem CstX.laid {C':CS} {nx':Option Addr} {pi':Option Addr} {ni' ci':Nat} (h:CstX S Sd w g gd r μ pi ni ci nx C) (p:Put w w' g (stoV gd C' pi' ni' ci' r nx') tSto) (hD:C'.D=C.D) (hL:C'.L=C.L) (hI:FB (nS Sd) w' pi' ni' ci' C'.index) (hN:C'.next=C.next∧nx'=nx∨C'.next=none∧nx'=none):CstX S Sd w' g gd r μ pi' ni' ci' nx' C' :=
  ⟨h.sub,hD ▸ h.d.modT (p.mod 0 (Nat.zero_le _)) (by decide),p.blk,h.m.mod (p.mod 0 (Nat.zero_le _)) (Nat.zero_le _) (by decide),hL ▸ h.c.one p.one (by decide),hI,h.sg,h.sr,h.nr,by
    rcases hN with ⟨e1,e2⟩ | ⟨e1,e2⟩
    · rw[e1,e2];exact h.n.one p.one (by decide) (fun e=>absurd e (by decide))
    · rw[e1,e2];rfl⟩
end
theorem Chs.mapT {S:Nat→Prop} {w w':World} {μ:Hash→Option R3} {L:List By} {r:Nat} (h:Chs S w μ L) (m:ModS (fun j=>j=r) [tMap] w w'):Chs S w' μ L :=
  h.keep fun x c hf=>hf.keep fun g hg hl=>m.old g hl (.inr fun t ht=>by
    simp only[List.mem_singleton] at ht
    subst ht
    rw[hf.tyOf hg];decide)
theorem FB.mapT {S:Nat→Prop} {w w':World} {p:Option Addr} {n c r:Nat} {xs:By} (hf:FB S w p n c xs) (m:ModS (fun j=>j=r) [tMap] w w'):FB S w' p n c xs :=
  hf.keep fun g hg hl=>m.old g hl (.inr fun t ht=>by
    simp only[List.mem_singleton] at ht
    subst ht
    rw[hf.tyOf hg];decide)
theorem CstX.copied {S Sd:Nat→Prop} {w w':World} {g gd r:Nat} {μ μ':Hash→Option R3} {pi nx:Option Addr} {ni ci:Nat} {C:CS} {L':List By} (h:CstX S Sd w g gd r μ pi ni ci nx C) (m:ModS (fun j=>j=r) [tMap] w w') (hM:Mp Dd vCh 0 0 w' r μ') (hC:Chs Sd w' μ' L'):CstX S Sd w' g gd r μ' pi ni ci nx { C with L:=L' } :=
  ⟨h.sub,h.d.modS m fun j hj e=>h.nr (by rw[← show j=r from e];exact hj),h.b.modS m (.inr (by decide)),hM,hC,h.i.mapT m,h.sg,h.sr,h.nr,by
    have hn:=h.n
    show Nxt S Sd w' r nx C.next
    cases e:C.next with
    | none=>rw[e] at hn;exact hn
    | some gz =>
      rw[e] at hn
      obtain⟨gn,rn,h1,h2,h3,h4,h5,h6,h7⟩:=hn
      exact⟨gn,rn,h1,h2.modS m (.inr (by decide)),h3.turn m h7 rfl,h4,h5,h6,h7⟩⟩
theorem Chs.narrowD {S:Nat→Prop} {w:World} {μ:Hash→Option R3} {L:List By} (h:Chs S w μ L):Chs (fun j=>S j∧j<w.heap.size) w μ L:=h.mono fun _ _ hs=>hs.1
theorem CstX.newRow {S Sd:Nat→Prop} {B:Nat} {w w':World} {g gd r:Nat} {μ:Hash→Option R3} {pi nx:Option Addr} {ni ci:Nat} {C:CS} {p:Option Addr} {n c:Nat} {xs:By} (_:CstX S (fun j=>Sd j∧j<B) w g gd r μ pi ni ci nx C) (hO:Own kByte 5 0 B w' p n c xs):FB (nS (fun j=>Sd j∧j<B)) w' p n c xs :=
  FB.ofOwn hO fun k _ hk hs=>by have:=hs.2;omega
theorem ModS.wideT {S:Nat→Prop} {E E':List TypeId} {w w':World} (m:ModS S E w w') (hE:∀ t∈E,t∈E'):ModS S E' w w' :=
  ⟨m.size,fun k hk ho=>m.old k hk (ho.imp id fun h t ht=>h t (hE t ht)),m.tys,m.drawn,m.os,m.tape,m.output⟩
section
variable {S Sd : Nat → Prop} {w w' : World} {g gd r : Nat} {μ : Hash → Option R3} {pi nx pi' : Option Addr} {ni ci ni' ci' : Nat} {C : CS}
theorem CstX.setIndex {ix:By} (h:CstX S Sd w g gd r μ pi ni ci nx C) (p:Put w w' g (stoV gd C pi' ni' ci' r nx) tSto) (hI:FB (nS Sd) w' pi' ni' ci' ix):CstX S Sd w' g gd r μ pi' ni' ci' nx { C with index:=ix } :=
  h.laid (C':={ C with index:=ix }) p rfl rfl hI (.inl ⟨rfl,rfl⟩)
theorem CstX.setSize {z:Nat} (h:CstX S Sd w g gd r μ pi ni ci nx C) (p:Put w w' g (stoV gd { C with size:=z } pi ni ci r nx) tSto):CstX S Sd w' g gd r μ pi ni ci nx { C with size:=z } :=
  h.laid (C':={ C with size:=z }) p rfl rfl (h.i.one p.one (by decide)) (.inl ⟨rfl,rfl⟩)
end
structure Gt (w:World):Prop where
  l:Gl w
  r:Rt w
  b:Bt w
theorem gn0 : Tryz.prog.globalNamed "internal/strconv.uint64pow10" = some 5 := by kernel_rfl
theorem gn1 : Tryz.prog.globalNamed "strconv.ErrSyntax" = some 2 := by kernel_rfl
theorem Xf {P:Program} {w w':World} {nm:String} {g:Nat} {cs:Array Value} (hn:P.globalNamed nm=some g) (h:w.var? P nm=some cs) (ho:w'.heap[g]? = w.heap[g]?):w'.var? P nm=some cs:=by
  unfold World.var? at h ⊢
  rw[hn] at h ⊢
  simp only[Option.bind_some] at h ⊢
  rw[ho];exact h
theorem Gt.turn {w w':World} (h:Gt w) (ho:∀ k,k<6→w'.heap[k]? = w.heap[k]?):Gt w' :=
  ⟨⟨fun i hi=>(World.cell?_of_block (ho 4 (by decide))).trans (h.l.q i hi),Xf gn0 h.l.t (ho _ (by decide)),by obtain⟨tp,p,he⟩:=h.l.e;exact⟨tp,p,Xf gn1 he (ho _ (by decide))⟩⟩,
    fun i hi=>(World.cell?_of_block (ho 1 (by decide))).trans (h.r i hi),fun i hi=>(World.cell?_of_block (ho 0 (by decide))).trans (h.b i hi)⟩
theorem Gt.size {w:World} (h:Gt w):6≤w.heap.size:=by
  have ht:=h.l.t
  have ht : w.var? Tryz.prog "internal/strconv.uint64pow10" = some _ := ht
  unfold World.var? at ht
  rw[gn0] at ht
  simp only[Option.bind_some] at ht
  rcases Nat.lt_or_ge 5 w.heap.size with h1 | h1
  · exact h1
  · rw[Array.getElem?_eq_none h1] at ht;cases ht
theorem Gt.ext {w w':World} (h:Gt w) (x:Ext w w'):Gt w':=h.turn fun k hk=>x.old k (Nat.lt_of_lt_of_le hk h.size)
theorem Gt.modS {S:Nat→Prop} {E:List TypeId} {w w':World} (h:Gt w) (m:ModS S E w w') (hS:∀ k,S k→6≤k):Gt w':=h.turn fun k hk=>m.old k (Nat.lt_of_lt_of_le hk h.size) (.inl fun hs=>by have:=hS k hs;omega)
theorem Gt.put {w w':World} {g:Nat} {cs:Array Value} {t:TypeId} (h:Gt w) (p:Put w w' g cs t) (hg:6≤g):Gt w':=h.turn fun k hk=>p.old k (by omega)
theorem Xs {n:Nat} (h1:1≤n) (h2:n≤999999):nSeg n=toStr (nameL n):=by unfold nSeg nameF;rw[if_neg (by omega)];rfl
theorem Rr {xs:List UInt8} {r:Int} (h:IsNum xs r):r=0↔¬ SegN (toStr xs):=by
  obtain⟨h1,h2⟩:=h
  constructor
  · rintro h0 ⟨k, a, b, e⟩
    rw[Xs a b] at e
    have:=h1 k a b (Fm e)
    omega
  · intro hn
    rcases h2 with h2 | ⟨a,b,c⟩
    · exact h2
    · exact absurd ⟨r.toNat,by omega,by omega,by rw[Xs (by omega) (by omega),c]⟩ hn
theorem K7 (s:ByteArray):toStr s.data.toList=s:=by unfold toStr;simp
theorem Fw {n keep:ByteArray}:keepN n keep=true↔n≠nNew∧(¬ SegN n∨n=keep):=by unfold keepN;simp only[decide_eq_true_eq]
theorem Dsk.more {S:Nat→Prop} {w w1 w2:World} {g:Nat} {D:DS} (h:Dsk (grow S w w1) w2 g D):Dsk (grow S w w2) w2 g D:=h.mono fun k hk hg=>hg.imp id fun ⟨a,_⟩=>⟨a,hk⟩
theorem Jg {S:Nat→Prop} {w w1:World} (hS:∀ k,S k→6≤k) (hw:6≤w.heap.size):∀ k,grow S w w1 k→6≤k:=fun k hk=>hk.elim (hS k) fun h=>Nat.le_trans hw h.1
theorem Gt.one {w w':World} {t:TypeId} {r:Nat} (h:Gt w) (m:One t r w w') (hr:6≤r):Gt w':=h.turn fun k hk=>m.old k (Nat.lt_of_lt_of_le hk h.size) (by omega)
theorem C0 (k:Nat):(nSeg k).size≤9223372036854775807:=by
  have:(nameF (k:Int)).length≤10:=by
    unfold nameF
    split
    · simp
    · have := L2 6 ((k : Int).toNat)
      show (begF++dig 6 _).length≤10
      rw[List.length_append,this];decide
  unfold nSeg
  rw[Bo];omega
theorem Hx {l:List By} {k:Nat} (h:k<l.length):l.take (k+1)=l.take k++[l.getD k []]:=by
  rw[List.take_succ_eq_append_getElem h,List.getD_eq_getElem?_getD,List.getElem?_eq_getElem h];rfl
theorem Rg.other {κ ν:Type} [DecidableEq κ] {kk:κ→Value} {d:VK ν} {B0 r it k:Nat} {w w':World} {μ:κ→Option ν} {vs:List κ} (h:Rg kk d 0 B0 w r it μ vs) (m:One tMap k w w') (hr:r≠k) (hd:d.E=[]):Rg kk d 0 B0 w' r it μ vs:=by
  obtain⟨es,clock,l,since,seen,c0,hm,hT,h1,h2⟩:=h.ex
  have hi:ty w it=some tIter:=by unfold Eng.ty;rw[h1]
  refine h.keep (fun hl=>m.old r hl hr) (fun hl=>m.old it hl fun e=>?_) (fun j hj ho=>ho.elim (fun h=>by omega) fun ⟨u,hu,_⟩=>by rw[hd] at hu;simp at hu)
  rw[e,m.was] at hi
  injection hi with hi
  exact absurd hi (by decide)
theorem Out.sl5 {S:Nat→Prop} {w:World} {p:Option Addr} {n c:Nat} {xs:By} (h:Out S w p n c xs):Sl kByte 5 w.heap.size w p n c xs:=h.sl.re (Nat.le_refl _) 5
theorem CN.of {C:CS} {k:Nat} (h:CN C k) (c:By) (hc:c∈C.L):c.length≤1048576:=h.cl c hc
end Go.Proofs.Eng
end
section
set_option maxRecDepth 100000
namespace Go.Proofs.Eng
open Go.RowKit Go.Proofs.YtlmfpocifkpggaaGreatDoor
theorem gQ : Tryz.prog.globalNamed "stemma/frame.quarter" = some 4 := by kernel_rfl
theorem gQT:(Tryz.prog.globals[4]?).map (·.type)=some 274:=by kernel_rfl
theorem gP : Tryz.prog.globalNamed "internal/strconv.uint64pow10" = some 5 := by kernel_rfl
theorem gPT:(Tryz.prog.globals[5]?).map (·.type)=some 287:=by kernel_rfl
theorem gES : Tryz.prog.globalNamed "strconv.ErrSyntax" = some 2 := by kernel_rfl
theorem gEST:(Tryz.prog.globals[2]?).map (·.type)=some 139:=by kernel_rfl
theorem c174:Tryz.prog.cellsOf 174=1:=by kernel_rfl
theorem c274:Tryz.prog.cellsOf 274=16:=by kernel_rfl
theorem c180:Tryz.prog.cellsOf 180=1:=by kernel_rfl
theorem c287:Tryz.prog.cellsOf 287=20:=by kernel_rfl
theorem c283:Tryz.prog.cellsOf 283=1:=by kernel_rfl
theorem c9:Tryz.prog.cellsOf 9=1:=by kernel_rfl
theorem star : "*" ++ "errors.errorString" = "*errors.errorString" := by decide
theorem Aeg (u : TypeId) (h : Tryz.prog.typeName? 3 u = some "*errors.errorString") : u = 281 :=
  typeName_ptr_named (nm := "errors.errorString") (by rw [star]; kernel_rfl) (by kernel_rfl) (by decide) u (by rw [star]; exact h)
theorem Abi {W : World} {r1 r2 r3 : List (String × DataW Unit)} {text : List UInt8} (h1 : laidMet Tryz.prog (("internal/strconv.uint64pow10", Lib.tabData .u64 Lib.pow10Tab) :: r1) W)
    (h2 : laidMet Tryz.prog (("stemma/frame.quarter", Lib.tabData .u32 (quart.map fun n : Nat => (n : Int))) :: r2) W) (h3 : laidMet Tryz.prog (("strconv.ErrSyntax", .iface "*errors.errorString" (.ptr (.agg [.lit (.string text)]))) :: r3) W) : Gl W := by
  have t1:=Lib.tabIs_of_head gP gPT Tryz.underlying287 Tryz.underlying180 c180 c287 h1
  have t2:=Lib.tabIs_of_head gQ gQT Tryz.underlying274 Tryz.underlying174 c174 c274 h2
  obtain⟨a,s,hv,_,_,_⟩:=laid_sentinel h3 gES gEST Tryz.underlying139 Aeg Tryz.underlying281 Tryz.underlying283 rfl rfl Tryz.underlying9 c283 c9
  refine⟨fun i hi=>?_,t1,_,_,hv⟩
  have:=t2.cell gQ i (by simpa [quart] using hi)
  rw[this]
  have h16:i<quart.length:=hi
  simp[List.getD_eq_getElem?_getD,List.getElem?_eq_getElem h16]
theorem gR : Tryz.prog.globalNamed "stemma/sha.rounds" = some 1 := by kernel_rfl
theorem gRT:(Tryz.prog.globals[1]?).map (·.type)=some 213:=by kernel_rfl
theorem gB : Tryz.prog.globalNamed "stemma/sha.begin" = some 0 := by kernel_rfl
theorem gBT:(Tryz.prog.globals[0]?).map (·.type)=some 175:=by kernel_rfl
theorem c213:Tryz.prog.cellsOf 213=64:=by kernel_rfl
theorem c175:Tryz.prog.cellsOf 175=8:=by kernel_rfl
theorem Ae6 {W : World} {r : List (String × DataW Unit)} (h : laidMet Tryz.prog (("stemma/sha.rounds", Lib.tabData .u32 kTab) :: r) W) : Rt W := fun i hi => by
  have t:=Lib.tabIs_of_head gR gRT Tryz.underlying213 Tryz.underlying174 c174 c213 h
  have:=t.cell gR i (by rw[Uq];exact hi)
  rw[this]
theorem Afh {W : World} {r : List (String × DataW Unit)} (h : laidMet Tryz.prog (("stemma/sha.begin", Lib.tabData .u32 s0W.l) :: r) W) : Bt W := fun i hi => by
  have t:=Lib.tabIs_of_head gB gBT Tryz.underlying175 Tryz.underlying174 c174 c175 h
  have:=t.cell gB i (by rw[W8.len];exact hi)
  rw[this]
theorem Pn {W:World} (h:laidMetH Tryz.prog Rows.chunksOpensRow.laid W):Gt W :=
  ⟨Abi (W:=W) (laidMet.tail (laidMet.tail h)) (laidMet.tail (laidMet.tail (laidMet.tail h))) (laidMet.tail (laidMet.tail (laidMet.tail (laidMet.tail (laidMet.tail (laidMet.tail (laidMet.tail h))))))),
    Ae6 (W:=W) (laidMet.tail (laidMet.tail (laidMet.tail (laidMet.tail h)))),Afh (W:=W) (laidMet.tail (laidMet.tail (laidMet.tail (laidMet.tail (laidMet.tail h)))))⟩
end Go.Proofs.Eng
end
