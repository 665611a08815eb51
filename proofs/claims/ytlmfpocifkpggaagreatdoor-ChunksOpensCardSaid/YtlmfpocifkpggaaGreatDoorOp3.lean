import Derived.Test.YtlmfpocifkpggaaGreatDoorOp2
import Derived.Shelf.SlSortCmp.InsertionK
import Derived.Test.YtlmfpocifkpggaaGreatDoorProg
import Derived.WalkKit
import Derived.WalkSpells
import Derived.WalkLawsBesides
import Derived.StillTailTactics
import Derived.Deep.MidRow
import Derived.Stop.BytesEq
import Derived.OrdersHeld
import Derived.KernelRfl
import Derived.Deep.AppendSrc
import Derived.Deep.DeepAppendWide
import Derived.Test.YtlmfpocifkpggaaGreatDoorSort
import Derived.Shelf.SlSortCmp.NoneTotal
set_option linter.unusedVariables false
set_option linter.unusedSimpArgs false
set_option linter.unusedSectionVars false
section
namespace Go.Proofs.Eng
open Go.RowKit
open Extern.Stop (cell)
set_option maxRecDepth 100000
set_option maxHeartbeats 4000000
structure Vu (D:DS) (M i:Nat) (V:ByteArray→Option Fb) (u n:Nat):Prop where
  up:UpD D M i
  v:∀ k,ascF D.l k=V k
  used:usedL D.l=u
  len:D.l.length=n
theorem Abu {o:Option Fb} {f:Fb} (h:o=some f):(o.map fun f=>f.1.length).getD 0=f.1.length:=by rw[h];rfl
section
variable {D : DS} {M i u n : Nat} {V : ByteArray → Option Fb} {k : ByteArray}
theorem Z2 (h:Vu D M i V u n) (act:List Fl) (o:Option Fb) (ha:act=insA D.l k o) (hg:Good { D with l:=act,left:=-1,steps:=D.steps+1 } (i+1)) {u' n':Nat} (hu:u'+((V k).map fun f=>f.1.length).getD 0=u+(o.map fun f=>f.1.length).getD 0) (hn:n'+(if V k=none then 0 else 1)=n+(if o=none then 0 else 1)) :
    Vu { D with l:=act,left:=-1,steps:=D.steps+1 } M (i+1) (mset V k o) u' n':=by
  have hr:=h.up.good.ok.rise
  refine⟨Ad2 h.up hg,fun z=>?_,?_,?_⟩
  · show ascA act z = _
    rw[ha,← D5 hr]
    unfold mset
    split
    · rfl
    · exact h.v z
  · show usedL act = u'
    have:=Ek hr k o
    have hv:ascA D.l k=V k:=h.v k
    rw[hv] at this
    rw[ha];have:=h.used;omega
  · show act.length = n'
    have:=Hh hr k o
    have hv:ascA D.l k=V k:=h.v k
    rw[hv] at this
    rw[ha];have:=h.len;omega
theorem Qo (h:Vu D M i V u n) (hn:Bg k=true) (hk:V k=none) (hl:n<64):(A9 D k).2=0∧Vu (A9 D k).1 M (i+1) (mset V k (some ([],0))) u (n+1):=by
  have hg:=Nj h.up.good k
  unfold A9 at hg ⊢
  rw[J8 (by simp[hn]) h.up.down,if_neg (by simp),if_neg (by rw[h.v,hk];simp),if_neg (by rw[h.len];omega),Xh h.up] at hg ⊢
  exact⟨rfl,Z2 h _ _ rfl hg (by rw[hk];rfl) (by rw[if_pos hk];rfl)⟩
theorem Qp (h:Vu D M i V u n) (hn:Bg k=true) {f:Fb} (hk:V k=some f) {p:By} (hr:u+p.length≤M):(Bm D k p).2=0∧Vu (Bm D k p).1 M (i+1) (mset V k (some (f.1++p,f.2))) (u+p.length) n:=by
  have hg:=Nk h.up.good k p
  have hgf:getF D k=f:=by unfold getF;rw[h.v,hk];rfl
  unfold Bm at hg ⊢
  rw[J8 (by simp[hn]) h.up.down,if_neg (by simp),if_neg (by rw[h.v,hk];simp),hgf,h.up.most,h.used,if_neg (by omega),Xh h.up] at hg ⊢
  exact⟨rfl,Z2 h _ _ rfl hg (by rw[Abu hk];simp;omega) (by rw[if_neg (by rw[hk];simp),if_neg (by simp)])⟩
theorem Xd (h:Vu D M i V u n) (hn:Bg k=true) {f:Fb} (hk:V k=some f):(syncD D k).2=0∧Vu (syncD D k).1 M (i+1) (mset V k (some (f.1,f.1.length))) u n:=by
  have hg:=Rw h.up.good k
  have hgf:getF D k=f:=by unfold getF;rw[h.v,hk];rfl
  unfold syncD at hg ⊢
  rw[J8 (by simp[hn]) h.up.down,if_neg (by simp),if_neg (by rw[h.v,hk];simp),hgf,Xh h.up] at hg ⊢
  exact⟨rfl,Z2 h _ _ rfl hg (by rw[Abu hk];rfl) (by rw[if_neg (by rw[hk];simp),if_neg (by simp)])⟩
theorem Xe (h:Vu D M i V u n) (hn:Bg k=true) {f:Fb} (hk:V k=some f):readD D k=(f.1,0):=Acr h.up hn (by rw[h.v,hk])
theorem Acp (h:Vu D M i V u n) (hn:Bg k=true) (hk:V k=none):readD D k=([],22):=by
  unfold readD
  rw[J8 (by simp[hn]) h.up.down,if_neg (by simp),if_pos (by rw[h.v,hk])]
theorem Aed (h:Vu D M i V u n) {old now:ByteArray} (hn:Bg old=true) (hn2:Bg now=true) (hne:old≠now) {f:Fb} (hk:V old=some f) :
    (Bv D old now).2=0∧∃ u' n',Vu (Bv D old now).1 M (i+1) (mset (mset V now (some f)) old none) u' n'∧u'+((V now).map fun f=>f.1.length).getD 0=u∧n'+(if V now=none then 0 else 1)=n:=by
  have hg:=Ni h.up.good old now
  have hgf:getF D old=f:=by unfold getF;rw[h.v,hk];rfl
  have hr:=h.up.good.ok.rise
  have ho:ascF D.l old≠none:=by rw[h.v,hk];simp
  unfold Bv at hg ⊢
  rw[J8 (by simp[hn,hn2]) h.up.down,if_neg (by simp),if_neg ho,hgf,Xh h.up] at hg ⊢
  have hl:renL D.l old now f=insA (insA D.l now (some f)) old none:=if_neg hne
  rw[hl] at hg ⊢
  have hr2:=Dj hr now (some f)
  have h1:=Ek hr now (some f)
  have h2:=Ek hr2 old none
  have h3:=Hh hr now (some f)
  have h4:=Hh hr2 old none
  have hv:ascA D.l now=V now:=h.v now
  have hvo:ascA (insA D.l now (some f)) old=some f:=by rw[← D5 hr];unfold mset;rw[if_neg hne];exact(h.v old).trans hk
  rw[hv] at h1 h3
  rw[hvo] at h2 h4
  simp only[Option.map_some,Option.getD_some,Option.map_none,Option.getD_none,reduceCtorEq,if_false,if_true] at h1 h2 h3 h4
  refine⟨rfl,_,_,⟨Ad2 h.up hg,fun z=>?_,rfl,rfl⟩,?_,?_⟩
  · show ascA (insA (insA D.l now (some f)) old none) z = _
    rw[← D5 hr2]
    unfold mset
    split
    · rfl
    · rw [← D5 hr]
      unfold mset
      split
      · rfl
      · exact h.v z
  · have:=h.used;show usedL (insA (insA D.l now (some f)) old none)+_=_;omega
  · have:=h.len;show (insA (insA D.l now (some f)) old none).length+_=_;split at h3 <;> simp_all <;> omega
end
theorem Mh:Bg nMan=true:=by decide
theorem J5:Bg nNew=true:=by decide
theorem Fu:nMan≠nNew:=by decide
theorem Pe {k:Nat} (h1:1≤k) (h2:k≤999999):(nSeg k).size=10:=by
  unfold nSeg nameF
  rw[if_neg (by omega)]
  show (toStr (nameL _)).size=10
  unfold toStr
  simp[ByteArray.size,Rk]
theorem Mg {k:Nat} (h1:1≤k) (h2:k≤999999):Bg (nSeg k)=true:=by
  have hs:=Pe h1 h2
  unfold Bg
  rw[decide_eq_true (by omega),Bool.true_and,List.all_eq_true]
  intro c hc
  have e:(nSeg k).data.toList=nameL ((k:Int).toNat):=by unfold nSeg nameF toStr;rw[if_neg (by omega)]
  rw[e] at hc
  unfold nameL at hc
  rcases List.mem_append.1 hc with h | h
  · clear hc;revert h;revert c;decide
  · have := Od 6 _ c h
    exact decide_eq_true (by omega)
theorem G2 {k:Nat} (h1:1≤k) (h2:k≤999999):nSeg k≠nMan:=fun e=>by have:=Pe h1 h2;rw[e] at this;revert this;decide
theorem Ie {k:Nat} (h1:1≤k) (h2:k≤999999):nSeg k≠nNew:=fun e=>by have:=Pe h1 h2;rw[e] at this;revert this;decide
theorem Uj:¬ SegN nMan:=fun ⟨k,h1,h2,e⟩=>G2 h1 h2 e.symm
theorem To {D:DS} {M i u n:Nat} {V:ByteArray→Option Fb} (h:Vu D M i V u n) (hk:V nNew=none) (hl:n<64) {b:By} (hr:u+b.length≤M) :
    (writeD D b).2=0∧∃ u' n',Vu (writeD D b).1 M (i+4) (mset V nMan (some (b,b.length))) u' n'∧u'+((V nMan).map fun f=>f.1.length).getD 0=u+b.length∧n'+(if V nMan=none then 0 else 1)=n+1:=by
  have hne:nNew≠nMan:=fun e=>Fu e.symm
  obtain⟨a1,a2⟩:=Qo h J5 hk hl
  have k1:mset V nNew (some ([],0)) nNew=some ([],0):=by unfold mset;rw[if_pos rfl]
  obtain⟨b1,b2⟩:=Qp a2 J5 k1 (p:=b) hr
  have k2:mset (mset V nNew (some ([],0))) nNew (some (([]:By)++b,0)) nNew=some (([]:By)++b,0):=by unfold mset;rw[if_pos rfl]
  obtain⟨c1,c2⟩:=Xd b2 J5 k2
  obtain⟨d1,u',n',d2,d3,d4⟩:=Aed c2 (old:=nNew) (now:=nMan) J5 Mh hne (f:=(([]:By)++b,(([]:By)++b).length)) (by unfold mset;rw[if_pos rfl])
  have e:writeD D b=Bv (syncD (Bm (A9 D nNew).1 nNew b).1 nNew).1 nNew nMan:=by
    unfold writeD
    rw[Dy a1,Dy b1,Dy c1]
  have hm:∀ x:Option Fb,mset (mset (mset V nNew (some ([],0))) nNew (some (([]:By)++b,0))) nNew x nMan=V nMan:=fun x=>by
    unfold mset;rw[if_neg Fu,if_neg Fu,if_neg Fu]
  rw[hm] at d3 d4
  refine⟨by rw[e];exact d1,u',n',?_,d3,d4⟩
  rw[e]
  have hv:mset (mset (mset (mset (mset V nNew (some ([],0))) nNew (some (([]:By)++b,0))) nNew (some (([]:By)++b,(([]:By)++b).length))) nMan (some (([]:By)++b,(([]:By)++b).length))) nNew none=mset V nMan (some (b,b.length)):=by
    funext z
    unfold mset
    simp only[List.nil_append]
    by_cases e1:z=nNew
    · subst e1;rw[if_pos rfl,if_neg hne,hk]
    · rw [if_neg e1]
      by_cases e2:z=nMan
      · rw[if_pos e2,if_pos e2]
      · rw[if_neg e2,if_neg e2,if_neg e1,if_neg e1,if_neg e1]
  rw[hv] at d2
  exact d2
theorem P8 {keep:ByteArray} {D:DS}:∀ {ns:List ByteArray},(∀ x∈ns,keepN x keep=true)→cleanL keep D ns=(D,0)
  | [],_=>rfl
  | x :: ns, h => by
    unfold cleanL
    rw[if_pos (h x (by simp))]
    exact P8 fun y hy=>h y (by simp[hy])
structure Rst (C:CS) (M i:Nat):Prop where
  ex:∃ V u,Vu C.D M i V u 2∧V nMan=some (manB ⟨C.seg,C.size,C.index⟩,(manB ⟨C.seg,C.size,C.index⟩).length)∧V (nSeg C.seg)=some (segB C.L,C.size)∧(∀ k,k≠nMan→k≠nSeg C.seg→V k=none)∧u=(manB ⟨C.seg,C.size,C.index⟩).length+C.size
  ok:(Mf.mk C.seg C.size C.index).Ok
  sz:(segB C.L).length=C.size
  cl:∀ c∈C.L,c.length≤1048576
  dead:C.dead=false
  next:C.next=none
theorem Ry {l:List By} (h:∀ c∈l,c.length≤1048576):getSg (segB l)=(l,0):=by
  unfold getSg
  have h1:Ce (segB l)=some l:=P9 l h
  rw[h1]
theorem Rst.open {C:CS} {M i:Nat} (h:Rst C M i):openC C.D=(C,0):=by
  obtain⟨V,u,hv,h1,h2,h3,h4⟩:=h.ex
  have hlo:=h.ok.lo
  have hhi:=h.ok.hi
  have hrm:=Xe hv Mh h1
  have hrs:=Xe hv (Mg hlo hhi) h2
  have hmo:ManOf (readD C.D nMan).1 ⟨C.seg,C.size,C.index⟩:=by rw[hrm];exact⟨h.ok,rfl⟩
  have hs:=h.sz
  have hfull:(segB C.L).take C.size=segB C.L:=List.take_of_length_le (by omega)
  rw[Fr (by rw[hrm]),Gs hmo]
  simp only[]
  rw[hrs]
  simp only[]
  rw[hfull,Ry h.cl,if_neg (by simp;omega)]
  have hkeep:cleanD C.D (nSeg C.seg)=(C.D,0):=P8 fun x hx=>by
    rw[Fw]
    have hx2:ascF C.D.l x≠none:=G0.2 hx
    rw[hv.v] at hx2
    by_cases e1:x=nMan
    · subst e1;exact⟨Fu,.inl Uj⟩
    · by_cases e2 : x = nSeg C.seg
      · subst e2;exact⟨Ie hlo hhi,.inr rfl⟩
      · exact absurd (h3 x e1 e2) hx2
  have hlr:loadR C.D ⟨C.seg,C.size,C.index⟩=(C.D,0):=by
    unfold loadR
    simp only[]
    rw[hrs,if_neg (by simp only[];omega)]
    exact hkeep
  rw[hlr]
  have hL:(getSg ((readD C.D (nSeg C.seg)).1.take C.size)).1=C.L:=by rw[hrs];simp only[];rw[hfull,Ry h.cl]
  have:loadS C.D ⟨C.seg,C.size,C.index⟩=C:=by
    unfold loadS
    simp only[]
    rw[hL]
    have hd:=h.dead
    have hn:=h.next
    cases C;simp_all
  rw[this]
theorem Aee (most:Int):Vu (newD most) (max 0 (min most 16777216)).toNat 0 (fun _=>none) 0 0:=⟨⟨Uw most,rfl,rfl,rfl⟩,fun _=>rfl,rfl,rfl⟩
theorem Aa1 {most:Int} {M:Nat} (hm:M=(max 0 (min most 16777216)).toNat) (hr:(manB ⟨1,0,[]⟩).length≤M) :
    (openC (newD most)).2=0∧Rst (openC (newD most)).1 M 5∧(openC (newD most)).1.L=[]∧(openC (newD most)).1.size=0∧(openC (newD most)).1.index=[]∧(openC (newD most)).1.seg=1:=by
  subst hm
  have h0:=Aee most
  have hok:(Mf.mk 1 0 []).Ok:=⟨by show 1≤1;omega,by show 1≤999999;omega,by show 0≤_;omega,by show 0≤_;omega⟩
  have hrn:=Acp h0 Mh rfl
  have hcl:cleanD (newD most) (toStr [])=(newD most,0):=rfl
  obtain⟨a1,a2⟩:=Qo h0 (Mg (k:=1) (by omega) (by omega)) rfl (by omega)
  have hk:mset (fun _=>none:ByteArray→Option Fb) (nSeg 1) (some ([],0)) nNew=none:=by unfold mset;rw[if_neg (fun e=>Ie (k:=1) (by omega) (by omega) e.symm)]
  obtain⟨b1,u',n',b2,b3,b4⟩:=To a2 hk (by omega) (b:=manB ⟨1,0,[]⟩) (by omega)
  have hkm:mset (fun _=>none:ByteArray→Option Fb) (nSeg 1) (some ([],0)) nMan=none:=by unfold mset;rw[if_neg (fun e=>G2 (k:=1) (by omega) (by omega) e.symm)]
  rw[hkm] at b3 b4
  simp only[Option.map_none,Option.getD_none,if_true] at b3 b4
  have hn2:n'=2:=by omega
  subst hn2
  have hrun:runD openOps (newD most)=writeD (A9 (newD most) (nSeg 1)).1 (manB ⟨1,0,[]⟩):=by
    simp only[openOps,runD,Ha]
    rw[hcl,Dy (r:=(newD most,0)) rfl,Dy a1]
    unfold writeM
    rw[if_pos (Ki.2 hok)]
  have ho:=Gq (D:=newD most) (by rw[hrn])
  rw[ho,hrun]
  refine⟨b1,⟨⟨_,u',b2,?_,?_,?_,(by show u'=(manB ⟨1,0,[]⟩).length+0;omega)⟩,hok,rfl,(by intro c hc;cases hc),rfl,rfl⟩,rfl,rfl,rfl,rfl⟩
  · unfold mset;rw[if_pos rfl]
  · show mset _ nMan _ (nSeg 1) = _
    unfold mset;rw[if_neg (G2 (k:=1) (by omega) (by omega)),if_pos rfl];rfl
  · intro k h1 h2
    unfold mset;rw[if_neg h1,if_neg h2]
theorem Rst.put {C:CS} {M i:Nat} (h:Rst C M i) {cs:List By} {ix:By} (hc:∀ c∈cs,c.length≤1048576) (hi:ix.length≤524288) (hM:M≤16777216)
    (hr:(manB ⟨C.seg,C.size,C.index⟩).length+C.size+(segB (Be C.L cs)).length+(manB ⟨C.seg,C.size+(segB (Be C.L cs)).length,ix⟩).length≤M) :
    (putC C cs ix).2=0∧Rst (putC C cs ix).1 M (i+6)∧(putC C cs ix).1.L=C.L++Be C.L cs∧(putC C cs ix).1.index=ix∧(putC C cs ix).1.seg=C.seg∧(putC C cs ix).1.size=C.size+(segB (Be C.L cs)).length:=by
  obtain⟨V,u,hv,h1,h2,h3,h4⟩:=h.ex
  have hlo:=h.ok.lo
  have hhi:=h.ok.hi
  simp only at hlo hhi
  have hns:=Mg hlo hhi
  have hmain:=Qw (C:=C) (cs:=cs) (ix:=ix) (by rw[h.dead];simp) (by rintro (e | ⟨c,hc1,hc2⟩);(· omega);(· have:=hc c hc1;omega))
  obtain⟨l,hl⟩:∃ l,l=Be C.L cs:=⟨_,rfl⟩
  rw[← hl] at hmain hr ⊢
  have hlc:∀ c∈l,c.length≤1048576:=fun c hcl=>hc c (by rw[hl] at hcl;exact(Fy cs C.L c hcl).2)
  have hok:(Mf.mk C.seg (C.size+(segB l).length) ix).Ok:=⟨hlo,hhi,by show C.size+_≤_;omega,hi⟩
  -- the first step
  have hp1:∃ D1 j,put1 C l=(D1,0)∧Vu D1 M j (mset V (nSeg C.seg) (some (segB (C.L++l),C.size+(segB l).length))) (u+(segB l).length) 2∧j≤i+2:=by
    have hsa:segB C.L++segB l=segB (C.L++l):=by unfold segB;rw[List.flatMap_append]
    by_cases he:l=[]
    · refine ⟨C.D, i, Ua he, ?_, by omega⟩
      have hV:mset V (nSeg C.seg) (some (segB (C.L++l),C.size+(segB l).length))=V:=by
        funext z;unfold mset
        split
        · rename_i e;subst e;rw[h2,he];simp[segB]
        · rfl
      rw[hV,he];exact hv
    · obtain ⟨a1, a2⟩ := Qp hv hns h2 (p := segB l) (by omega)
      obtain⟨b1,b2⟩:=Xd a2 hns (f:=(segB C.L++segB l,C.size)) (by unfold mset;rw[if_pos rfl])
      refine⟨(syncD (Bm C.D (nSeg C.seg) (segB l)).1 (nSeg C.seg)).1,i+2,?_,?_,Nat.le_refl _⟩
      · rw [Qx he]
        simp only[runD,Ha]
        rw[Dy a1]
        exact Prod.ext rfl b1
      · have hV : mset (mset V (nSeg C.seg) (some (segB C.L ++ segB l, C.size))) (nSeg C.seg) (some (segB C.L ++ segB l, (segB C.L ++ segB l).length)) = mset V (nSeg C.seg) (some (segB (C.L ++ l), C.size + (segB l).length)) := by
          funext z;unfold mset
          split
          · rw[List.length_append,h.sz,hsa]
          · rfl
        rw[← hV];exact b2
  obtain⟨D1,j,hp,hv1,hj⟩:=hp1
  have hnn:mset V (nSeg C.seg) (some (segB (C.L++l),C.size+(segB l).length)) nNew=none:=by
    unfold mset;rw[if_neg (fun e=>Ie hlo hhi e.symm)];exact h3 _ (fun e=>Fu e.symm) (fun e=>Ie hlo hhi e.symm)
  obtain⟨w1,u',n',w2,w3,w4⟩:=To hv1 hnn (by omega) (b:=manB ⟨C.seg,C.size+(segB l).length,ix⟩) (by omega)
  have hmm:mset V (nSeg C.seg) (some (segB (C.L++l),C.size+(segB l).length)) nMan=some (manB ⟨C.seg,C.size,C.index⟩,(manB ⟨C.seg,C.size,C.index⟩).length):=by
    unfold mset;rw[if_neg (fun e=>G2 hlo hhi e.symm)];exact h1
  rw[hmm] at w3 w4
  simp only[Option.map_some,Option.getD_some,reduceCtorEq,if_false] at w3 w4
  have hn2:n'=2:=by omega
  subst hn2
  have hR:putR C l ix=writeD D1 (manB ⟨C.seg,C.size+(segB l).length,ix⟩):=by
    unfold putR
    rw[hp]
    show writeM D1 _=_
    unfold writeM
    rw[if_pos (Ki.2 hok)]
  rw[hmain,hR,if_neg (by rw[w1];simp)]
  have w2:Vu (writeD D1 (manB ⟨C.seg,C.size+(segB l).length,ix⟩)).1 M (i+6) _ u' 2:=⟨⟨w2.up.good.mono (by omega),w2.up.down,w2.up.left,w2.up.most⟩,w2.v,w2.used,w2.len⟩
  refine⟨rfl,⟨⟨_,u',w2,?_,?_,?_,(by show u'=(manB ⟨C.seg,C.size+(segB l).length,ix⟩).length+(C.size+(segB l).length);omega)⟩,hok,?_,?_,h.dead,h.next⟩,rfl,rfl,rfl,rfl⟩
  · unfold mset;rw[if_pos rfl]
  · show mset _ nMan _ (nSeg C.seg) = _
    unfold mset;rw[if_neg (G2 hlo hhi),if_pos rfl]
  · intro k e1 e2
    show mset _ nMan _ k=none
    unfold mset;rw[if_neg e1,if_neg e2];exact h3 k e1 e2
  · show (segB (C.L ++ l)).length = C.size + (segB l).length
    have e:segB (C.L++l)=segB C.L++segB l:=by unfold segB;rw[List.flatMap_append]
    rw[e,List.length_append,h.sz]
  · intro c hcl
    rcases List.mem_append.1 hcl with e | e
    · exact h.cl c e
    · exact hlc c e
theorem Rst.cn {C:CS} {M i:Nat} (h:Rst C M i) (hM:M≤16777216) (hl:C.L.length≤4194304):CN C i:=by
  obtain⟨V,u,hv,h1,h2,h3,h4⟩:=h.ex
  have:=h.ok.ix
  have:=h.ok.sz
  exact⟨hv.up.good,h.ok.hi,(by have:=h.ok.sz;simp only at this;omega),(by simp only at *;omega),(fun g z e=>by rw[h.next] at e;cases e),hl,h.cl⟩
theorem Un {m:Mf} (h:m.Ok):(manB m).length≤m.index.length+35:=by
  have h1:=C9 (n:=m.seg) (by have:=h.hi;omega)
  have h2:=C9 (n:=m.size) (by have:=h.sz;omega)
  have h3:=Tw 3 (Dx m) (Hf h)
  have h4:(Dx m).length=(lebU m.seg).length+((lebU m.size).length+m.index.length):=by simp[Dx]
  unfold manB
  omega
theorem Aav:(Mf.mk 1 0 []).Ok:=⟨by show 1≤1;omega,by show 1≤999999;omega,by show 0≤_;omega,by show 0≤_;omega⟩
theorem Rm:(manB ⟨1,0,[]⟩).length≤35:=Un Aav
theorem Vi:(segB [[97]]).length=7:=by
  have h:=Adz
  unfold segB
  rw[h];exact Ady
theorem Ab8 {C:CS} (h:Rst C 1000 5) (hL:C.L=[]) (hz:C.size=0) (hi:C.index=[]) (hs:C.seg=1) :
    (putC C [[97]] [105]).2=0∧Rst (putC C [[97]] [105]).1 1000 11∧(putC C [[97]] [105]).1.L=[[97]]∧(putC C [[97]] [105]).1.index=[105]∧(putC C [[97]] [105]).1.size=7:=by
  have hok:(Mf.mk 1 7 [105]).Ok:=⟨by show 1≤1;omega,by show 1≤999999;omega,by show 7≤_;omega,by show 1≤_;omega⟩
  have hm:=Un hok
  have hf:=Rm
  have e:Be C.L [[97]]=[[97]]:=by rw[hL];rfl
  simp only[List.length_cons,List.length_nil] at hm
  obtain⟨a,b,c,d,_,f⟩:=h.put (cs:=[[97]]) (ix:=[105]) (by intro x hx;simp only[List.mem_singleton] at hx;subst hx;show 1≤_;omega) (by show 1≤_;omega) (by omega) (by rw[e,Vi,hz,hi,hs,show 0+7=7 from rfl];omega)
  rw[e] at c f
  exact⟨a,b,by rw[c,hL];rfl,d,by rw[f,hz,Vi]⟩
structure Vw (D:DS) (M i:Nat) (V:ByteArray→Option Fb):Prop where
  good:Good D i
  most:D.most=M
  v:∀ k,ascF D.l k=V k
def Up0 (D:DS):Prop:=D.down=false∧D.left=-1
theorem Vw.mono {D:DS} {M i j:Nat} {V:ByteArray→Option Fb} (h:Vw D M i V) (hj:i≤j):Vw D M j V:=⟨h.good.mono hj,h.most,h.v⟩
section
variable {D : DS} {M i : Nat} {V V' : ByteArray → Option Fb} {k : ByteArray}
theorem Vw.getF (h:Vw D M i V) {f:Fb} (hk:V k=some f):Eng.getF D k=f:=by unfold Eng.getF;rw[h.v,hk];rfl
end
section
variable {P : Program} {Q : Exit → Act → World → Prop} {n : Nat} {f : Nat → Value} {w : World}
theorem Tf {α:Type} {g:Operand} {ps:List Nat} {assign body:Code} {gf:FuncId} {lb:List Value} {encs:α→List Value} {E:World→World→Prop} {S Sp:List α→Prop} {X:List α→α→World→Prop} {Rl:World→World→Prop} {fn:Func}
    (I:List α→World→Prop) (Ix:Code→List α→World→Prop) (hEe:∀ A B,Ext A B→E A B)
    (hg : ev n f g = .func (.func gf) #[] lb.toArray) (hfn : P.funcs[gf]? = some fn) (hn : (fn.name == "runtime.NumGoroutine") = false) (hb : fn.body.isNone = false)
    (hEs:∀ A B,E A B→A.heap.size≤B.heap.size) (hEl:∀ A B,Lp w.heap.size A B→E A B) (hEt:∀ A B C,E A B→E B C→E A C) (hseq:SeqOk P gf lb encs E S Sp X Rl w) (hRe:∀ A B,Ext A B→Rl A B) (hRl:∀ A B,Rl A B→A.heap.size≤B.heap.size∧∀ k,ty A k=none→k<A.heap.size→B.heap[k]? = A.heap[k]?) (hXx:∀ s x A B,X s x A→Lp w.heap.size A B→X s x B) (hps:∀ x,(encs x).length=ps.length)
    (hIe:∀ s A B,I s A→Rl A B→I s B) (hIl:∀ s A B,I s A→Lp w.heap.size A B→I s B) (hXe:∀ c s A B,Ix c s A→Rl A B→Ix c s B) (hXl:∀ c s A B,Ix c s A→Lp w.heap.size A B→Ix c s B)
    (h0:I [] w)
    (hround:∀ l pre x W,w.heap.size≤W.heap.size→I pre W→X pre x W→Wf (some l) P assign (Exit.then (fun a W2=>∃ f₁:Nat→Value,a=fr n f₁∧Ext W W2∧∀ W3,Lp w.heap.size W2 W3→Wf (some l) P body (N7 E I Ix (pre++[x]) W3) (fr n f₁) W3) noQ) (fr n (updR (updP f (ps.zip (encs x))) sp undef)) W)
    (hdone:∀ D xs W,w.heap.size≤D→S xs→I xs W→Dfr W D→decD (f sp)=decD (f sp)→Q .normal { fr n f with defers:={ target := .collected D,args:=#[] } :: decD (f sp) } W)
    (hstop:∀ D c pre W,w.heap.size≤D→Sp pre→Ix c pre W→Dfr W D→Wp P c Q { fr n f with defers:={ target := .collected D,args:=#[] } :: decD (f sp) } W) :
    Wp P (Code.rangeFunc g ps.toArray assign body) Q (fr n f) w:=by
  refine Wf.toWp ⟨?_⟩
  refine wpIn_rangeFunc ?_
  intro fnid _
  obtain⟨rec,hrec⟩:∃ rec:LoopState→Option Code→Loop,rec=fun st pe=>{ state:=st,pending:=pe,fn:=fnid,tmps:=(fr n f).tmps,params:=ps.toArray,assign,body,defers:=w.heap.size }:=⟨_,rfl⟩
  obtain⟨W1,hW1⟩:∃ W1,(w.alloc (.deferred (some []))).alloc (.loop (rec .ready none))=W1:=⟨_,rfl⟩
  have hL1:W1.heap[w.heap.size+1]? = some (.loop (rec .ready none)):=by
    rw[← hW1];have:=World.alloc_heap_new (w.alloc (.deferred (some []))) (.loop (rec .ready none));rwa [World.size_alloc] at this
  have hK1:Dfr W1 w.heap.size:=by
    unfold Dfr
    rw[← hW1];exact(Below.heap_alloc _ _ _ (by simp)).trans (World.alloc_heap_new w _)
  have hx1:Ext w W1:=by rw[← hW1];exact(Ext.alloc _ _).trans (Ext.alloc _ _)
  have hI1:I [] W1:=hIe _ _ _ h0 (hRe _ _ hx1)
  refine⟨w.heap.size+1,[{ target := .collected w.heap.size,args:=#[] }],W1,{ target := .fn (.func gf) lb.toArray,args:=#[.func (.yield (w.heap.size+1)) #[] #[]] },W1,gf,
    (.func (.yield (w.heap.size+1)) #[] #[] :: lb).toArray,W1,?_,?_,fun _ _=>trivial,?_,fun hd=>(by cases hd),?_⟩
  · rw[← hW1,hrec];exact run_enterLoop_outer _ _ _ _ _
  · simp only [resolve, Bn, hg]
    simp[Deferred.ofValue,Sem.run_bind]
    rfl
  · have hn' : ¬ fn.name = "runtime.NumGoroutine" := by simpa using hn
    have hb':¬ fn.body=none:=by intro e;rw[e] at hb;cases hb
    simp[invoke,callFunc,hfn,hn',hb',Sem.run_bind,Sem.run]
  · have lty : ∀ {W : World} {r : Loop} {k : Nat}, W.heap[k]? = some (.loop r) → ty W k = none := fun h => by unfold ty; rw [h]
    refine (callsIn_wide (n:=0)).2 (Calls.mono (hseq.out (w.heap.size+1)
      (fun pre W=>(I pre W∧w.heap.size≤W.heap.size)∧W.heap[w.heap.size+1]? = some (.loop (rec .ready none))∧Dfr W w.heap.size)
      (fun pre W=>∃ c,Ix c pre W∧W.heap[w.heap.size+1]? = some (.loop (rec .done (some c)))∧Dfr W w.heap.size)
      W1 hx1
      (fun s A B hs hx=>⟨⟨hIe _ _ _ hs.1.1 hx,Nat.le_trans hs.1.2 (hRl _ _ hx).1⟩,((hRl _ _ hx).2 _ (lty hs.2.1) (Array.getElem?_eq_some_iff.1 hs.2.1).1).trans hs.2.1,((hRl _ _ hx).2 _ (Jl hs.2.2) (Jm hs.2.2)).trans hs.2.2⟩)
      (fun s A B hs hx=>by obtain⟨c,h1,h2,h3⟩:=hs;exact⟨c,hXe _ _ _ _ h1 hx,((hRl _ _ hx).2 _ (lty h2) (Array.getElem?_eq_some_iff.1 h2).1).trans h2,((hRl _ _ hx).2 _ (Jl h3) (Jm h3)).trans h3⟩)
      ?_ ⟨⟨hI1,hx1.size⟩,hL1,hK1⟩) ?_)
    · -- one round
      rintro pre x W ⟨⟨hi,hsz⟩,hl,hk⟩ hlen
      have hlt:w.heap.size+1<W.heap.size:=(Array.getElem?_eq_some_iff.1 hl).1
      have hy:=run_yield (P:=P) (args:=(encs x).toArray) hl (by rw[hrec];simp[hps x])
      rw[hrec] at hy
      refine⟨fnid,_,assign,body,hy,roundIn_of_wpIn trivial ?_⟩
      have hfr:({ tmps:=((ps.toArray.zip (encs x).toArray).foldl (fun (t:Array Value) (p:Nat×Value)=>match p with | (p,v)=>t.setIfInBounds p v) (fr n f).tmps),defers:=[] }:Act)=fr n (updR (updP f (ps.zip (encs x))) sp undef):=by
        rw[← Nl]
        congr 1
        rw[← Mn]
        simp
      refine (congrArg (fun a=>Code.wpIn _ _ P assign _ a W) hfr).mpr ?_
      refine wpIn_mono (hround (w.heap.size+1) pre x W hsz hi hlen).out ?_
      rintro e a2 W2 hq
      cases e with
      | normal =>
        obtain⟨f₁,rfl,hxa,hbd⟩:=hq
        have hl:=(hxa.old _ hlt).trans hl
        have hk:=(hxa.old _ (Jm hk)).trans hk
        have hlt:w.heap.size+1<W2.heap.size:=Nat.lt_of_lt_of_le hlt hxa.size
        have hsz:w.heap.size≤W2.heap.size:=Nat.le_trans hsz hxa.size
        have hb0:Lp w.heap.size W2 (W2.putObj (w.heap.size+1) (.loop { rec .ready none with state := .busy })):=Lp.put hl (lty hl) (by omega)
        refine⟨_,run_beginRound hl (by rw[hrec]),?_⟩
        have hl2:(W2.putObj (w.heap.size+1) (.loop { rec .ready none with state := .busy })).heap[w.heap.size+1]? = some (.loop { rec .ready none with state := .busy }):=World.putObj_heap_same hlt
        have hk2:Dfr (W2.putObj (w.heap.size+1) (.loop { rec .ready none with state := .busy })) w.heap.size:=(World.putObj_heap_other (by omega)).trans hk
        refine wpIn_mono (hbd _ hb0).out ?_
        have fin:∀ (jump:Option Code) (W3:World),(∀ k,ty (W2.putObj (w.heap.size+1) (.loop { rec .ready none with state := .busy })) k=none→k<(W2.putObj (w.heap.size+1) (.loop { rec .ready none with state := .busy })).heap.size→W3.heap[k]? = (W2.putObj (w.heap.size+1) (.loop { rec .ready none with state := .busy })).heap[k]?) →
            (Instr.endRound (w.heap.size+1) jump).run P W3 = .ok (.bool jump.isNone) (W3.putObj (w.heap.size+1) (.loop (rec (if jump.isNone then .ready else .done) jump))) ∧
            Lp w.heap.size W3 (W3.putObj (w.heap.size+1) (.loop (rec (if jump.isNone then .ready else .done) jump))) ∧
            (W3.putObj (w.heap.size+1) (.loop (rec (if jump.isNone then .ready else .done) jump))).heap[w.heap.size+1]? = some (.loop (rec (if jump.isNone then .ready else .done) jump)) ∧
            Dfr (W3.putObj (w.heap.size+1) (.loop (rec (if jump.isNone then .ready else .done) jump))) w.heap.size:=fun jump W3 hk3=>by
          have hl3:=(hk3 _ (lty hl2) (Array.getElem?_eq_some_iff.1 hl2).1).trans hl2
          have:=run_endRound (P:=P) jump hl3
          rw[hrec] at this ⊢
          exact⟨this,Lp.put hl3 (lty hl3) (by omega),World.putObj_heap_same (Array.getElem?_eq_some_iff.1 hl3).1,(World.putObj_heap_other (by omega)).trans ((hk3 _ (Jl hk2) (Jm hk2)).trans hk2)⟩
        rintro e a3 W3 hp
        cases e with
        | normal =>
          obtain⟨hr3,hk3,hi3⟩:=hp
          obtain⟨hr,hlp,hl4,hk4⟩:=fin none W3 hk3
          refine⟨_,_,hr,.inl ⟨rfl,⟨⟨hIl _ _ _ hi3 hlp,?_⟩,hl4,hk4⟩,hEt _ _ _ (hEt _ _ _ (hEt _ _ _ (hEe _ _ hxa) (hEl _ _ hb0)) hr3) (hEl _ _ hlp)⟩⟩
          have h1:=hEs _ _ hr3
          have h2:=hb0.size
          have h3:=hlp.size
          omega
        | ret =>
          obtain⟨hk3,hi3⟩:=hp
          obtain⟨hr,hlp,hl4,hk4⟩:=fin (some .ret) W3 hk3
          exact⟨_,_,hr,.inr ⟨rfl,.ret,hXl _ _ _ _ hi3 hlp,hl4,hk4⟩⟩
        | exit id =>
          obtain⟨hk3,hi3⟩:=hp
          obtain⟨hr,hlp,hl4,hk4⟩:=fin (some (.exit id)) W3 hk3
          exact⟨_,_,hr,.inr ⟨rfl,.exit id,hXl _ _ _ _ hi3 hlp,hl4,hk4⟩⟩
        | goto t=>exact hp.elim
        | panic ch=>exact hp.elim
        | outgrown=>exact hp.elim
      | _=>exact hq.elim
    · -- behind the iterator
      rintro e W2 ⟨⟨v,rfl⟩,(⟨xs,hS,⟨hi,_⟩,hl,hk⟩ | ⟨pre,hSp,c,hi,hl,hk⟩)⟩
      · have hr := run_endLoop (P := P) hl (by rw [hrec]; simp)
        have hlp:Lp w.heap.size W2 (W2.putObj (w.heap.size+1) (.loop { rec .ready none with state := .exhausted })):=Lp.put hl (lty hl) (by omega)
        refine⟨none,_,?_,hdone w.heap.size xs _ (Nat.le_refl _) hS (hIl _ _ _ hi hlp) ((World.putObj_heap_other (by omega)).trans hk) rfl⟩
        rw[hrec] at hr ⊢;exact hr
      · have hr := run_endLoop (P := P) hl (by rw [hrec]; simp)
        have hlp:Lp w.heap.size W2 (W2.putObj (w.heap.size+1) (.loop { rec .done (some c) with state := .exhausted })):=Lp.put hl (lty hl) (by omega)
        refine⟨some c,_,?_,wpIn_wide.2 (hstop w.heap.size c pre _ (Nat.le_refl _) hSp (hXl _ _ _ _ hi hlp) ((World.putObj_heap_other (by omega)).trans hk)).out⟩
        rw[hrec] at hr ⊢;exact hr
theorem Afg {α:Type} {g:Operand} {ps:List Nat} {assign body:Code} {gf:FuncId} {lb:List Value} {encs:α→List Value} {E:World→World→Prop} {S Sp:List α→Prop} {X:List α→α→World→Prop} {Rl:World→World→Prop} {fn:Func}
    (Ds:List Nat) (I:List α→World→Prop) (Ix:Code→List α→World→Prop) (hEe:∀ A B,Ext A B→E A B) (hsp:f sp=encDs Ds)
    (hg : ev n f g = .func (.func gf) #[] lb.toArray) (hfn : P.funcs[gf]? = some fn) (hn : (fn.name == "runtime.NumGoroutine") = false) (hb : fn.body.isNone = false)
    (hEs:∀ A B,E A B→A.heap.size≤B.heap.size) (hEl:∀ A B,Lp w.heap.size A B→E A B) (hEt:∀ A B C,E A B→E B C→E A C) (hseq:SeqOk P gf lb encs E S Sp X Rl w) (hXx:∀ s x A B,X s x A→Lp w.heap.size A B→X s x B) (hRe:∀ A B,Ext A B→Rl A B) (hRl:∀ A B,Rl A B→A.heap.size≤B.heap.size∧∀ k,ty A k=none→k<A.heap.size→B.heap[k]? = A.heap[k]?)
    (hps:∀ x,(encs x).length=ps.length)
    (hIe:∀ s A B,I s A→Rl A B→I s B) (hIl:∀ s A B,I s A→Lp w.heap.size A B→I s B) (hXe:∀ c s A B,Ix c s A→Rl A B→Ix c s B) (hXl:∀ c s A B,Ix c s A→Lp w.heap.size A B→Ix c s B)
    (h0:I [] w)
    (hround:∀ l pre x W,w.heap.size≤W.heap.size→I pre W→X pre x W→Wf (some l) P assign (Exit.then (fun a W2=>∃ f₁:Nat→Value,a=fr n f₁∧Ext W W2∧∀ W3,Lp w.heap.size W2 W3→Wf (some l) P body (N7 E I Ix (pre++[x]) W3) (fr n f₁) W3) noQ) (fr n (updR (updP f (ps.zip (encs x))) sp undef)) W)
    (hdone:∀ D xs W,w.heap.size≤D→S xs→I xs W→Dfr W D→Q .normal (fr n (updR f sp (encDs (D :: Ds)))) W)
    (hstop:∀ D c pre W,w.heap.size≤D→Sp pre→Ix c pre W→Dfr W D→Wp P c Q (fr n (updR f sp (encDs (D :: Ds)))) W) :
    Wp P (Code.rangeFunc g ps.toArray assign body) Q (fr n f) w :=
  Tf I Ix hEe hg hfn hn hb hEs hEl hEt hseq hRe hRl hXx hps hIe hIl hXe hXl h0 hround
    (fun D xs W h1 h2 h3 h4 _=>by rw[S2 n f D Ds hsp];exact hdone D xs W h1 h2 h3 h4) (fun D c pre W h1 h2 h3 h4=>by rw[S2 n f D Ds hsp];exact hstop D c pre W h1 h2 h3 h4)
end
theorem Mp.rnd {κ ν:Type} {kk:κ→Value} {d:VK ν} {B0 r:Nat} {E:List TypeId} {w w':World} {μ:κ→Option ν} (h:Mp kk d 0 B0 w r μ) (m:Rnd E w w') (ht:tMap∉E) (hd:d.E=[]):Mp kk d 0 B0 w' r μ :=
  h.keep (fun hl=>m.old r tMap h.tyOf ht) (fun j hj ho=>ho.elim (fun h=>by omega) fun ⟨u,hu,_⟩=>by rw[hd] at hu;simp at hu)
theorem Rg.rnd {κ ν:Type} [DecidableEq κ] {kk:κ→Value} {d:VK ν} {B0 r it:Nat} {E:List TypeId} {w w':World} {μ:κ→Option ν} {vs:List κ} (h:Rg kk d 0 B0 w r it μ vs) (m:Rnd E w w') (ht:tMap∉E∧tIter∉E) (hd:d.E=[]):Rg kk d 0 B0 w' r it μ vs:=by
  have hM:=h.mp 0 (Nat.zero_le _)
  obtain⟨es,clock,l,since,seen,c0,hm,hT,h1,h2⟩:=h.ex
  have hi:ty w it=some tIter:=by unfold Eng.ty;rw[h1]
  exact h.keep (fun hl=>m.old r tMap hM.tyOf ht.1) (fun hl=>m.old it tIter hi ht.2) (fun j hj ho=>ho.elim (fun h=>by omega) fun ⟨u,hu,_⟩=>by rw[hd] at hu;simp at hu)
theorem Adk (B:Nat):∀ A C:World,Mod B tIter A C→A.heap.size≤C.heap.size∧∀ k,ty A k=none→k<A.heap.size→C.heap[k]? = A.heap[k]? := fun _ _ h=>⟨h.size,fun k hk hl=>h.old k hl (.inr (by rw[hk];simp))⟩
def encH (x:Hash):List Value:=[.agg (hv x)]
theorem Acy {e B:Nat} {w:World} {g:Nat} {p:Option Addr} {n c:Nat} {x:By} (hB:Blk w g #[.slice p n c] e) (h:Sl kByte 5 B w p n c x):Sl (kSl kByte 5) e B w (some ⟨g,0,none⟩) 1 1 [x]:=by
  refine⟨rfl,Nat.le_refl _,by omega,[[.slice p n c]],⟨⟨p,n,c,rfl,h⟩,trivial⟩,⟨⟨fun _=>rfl,fun j v hv=>?_⟩,fun _ => .inr hB.ty⟩⟩
  cases j with
  | zero=>simp at hv;subst hv;exact hB.cell rfl
  | succ j=>simp at hv
def sub (w:World) (Z:Nat):Nat→Prop:=fun j=>w.heap.size≤j∧j<Z
theorem Cst.sub {S:Nat→Prop} {w w':World} {g gd:Nat} {C:CS} (h:Cst S w' g gd C) (hS:∀ j,S j→w.heap.size≤j):Cst (sub w w'.heap.size) w' g gd C:=h.mono fun j hj hs=>⟨hS j hs,hj⟩
theorem Xn {B Z n c:Nat} {w w':World} {p:Option Addr} {e:TypeId} {xs:By} {g:Nat} (h:Sl kByte e B w' p n c xs) (hp:p=some ⟨g,0,none⟩) (hg:Z≤g):Out (sub w Z) w' p n c xs :=
  Out.ofSl h fun _ hs=>by subst hp;have:=hs.2;show False;have h2:ab (some (⟨g,0,none⟩:Addr))<Z:=hs.2;exact absurd h2 (by show ¬ g<Z;omega)
section
open Go.RowKit Go.Sort
section
variable {α : Type} [Inhabited α] {sz : Nat} {enc : α → List Value} {hl : ∀ x, (enc x).length = sz} {h1 : ∀ x, ∀ v ∈ enc x, v.oneCell' = true}
theorem Abt:∀ (xs:List α) (i j:Nat) (v:Value),i<xs.length→(enc (xs.getD i default))[j]? = some v→(∀ x,(enc x).length=sz)→(xs.map enc).flatten[i * sz+j]? = some v:=by
  intro xs i j v hi hv hl
  refine Kind.flat_get (s:=sz) (fun c hc=>?_) (i:=i) (j:=j) ?_
  · obtain⟨x,_,rfl⟩:=List.mem_map.1 hc;exact hl x
  · rw [List.getD_eq_getElem?_getD, List.getElem?_map]
    rw[List.getD_eq_getElem?_getD] at hv
    rw[List.getElem?_eq_getElem hi] at hv ⊢
    exact hv
theorem U1 (hl:∀ x,(enc x).length=sz):∀ xs:List α,(xs.map enc).flatten.length=xs.length * sz
  | []=>by simp
  | x :: xs=>by rw[List.map_cons,List.flatten_cons,List.length_append,hl,U1 hl xs,List.length_cons,Nat.add_mul];omega
theorem U2 (hl:∀ x,(enc x).length=sz) (d':Array α):(flatK enc sz d').toList=(d'.toList.map enc).flatten:=by
  have hlen:(d'.toList.map enc).flatten.length=d'.size * sz:=U1 hl d'.toList
  apply List.ext_getElem?
  intro t
  by_cases ht:t<d'.size * sz
  · have hk : 0 < sz := by rcases Nat.eq_zero_or_pos sz with h | h; (· subst h; simp at ht); (· exact h)
    have hlt:t / sz<d'.size:=Nat.div_lt_of_lt_mul (by rw[Nat.mul_comm];exact ht)
    have hm:t % sz<sz:=Nat.mod_lt _ hk
    have e1:t=t / sz * sz+t % sz:=by have:=Nat.div_add_mod t sz;rw[Nat.mul_comm] at this;omega
    have hg:=get_flatK enc sz d' t ht
    have hm':t % sz<(enc d'[t / sz]!).length:=by rw[hl];exact hm
    have hx:(enc d'[t / sz]!)[t % sz]? = some (flatK enc sz d')[t]! := by
      rw[hg,List.getElem?_eq_getElem hm',getElem!_pos (enc d'[t / sz]!) (t % sz) hm']
    have hr:=Abt (sz:=sz) (enc:=enc) d'.toList (t / sz) (t % sz) _ (by simpa using hlt) (by
      rw[show d'.toList.getD (t / sz) default=d'[t / sz]! from by rw[getElem!_pos d' _ hlt];simp[List.getD_eq_getElem?_getD,hlt]];exact hx) hl
    rw[← e1] at hr
    have hsz:t<(flatK enc sz d').size:=by simpa using ht
    rw[hr,Array.getElem?_toList,Array.getElem?_eq_getElem hsz,getElem!_pos (flatK enc sz d') t hsz]
  · rw[List.getElem?_eq_none (by simp;omega),List.getElem?_eq_none (by omega)]
theorem Sy {e:TypeId} {B B0:Nat} {w:World} {g n c:Nat} {xs:List α} (h:Own (Kind.pure sz enc hl h1) e B B0 w (some ⟨g,0,none⟩) n c xs) (hn:0<n):HoldsK enc sz w g 0 xs.toArray:=by
  obtain⟨g',cur,css,e1,h2,h3,h4,h5,h6,ha,hlf,ht⟩:=h.block hn
  injection e1 with e1;injection e1 with e1;subst e1
  have hc:=Ia ha
  subst hc
  have hf:=U2 hl xs.toArray
  intro j hj
  have hz:(Kind.pure sz enc hl h1).sz=sz:=rfl
  have hj':j<n * sz:=by have:=h.len;simpa [this] using hj
  refine⟨?_,frozen_of_row w g _ cur e h3⟩
  have hnc:n * sz≤c * sz:=Nat.mul_le_mul_right _ h4
  rw[Nat.zero_add]
  refine h3.cell ?_
  have e2:(xs.map enc).flatten[j]? = cur[j]? := by
    rw[← ht,List.getElem?_take,if_pos (by rw[hz];exact hj'),Array.getElem?_toList]
  rw[← e2]
  have e3:(flatK enc sz xs.toArray).toList=(xs.map enc).flatten:=hf
  rw[← e3,Array.getElem?_toList,Array.getElem?_eq_getElem hj,getElem!_pos (flatK enc sz xs.toArray) j hj]
  rfl
theorem Qj {e:TypeId} {B0:Nat} {w:World} {g:Nat} {cur:Array Value} (hg:B0≤g) (hB:Blk w g cur e) (m:Nat) (d':Array α) (os:Array Obj):Mod B0 e w (sortWorldK enc sz w g 0 m d' os) ∧
    Blk (sortWorldK enc sz w g 0 m d' os) g (putCells id 0 (flatK enc sz d') cur) e:=by
  have hlt:=hB.lt
  have hsz:(putRowK enc sz (Sort.ahead w m) g 0 d').heap.size=w.heap.size:=by unfold putRowK;rw[size_putRow];rfl
  have hcell:∀ k,k<w.heap.size→(sortWorldK enc sz w g 0 m d' os).heap[k]? = (putRowK enc sz (Sort.ahead w m) g 0 d').heap[k]? := fun k hk=>heap_grow_old _ os (by rw[hsz];exact hk)
  have hother:∀ k,k≠g→(putRowK enc sz (Sort.ahead w m) g 0 d').heap[k]? = w.heap[k]? := fun k hk=>by
    simp only[putRowK,putRow,mapBlock,Sort.ahead,Array.getElem?_modify]
    rw[if_neg (fun e=>hk e.symm)]
  have hgb:(putRowK enc sz (Sort.ahead w m) g 0 d').heap[g]? = some (.cells (putCells id 0 (flatK enc sz d') cur) e (0,0)):=by
    simp only[putRowK,putRow,mapBlock,Sort.ahead,Array.getElem?_modify]
    rw[if_pos trivial]
    have:w.heap[g]? = some (.cells cur e (0,0)):=hB
    rw[this];rfl
  have hblk:Blk (sortWorldK enc sz w g 0 m d' os) g (putCells id 0 (flatK enc sz d') cur) e:=(hcell g hlt).trans hgb
  refine⟨⟨?_,fun k hk ho=>?_,fun k hk=>?_,?_,rfl,rfl,rfl⟩,hblk⟩
  · unfold sortWorldK;rw[size_grow,hsz];omega
  · have hne : k ≠ g := by
      intro ek;subst ek
      rcases ho with ho | ho
      · omega
      · exact ho hB.ty
    exact(hcell k hk).trans (hother k hne)
  · by_cases ek : k = g
    · subst ek;rw[hblk.ty,hB.ty]
    · exact B7 ((hcell k hk).trans (hother k ek))
  · exact Nat.le_refl _
theorem Ud {e:TypeId} {B B0:Nat} {w:World} {g n c:Nat} {xs:List α} (h:Own (Kind.pure sz enc hl h1) e B B0 w (some ⟨g,0,none⟩) n c xs) (hn:0<n) (m:Nat) (d':Array α) (hd:d'.size=n) (os:Array Obj) :
    Own (Kind.pure sz enc hl h1) e B B0 (sortWorldK enc sz w g 0 m d' os) (some ⟨g,0,none⟩) n c d'.toList∧Mod B0 e w (sortWorldK enc sz w g 0 m d' os):=by
  obtain⟨g',cur,css,e1,h2,h3,h4,h5,h6,ha,hlf,ht⟩:=h.block hn
  injection e1 with e1;injection e1 with e1;subst e1
  obtain⟨hm,hb⟩:=Qj (enc:=enc) (sz:=sz) h2 h3 m d' os
  have hz:(Kind.pure sz enc hl h1).sz=sz:=rfl
  have hnc:n * sz≤c * sz:=Nat.mul_le_mul_right _ h4
  refine⟨Own.remade h2 hb h4 h5 (by rw[hz] at h6 ⊢;simp[putCells,h6]) (by simp[hd]) (C6 B _ d'.toList) ?_,hm⟩
  rw[← U2 hl d',hz]
  have hs:(flatK enc sz d').size=n * sz:=by simp[hd]
  apply List.ext_getElem?
  intro j
  rw[List.getElem?_take]
  rw[hz] at h6
  by_cases hj:j<n * sz
  · rw [if_pos hj, Array.getElem?_toList, Array.getElem?_toList]
    have hjc:j<cur.size:=by omega
    simp only[putCells,Array.getElem?_mapIdx,Array.getElem?_eq_getElem hjc,Option.map_some]
    rw[if_pos ⟨Nat.zero_le _,by omega⟩,Nat.sub_zero,Array.getElem?_eq_getElem (show j<(flatK enc sz d').size by omega),getElem!_pos (flatK enc sz d') j (by omega)]
    rfl
  · rw[if_neg hj,Array.getElem?_toList,Array.getElem?_eq_none (by omega)]
end
theorem Rq:∀ (a b:List UInt8),lex a b=true→lex b a=false
  | x :: l, y :: m, h => by
    unfold lex at h ⊢
    by_cases e:x=y
    · rw[if_pos e] at h;rw[if_pos e.symm];exact Rq l m h
    · rw [if_neg e] at h; rw [if_neg (fun h => e h.symm)]
      simp only[decide_eq_true_eq,decide_eq_false_iff_not] at h ⊢
      rw[UInt8.lt_iff_toNat_lt] at h ⊢;omega
  | [],_,h=>by simp[lex] at h
  | _ :: _,[],h=>by simp[lex] at h
theorem Rn:∀ (a b c:List UInt8),lex a b=true→lex b c=true→lex a c=true
  | x :: l, y :: m, z :: n, h, k => by
    unfold lex at h k ⊢
    by_cases e:x=y
    · subst e
      rw[if_pos rfl] at h
      by_cases e2:x=z
      · rw[if_pos e2] at k ⊢;exact Rn l m n h k
      · rw[if_neg e2] at k ⊢;exact k
    · rw [if_neg e] at h
      by_cases e2:y=z
      · subst e2;rw[if_neg e];exact h
      · rw [if_neg e2] at k
        simp only[decide_eq_true_eq] at h k
        have h':=UInt8.lt_iff_toNat_lt.1 h
        have k':=UInt8.lt_iff_toNat_lt.1 k
        have e3:x≠z:=by intro e3;subst e3;omega
        rw[if_neg e3]
        simp only[decide_eq_true_eq]
        rw[UInt8.lt_iff_toNat_lt];omega
  | [],_,_,h,_=>by simp[lex] at h
  | _ :: _,[],_,h,_=>by simp[lex] at h
  | _ :: _,_ :: _,[],_,h=>by simp[lex] at h
theorem Ro:∀ (a b:List UInt8),a.length=b.length→a=b∨lex a b=true∨lex b a=true
  | x :: l, y :: m, h => by
    unfold lex
    by_cases e:x=y
    · subst e
      rw[if_pos rfl,if_pos rfl]
      rcases Ro l m (by simpa using h) with h | h | h
      · exact .inl (by rw[h])
      · exact .inr (.inl h)
      · exact .inr (.inr h)
    · rw [if_neg e, if_neg (fun h => e h.symm)]
      right
      simp only[decide_eq_true_eq,UInt8.lt_iff_toNat_lt]
      have:x.toNat≠y.toNat:=fun h=>e (UInt8.toNat_inj.1 h)
      omega
  | [],[],_ => .inl rfl
  | _ :: _,[],h=>by simp at h
  | [],_ :: _,h=>by simp at h
theorem Ru {a b:Hash} (h:hlt a b=true):hlt b a=false:=Rq _ _ h
theorem Mk {a b c:Hash} (h:hlt a b=true) (k:hlt b c=true):hlt a c=true:=Rn _ _ _ h k
theorem H6 (a b:Hash):a=b∨hlt a b=true∨hlt b a=true:=(Ro a.1 b.1 (by rw[a.2,b.2])).imp Subtype.ext id
theorem Wt {a b:Hash} (h:hlt a b=true):a≠b:=by intro e;subst e;rw[G6] at h;cases h
theorem J7 (a b:Hash):ltOf hcmp a b=hlt a b:=by
  unfold ltOf hcmp
  by_cases e:a=b
  · subst e;simp[G6]
  · rw [if_neg e]
    by_cases h:hlt a b=true
    · simp[h]
    · simp[h]
theorem Z7:SWO (ltOf hcmp) where
  irrefl:=fun x=>by rw[J7];exact G6 x
  trans:=fun x y z h k=>by rw[J7] at *;exact Mk h k
  ntrans:=fun x y z h k=>by
    rw[J7] at *
    rcases H6 x z with e | e | e
    · rw[e];exact G6 z
    · rcases H6 x y with e2 | e2 | e2
      · rw[e2] at e;rw[e] at k;cases k
      · rw[e2] at h;cases h
      · have:=Mk e2 e;rw[this] at k;cases k
    · exact Ru e
abbrev Rise (l:List Hash):Prop:=l.Pairwise (fun a b=>hlt a b=true)
theorem T3:∀ {l m:List Hash},Rise l→Rise m→(∀ h,h∈l↔h∈m)→l=m
  | [],[],_,_,_=>rfl
  | [],y :: m,_,_,h=>by have:=(h y).2 (by simp);simp at this
  | x :: l,[],_,_,h=>by have:=(h x).1 (by simp);simp at this
  | x :: l, y :: m, hl, hm, h => by
    have hl:=List.pairwise_cons.1 hl
    have hm:=List.pairwise_cons.1 hm
    have hxy:x=y:=by
      rcases List.mem_cons.1 ((h x).1 (by simp)) with e | e
      · exact e
      · rcases List.mem_cons.1 ((h y).2 (by simp)) with e2 | e2
        · exact e2.symm
        · have:=Ru (hl.1 y e2);rw[hm.1 x e] at this;cases this
    subst hxy
    congr 1
    refine T3 hl.2 hm.2 fun z=>?_
    constructor
    · intro hz
      rcases List.mem_cons.1 ((h z).1 (by simp[hz])) with e | e
      · exact absurd e.symm (Wt (hl.1 z hz))
      · exact e
    · intro hz
      rcases List.mem_cons.1 ((h z).2 (by simp[hz])) with e | e
      · exact absurd e.symm (Wt (hm.1 z hz))
      · exact e
def cpt (xs:List Hash):Nat→List Hash
  | 0=>[]
  | m+1=>if 0<m∧xs.getD m default=xs.getD (m - 1) default then cpt xs m else cpt xs m++[xs.getD m default]
theorem P6 {xs:List Hash} (hs:∀ i j,i<j→j<xs.length→hlt (xs.getD j default) (xs.getD i default)=false):∀ m,m≤xs.length →
    Rise (cpt xs m)∧(∀ h,h∈cpt xs m↔∃ i,i<m∧xs.getD i default=h)
  | 0,_=>⟨List.Pairwise.nil,fun h=>by simp[cpt]⟩
  | m + 1, hm => by
    obtain⟨h1,h2⟩:=P6 hs m (by omega)
    unfold cpt
    by_cases e:0<m∧xs.getD m default=xs.getD (m - 1) default
    · rw [if_pos e]
      refine⟨h1,fun h=>(h2 h).trans ⟨fun ⟨i,hi,e⟩=>⟨i,by omega,e⟩,fun ⟨i,hi,e2⟩=>?_⟩⟩
      by_cases hi2:i<m
      · exact⟨i,hi2,e2⟩
      · have : i = m := by omega
        subst this
        exact⟨i - 1,by omega,by rw[← e.2];exact e2⟩
    · rw [if_neg e]
      refine⟨List.pairwise_append.2 ⟨h1,by simp,fun a ha b hb=>?_⟩,fun h=>?_⟩
      · have hb' : b = xs.getD m default := by simpa using hb
        subst hb'
        obtain⟨i,hi,rfl⟩:=(h2 a).1 ha
        rcases H6 (xs.getD i default) (xs.getD m default) with e3 | e3 | e3
        · exfalso
          apply e
          refine⟨by omega,?_⟩
          by_cases hi2:i=m - 1
          · rw[← hi2];exact e3.symm
          · have k1 := hs i (m - 1) (by omega) (by omega)
            have k2:=hs (m - 1) m (by omega) (by omega)
            rw[e3] at k1
            rcases H6 (xs.getD m default) (xs.getD (m - 1) default) with e4 | e4 | e4
            · exact e4
            · rw[e4] at k2;cases k2
            · rw[e4] at k1;cases k1
        · exact e3
        · have:=hs i m hi (by omega);rw[e3] at this;cases this
      · rw [List.mem_append, h2]
        constructor
        · rintro (⟨i, hi, e3⟩ | e3)
          · exact⟨i,by omega,e3⟩
          · exact⟨m,by omega,(List.mem_singleton.1 e3).symm⟩
        · rintro ⟨i, hi, e3⟩
          by_cases hi2:i<m
          · exact .inl ⟨i,hi2,e3⟩
          · have : i = m := by omega
            subst this;right;exact List.mem_singleton.2 e3.symm
theorem L4 {xs:List Hash}:∀ m,m≤xs.length→(∀ i,0<i→i<m→xs.getD i default≠xs.getD (i - 1) default)→cpt xs m=xs.take m
  | 0,_,_=>rfl
  | m + 1, hm, h => by
    unfold cpt
    rw[if_neg (fun e=>h m e.1 (by omega) e.2),L4 m (by omega) (fun i h1 h2=>h i h1 (by omega)),List.take_succ_eq_append_getElem (by omega)]
    congr 2
    rw[List.getD_eq_getElem?_getD,List.getElem?_eq_getElem (by omega)];rfl
theorem Ab2 {xs:List Hash} {m:Nat} (h:0<m) (e:xs.getD m default=xs.getD (m - 1) default):cpt xs (m+1)=cpt xs m:=by
  conv=>lhs;unfold cpt
  rw[if_pos ⟨h,e⟩]
theorem Aey {xs:List Hash} {m:Nat} (e:xs.getD m default≠xs.getD (m - 1) default):cpt xs (m+1)=cpt xs m++[xs.getD m default]:=by
  conv=>lhs;unfold cpt
  rw[if_neg (fun h=>e h.2)]
theorem R5 {α:Type} {xs zs:List α} {a b:Nat} (h:zs.drop a=xs.drop a) (hab:a≤b):zs.drop b=xs.drop b:=by
  have e:b=a+(b - a):=by omega
  rw[e,← List.drop_drop,← List.drop_drop,h]
end
end Go.Proofs.Eng
end
section
set_option maxRecDepth 100000
set_option maxHeartbeats 4000000
namespace Go.Proofs.Eng
open Go.RowKit
open Extern.Stop (cell)
theorem mixed:Tryz.prog.follows .mixedOrders=true:=by kernel_rfl
theorem eg64:Tryz.prog.eqGuardType Tryz.prog.depth 64=false:=by kernel_rfl
theorem fb135:Tryz.f135.body.isNone=false:=by kernel_rfl
theorem fn135 : ngB Tryz.f135 = false := by kernel_rfl
theorem inf5:(Tryz.prog.info? 5).map (fun i=>(i.zero,i.size,i.bytes))=some (some (.int .u8 0),1,1):=by kernel_rfl
theorem inf64:(Tryz.prog.info? 64).map (fun i=>(i.zero,i.size,i.bytes))=some (some (.agg #[.int .u8 0,.int .u8 0,.int .u8 0,.int .u8 0,.int .u8 0,.int .u8 0,.int .u8 0,.int .u8 0,.int .u8 0,.int .u8 0,.int .u8 0,.int .u8 0,.int .u8 0,.int .u8 0,.int .u8 0,.int .u8 0,.int .u8 0,.int .u8 0,.int .u8 0,.int .u8 0,.int .u8 0,.int .u8 0,.int .u8 0,.int .u8 0,.int .u8 0,.int .u8 0,.int .u8 0,.int .u8 0,.int .u8 0,.int .u8 0,.int .u8 0,.int .u8 0]),32,32):=by kernel_rfl
theorem sz5:(Tryz.prog.info? 5).map (·.size)=some 1:=by kernel_rfl
theorem sz64:(Tryz.prog.info? 64).map (·.size)=some 32:=by kernel_rfl
theorem u180:Tryz.prog.underlying 180=some (.int .u64):=by kernel_rfl
theorem u23:Tryz.prog.underlying 23=some (.slice 5):=by kernel_rfl
theorem u5:Tryz.prog.underlying 5=some (.int .u8):=by kernel_rfl
theorem u54:Tryz.prog.underlying 54=some (.slice 64):=by kernel_rfl
theorem u64:Tryz.prog.underlying 64=some (.array 32 5):=by kernel_rfl
theorem u86:Tryz.prog.underlying 86=some (.int .u64):=by kernel_rfl
theorem u9:Tryz.prog.underlying 9=some (.string):=by kernel_rfl
theorem ua64:(Tryz.prog.underlying 64).map TypeDesc.isRow=some true:=by kernel_rfl
theorem un5:(Tryz.prog.underlying 5).map TypeDesc.isRow=some false:=by kernel_rfl
theorem us180:(Tryz.prog.underlying 180).isSome=true:=by kernel_rfl
theorem us3:(Tryz.prog.underlying 3).isSome=true:=by kernel_rfl
theorem us5:(Tryz.prog.underlying 5).isSome=true:=by kernel_rfl
end Go.Proofs.Eng
end
section
set_option maxRecDepth 100000
set_option maxHeartbeats 4000000
namespace Go.Proofs.Eng
open Go.RowKit
open Extern.Stop (cell)
theorem V9 (a b:Hash) (w:World) :
    Ret Tryz.prog 157 [.agg (hv a),.agg (hv b)] w (fun v w'=>v = .bool (hlt a b)∧Ext w w'):=by
 have hX:=Ext.refl w
 refine eN 24 Tryz.func157 ?_
 refine Ab (Aa ?_)
 refine Bu (by conv=>lhs;whnf) ?_
 intro w1 g2 hN2
 have hE1:=hN2.ext
 have hX:=hX.ext hE1
 have hB2:=hN2.blk
 refine Bu (by conv=>lhs;whnf) ?_
 intro w2 g3 hN3
 have hE2:=hN3.ext
 have hX:=hX.ext hE2
 have hB2:=hB2.ext hE2
 have hB3:=hN3.blk
 refine pA (Ac (t_n (Ab (Ab (Aa ?_)))))
 refine pA (Ac (t_n (Ap ?_)))
 have hWL0:=Ext.refl w2
 refine Bc (ι:=Nat) (rg 4 20) (fun k=>[(5,.int .i64 (k:Int))]) (fun k w'=>Ext w2 w'∧(k≤32∧∀ i,i<k→a.1.getD i 0=b.1.getD i 0)) (fun k=>32 - k) (0) ⟨rfl,trivial⟩ ⟨Ext.refl _,⟨by omega,fun i hi=>by omega⟩⟩ ?_
 rintro k GL0 w3 ⟨hE3,hk,hL⟩
 have hX:=hX.ext hE3
 have hB2:=hB2.ext hE3
 have hB3:=hB3.ext hE3
 have hWL0:=hE3
 refine Ab (Ab (Aa ?_))
 refine pM ?_
 refine p1 (Bi rfl rfl) ?_
 refine Ac (t_n ?_)
 refine As rfl (fun hc7=>?_) (fun hc7=>?_)
 ·refine Ak (t_n (Ab (Ap (Ab ?_))))
  refine Cy mixed (by kernel_rfl) ?_
  intro w4 hE4
  have hX:=hX.ext hE4
  have hB2:=hB2.ext hE4
  have hB3:=hB3.ext hE4
  have hWL0:=hWL0.ext hE4
  refine s1 (Af (by conv=>lhs;whnf)) ?_
  refine s1 (A6 u64 sz5 rfl rfl (by omega)) ?_
  refine s1 (Ae un5 rfl (hB2.cell (Io a _ (by omega)))) ?_
  refine s1 (Af (by conv=>lhs;whnf)) ?_
  refine s1 (A6 u64 sz5 rfl rfl (by omega)) ?_
  refine s1 (Ae un5 rfl (hB3.cell (Io b _ (by omega)))) ?_
  refine s1 (A2 rfl rfl) ?_
  refine Bx (t_n ?_)
  refine As rfl (fun hc16=>?_) (fun hc16=>?_)
  ·have hne:a.1.getD k 0≠b.1.getD k 0:=fun e=>hc16 (Ga.2 e)
   refine Ab ?_
   refine Cy mixed (by kernel_rfl) ?_
   intro w5 hE5
   have hX:=hX.ext hE5
   have hB2:=hB2.ext hE5
   have hB3:=hB3.ext hE5
   refine s1 (Af (by conv=>lhs;whnf)) ?_
   refine s1 (A6 u64 sz5 rfl rfl (by omega)) ?_
   refine s1 (Ae un5 rfl (hB2.cell (Io a _ (by omega)))) ?_
   refine s1 (Af (by conv=>lhs;whnf)) ?_
   refine s1 (A6 u64 sz5 rfl rfl (by omega)) ?_
   refine s1 (Ae un5 rfl (hB3.cell (Io b _ (by omega)))) ?_
   refine s1 (Bi rfl rfl) ?_
   refine s1 (Ah (by conv=>lhs;whnf)) ?_
   refine Bx (t_n (Ao (b_r (t_r (t_r (b_r (t_r ?_)))))))
   refine eR1 ?_
   exact⟨by rw[Sz k (by omega) hL hne,R7],hX⟩
  have h1:a.1.getD k 0=b.1.getD k 0:=Ga.1 (Classical.byContradiction hc16)
  refine Ak (b_n (t_n (Aa ?_)))
  refine pM ?_
  refine p1 (A0 rfl rfl (Am (by omega) (by omega))) ?_
  refine pA (Ac ?_)
  refine t_n (aK (k+1) ⟨rfl,trivial⟩ ?_)
  exact⟨⟨hWL0,⟨by omega,fun i hi=>if h:i<k then hL i h else by rw[show i=k from by omega];exact h1⟩⟩,by((show _<_);omega)⟩
 have hab:a=b:=G7 (fun i hi=>hL i (by omega))
 refine A8 (t_e (t_e (Bq (t_n (Ab (Aa ?_))))))
 refine pA (Ac (t_n (Ao ?_)))
 refine eR1 ?_
 exact⟨by rw[hab,G6],hX⟩
theorem V6 (xs ys:List Hash) (B B2:Nat) (p q:Option Addr) (n c m c2:Nat) (w:World) (ha:Sl kHash 64 B w p n c xs) (hb:Sl kHash 64 B2 w q m c2 ys) :
    Ret Tryz.prog 75 [.slice p n c,.slice q m c2] w (fun v w'=>v = .bool (decide (xs=ys))∧Ext w w'):=by
 have hX:=Ext.refl w
 refine eN 26 Tryz.func75 ?_
 refine Ab (Aa ?_)
 refine pA (Ac (t_n (Ab (Ab (Aa ?_)))))
 refine pM ?_
 refine p1 (Ar u54 rfl) ?_
 refine pM ?_
 refine p1 (Ar u54 rfl) ?_
 refine p1 (A2 rfl rfl) ?_
 refine Ac (t_n ?_)
 refine As rfl (fun hc10=>?_) (fun hc10=>?_)
 ·have hp:decide (xs=ys)=false:=decide_eq_false (fun e=>hc10 (by have h1:=ha.len;have h2:=hb.len;rw[e] at h1;omega))
  refine Ab (Aa ?_)
  refine pA (Ac (t_n (Ao (t_r ?_))))
  refine eR1 ?_
  exact⟨by rw[hp],hX⟩
 refine Ak (t_n (Ab (Ab (Aa ?_))))
 refine pA (Ac (t_n (Ap ?_)))
 have hWL0:=Ext.refl w
 have hlen:=ha.len
 have hlen2:=hb.len
 have hfit:=ha.fit
 have hcap:=ha.cap
 refine Bc (ι:=Nat) ([4,5]++rg 11 15) (fun k=>[(5,.int .i64 (k:Int))]) (fun k w'=>Ext w w'∧(k≤n∧∀ i,i<k→xs.getD i default=ys.getD i default)) (fun k=>n - k) (0) ⟨rfl,trivial⟩ ⟨Ext.refl _,⟨by omega,fun i hi=>by omega⟩⟩ ?_
 rintro k GL0 w1 ⟨hE1,hk,hL⟩
 have hX:=hX.ext hE1
 have hWL0:=hE1
 refine Ab (Ab (Aa ?_))
 refine pM (pM ?_)
 refine p1 (Ar u54 rfl) ?_
 refine p1 (Bi rfl rfl) ?_
 refine Ac (t_n ?_)
 refine As rfl (fun hc14=>?_) (fun hc14=>?_)
 ·refine Ak (t_n (Ab (Ap (Ab ?_))))
  refine Cy mixed (by kernel_rfl) ?_
  intro w2 hE2
  have hX:=hX.ext hE2
  have hWL0:=hWL0.ext hE2
  refine s1 (Af (by conv=>lhs;whnf)) ?_
  refine s1 (Af (by conv=>lhs;whnf)) ?_
  refine s1 (Cs u54 sz64 rfl rfl ((ha.ext hX).adr A5 (by omega)) (by omega) (by omega)) ?_
  refine s1 (Cb ua64 rfl (Gc sz64 _) ((ha.ext hX).hashAt _ (by omega) (by omega))) ?_
  refine s1 (Af (by conv=>lhs;whnf)) ?_
  refine s1 (Af (by conv=>lhs;whnf)) ?_
  refine s1 (Cs u54 sz64 rfl rfl ((hb.ext hX).adr A5 (by omega)) (by omega) (by omega)) ?_
  refine s1 (Cb ua64 rfl (Gc sz64 _) ((hb.ext hX).hashAt _ (by omega) (by omega))) ?_
  refine s1 (M3 u64 u5 sz5 eg64 rfl rfl (xs.getD _ default).2 (ys.getD _ default).2) ?_
  refine Bx (t_n ?_)
  refine As rfl (fun hc25=>?_) (fun hc25=>?_)
  ·have hp:decide (xs=ys)=false:=decide_eq_false (fun e=>hc25 (by rw[e]))
   refine Ab (Aa ?_)
   refine pA (Ac (t_n (Ao (b_r (t_r (t_r (b_r (t_r ?_))))))))
   refine eR1 ?_
   exact⟨by rw[hp],hX⟩
  have h1:xs.getD k default=ys.getD k default:=Subtype.ext (Classical.byContradiction hc25)
  refine Ak (b_n (t_n (Aa ?_)))
  refine pM ?_
  refine p1 (A0 rfl rfl (Am (by omega) (by omega))) ?_
  refine pA (Ac ?_)
  refine t_n (aK (k+1) ⟨rfl,trivial⟩ ?_)
  exact⟨⟨hWL0,⟨by omega,fun i hi=>if h:i<k then hL i h else by rw[show i=k from by omega];exact h1⟩⟩,by((show _<_);omega)⟩
 have hp:decide (xs=ys)=true:=decide_eq_true (Pg (by omega) (fun i hi=>hL i (by omega)))
 refine A8 (t_e (t_e (Bq (t_n (Ab (Aa ?_))))))
 refine pA (Ac (t_n (Ao ?_)))
 refine eR1 ?_
 exact⟨by rw[hp],hX⟩
end Go.Proofs.Eng
end
section
namespace Go.Proofs.EngD
open Go.RowKit
def sp : Nat := 1000000007
def upd (f : Nat → Value) (d : Nat) (v : Value) : Nat → Value := fun t => bif Nat.beq t d then (bif Nat.beq d sp then f t else v) else f t
def updR (f : Nat → Value) (d : Nat) (v : Value) : Nat → Value := fun t => bif Nat.beq t d then v else f t
def dec1 : Value → Deferred
  | .int _ k => { target := .collected k.toNat, args := #[] }
  | .func g first captured => { target := .fn g captured, args := first }
  | _ => { target := .nil, args := #[] }
def decD : Value → List Deferred
  | .tuple vs => vs.toList.map dec1
  | _ => []
def fr (n : Nat) (f : Nat → Value) : Act := ⟨Array.ofFn (fun i : Fin (min n sp) => f i), decD (f sp)⟩
def ev (n : Nat) (f : Nat → Value) : Operand → Value
  | .tmp t => bif (Nat.blt t n && Nat.blt t sp) then f t else undef
  | .const v => v
  | .global g => .pointer (some ⟨g, 0, none⟩)
  | .func g => .func (.func g) #[] #[]
theorem Vf {a b : Nat} (h : a < b) : Nat.blt a b = true := by rw [Nat.blt_eq]; exact h
theorem Vg {a b : Nat} (h : ¬ a < b) : Nat.blt a b = false := by
  cases hb : Nat.blt a b
  · rfl
  · rw [Nat.blt_eq] at hb; exact absurd hb h
theorem Qc {a b : Nat} (h : ¬ a = b) : Nat.beq a b = false := by
  cases hb : Nat.beq a b
  · rfl
  · exact absurd (Nat.eq_of_beq_eq_true hb) h
theorem U4 {n : Nat} {f : Nat → Value} {t : Nat} (h : t < min n sp) : ev n f (.tmp t) = f t := by
  show (bif (Nat.blt t n && Nat.blt t sp) then f t else undef) = f t
  rw [Vf (by omega : t < n), Vf (by omega : t < sp)]; rfl
theorem X4 {n : Nat} {f : Nat → Value} {t : Nat} (h : ¬ t < min n sp) : ev n f (.tmp t) = undef := by
  show (bif (Nat.blt t n && Nat.blt t sp) then f t else undef) = undef
  by_cases h1 : t < n
  · rw [Vg (by omega : ¬ t < sp), Bool.and_false]; rfl
  · rw [Vg h1, Bool.false_and]; rfl
theorem Ic (n : Nat) (f : Nat → Value) (t : Nat) : (fr n f).tmps[t]? = if t < min n sp then some (f t) else none := by
  show (Array.ofFn (fun i : Fin (min n sp) => f i))[t]? = _
  rw [Array.getElem?_ofFn]
  by_cases h : t < min n sp <;> simp only [h, dif_pos, if_pos, dif_neg, if_neg, not_false_eq_true]
theorem Bn (n : Nat) (f : Nat → Value) : (fr n f).eval = ev n f := by
  funext x
  cases x with
  | tmp t =>
    have h : (fr n f).eval (.tmp t) = ((fr n f).tmps[t]?).getD undef := by simp [Act.eval]
    rw [h, Ic]
    by_cases ht : t < min n sp
    · rw [U4 ht, if_pos ht]; rfl
    · rw [X4 ht, if_neg ht]; rfl
  | const v => rfl
  | global g => rfl
  | func g => rfl
theorem Vq (f : Nat → Value) (d : Nat) (v : Value) (hd : ¬ d = sp) : upd f d v d = v := by
  show (bif Nat.beq d d then (bif Nat.beq d sp then f d else v) else f d) = v
  rw [Nat.beq_refl, Qc hd]; rfl
theorem Kw {f : Nat → Value} {d : Nat} {v : Value} {t : Nat} (h : ¬ t = d) : upd f d v t = f t := by
  show (bif Nat.beq t d then _ else f t) = f t
  rw [Qc h]; rfl
theorem Vp (f : Nat → Value) (d : Nat) (v : Value) : upd f d v sp = f sp := by
  by_cases h : sp = d
  · subst h
    show (bif Nat.beq sp sp then (bif Nat.beq sp sp then f sp else v) else f sp) = f sp
    rw [Nat.beq_refl]; rfl
  · exact Kw h
theorem Jv (f : Nat → Value) (d : Nat) (v : Value) : updR f d v d = v := by
  show (bif Nat.beq d d then v else f d) = v
  rw [Nat.beq_refl]; rfl
theorem K6 {f : Nat → Value} {d : Nat} {v : Value} {t : Nat} (h : ¬ t = d) : updR f d v t = f t := by
  show (bif Nat.beq t d then v else f t) = f t
  rw [Qc h]; rfl
theorem Du (n : Nat) (f : Nat → Value) (d : Nat) (v : Value) : (fr n f).put (some d) v = fr n (upd f d v) := by
  unfold fr Act.put
  simp only [Act.mk.injEq, Vp, and_true]
  apply Array.ext (by simp)
  intro i h1 h2
  have hi : i < min n sp := by simpa using h2
  simp only [Array.getElem_ofFn]
  by_cases h : d = i
  · subst h; rw [Vq _ _ _ (by omega)]; simp
  · rw [Kw (fun e => h e.symm)]
    have e : ((Array.ofFn (fun i : Fin (min n sp) => f i)).setIfInBounds d v)[i]? = some (f i) := by rw [Array.getElem?_setIfInBounds_ne h, Array.getElem?_ofFn, dif_pos hi]
    rw [Array.getElem?_eq_getElem (by simpa using hi)] at e
    exact Option.some.inj e
theorem L1 {P : Program} {g : FuncId} {fn : Func} {c : Code} {w : World} {R : Ending → World → Prop} (n : Nat) (vs : List Value)
    (hf : P.funcs[g]? = some fn) (hb : fn.body = some c) (hn : fn.ntmps = n) (hl : vs.length ≤ min n sp) (hn2 : min n sp = n)
    (h : c.wp P (bodyPost P fn R) (fr n (fun t => vs.getD t undef)) w) : Calls P g vs.toArray w R := by
  refine calls_of_wp hf hb ?_
  subst hn
  have e : ({ tmps := vs.toArray ++ Array.replicate (fn.ntmps - vs.toArray.size) undef, defers := [] } : Act) = fr fn.ntmps (fun t => vs.getD t undef) := by
    unfold fr
    have hD : decD (vs.getD sp undef) = [] := by
      rw [List.getD_eq_getElem?_getD, List.getElem?_eq_none (by omega)]; rfl
    rw [hD]
    congr 1
    apply Array.ext (by simp only [Array.size_append, List.size_toArray, Array.size_replicate, Array.size_ofFn]; omega)
    intro i h1 h2
    simp only [Array.getElem_ofFn, Array.getElem_append, List.size_toArray]
    by_cases hi : i < vs.length
    · simp [hi]
    · simp [hi]
  rw [e]; exact h
structure Ret (P : Program) (g : FuncId) (vs : List Value) (w : World) (R : Value → World → Prop) : Prop where
  mk :: (out : Calls P g vs.toArray w fun e w' => ∃ v, e = .returned v ∧ R v w')
structure Wp (P : Program) (c : Code) (Q : Exit → Act → World → Prop) (a : Act) (w : World) : Prop where
  mk :: (out : c.wp P Q a w)
structure Lst (P : Program) (ops : Array Oper) (Q : Exit → Act → World → Prop) (l : List Oper) (a : Act) (w : World) : Prop where
  mk :: (out : wpList P ops Q l a w)
structure St (P : Program) (ops : Array Oper) (w : World) (K : Act → Prop) (l : List Oper) (a : Act) : Prop where
  mk :: (out : wpStill P ops w K l a)
structure End (P : Program) (fn : Func) (R : Value → World → Prop) (e : Exit) (a : Act) (w : World) : Prop where
  mk :: (out : bodyPost P fn (fun e w' => ∃ v, e = .returned v ∧ R v w') e a w)
theorem enter {P : Program} {g : FuncId} {fn : Func} {c : Code} {w : World} {R : Value → World → Prop} (n : Nat) (vs : List Value)
    (hf : P.funcs[g]? = some fn) (hb : fn.body = some c) (hn : fn.ntmps = n) (hl : vs.length ≤ min n sp) (hn2 : min n sp = n)
    (h : Wp P c (End P fn R) (fr n (fun t => vs.getD t undef)) w) : Ret P g vs w R := ⟨L1 n vs hf hb hn hl hn2 (wp_mono h.out fun _ _ _ k => k.out)⟩
theorem end1 {P : Program} {fn : Func} {R : Value → World → Prop} {n : Nat} {f : Nat → Value} {w : World} {t : Nat} {v : Value} (hr : fn.results = #[.tmp t]) (hv : ev n f (.tmp t) = v) (h : R v w) (hd : decD (f sp) = [] := by rfl) :
    End P fn R .ret (fr n f) w := by
  refine ⟨bodyPost_ret (results_tmp hr _ _ _) hd ⟨v, ?_, h⟩⟩
  rw [← hv, ← Bn]; rfl
def Ex (P : Program) (w : World) (n : Nat) (f : Nat → Value) (o : Oper) (v : Value) : Prop := (execOp (ev n f) o).run P w = .ok (.value v) w
section steps
variable {P : Program} {ops : Array Oper} {Q : Exit → Act → World → Prop} {rest : List Oper} {n : Nat} {f : Nat → Value} {w : World}
variable {op : Op} {ty : TypeId} {pos : String} {aft : Array Edge} {d : Nat} {v : Value}
theorem p1 (h : Ex P w n f ⟨some d, op, ty, pos, aft, none⟩ v) (k : Lst P ops Q rest (fr n (upd f d v)) w) : Lst P ops Q (⟨some d, op, ty, pos, aft, none⟩ :: rest) (fr n f) w :=
  ⟨wpList_plain rfl fun K hK => by
    unfold Oper.wp
    rw [Bn, h, Oper.upon_value, Du]
    exact hK _ _ k.out⟩
end steps
end Go.Proofs.EngD
end
section
namespace Go.Proofs.EngD
open Go.RowKit
section ops
variable {P : Program} {w : World} {n : Nat} {f : Nat → Value} {dst : Option Nat} {ty : TypeId} {pos : String} {aft : Array Edge} {gd : Option (Nat × Bool)}
variable {x y z : Operand} {v u : Value} {k : IntKind} {a b : Int} {T T' : TypeId}
theorem Af (h : ev n f x = v) : Ex P w n f ⟨dst, .move x, ty, pos, aft, gd⟩ v := by subst h; rfl
theorem Ah (h : ev n f x = v) : Ex P w n f ⟨dst, .assign x, ty, pos, aft, gd⟩ v := by subst h; rfl
theorem Ci {op : BinOp} {r : Value} (hx : ev n f x = v) (hy : ev n f y = u) (hg : (eqGuard op T x y v u).run P w = .ok () w) (h : (binOp op T v u).run P w = .ok r w) : Ex P w n f ⟨dst, .binOp op T x y T', ty, pos, aft, gd⟩ r := by
  unfold Ex execOp
  subst hx hy
  simp only [Sem.run_bind, hg, h, Result.andThen_ok]
  rfl
theorem Cf {op : BinOp} (k k' : IntKind) : (eqGuard op T x y (.int k a) (.int k' b)).run P w = .ok () w := by cases op <;> rfl
-- arithmetic, wrapped
theorem C8 (hx : ev n f x = .int k a) (hy : ev n f y = .int k b) : Ex P w n f ⟨dst, .binOp .add T x y T', ty, pos, aft, gd⟩ (.int k (k.wrap (a + b))) :=
  Ci hx hy (Cf k k) (by simp [binOp, Op.intArith])
def Fits (k : IntKind) (a : Int) : Prop := k.wrap a = a
theorem Am {a : Int} (h1 : -9223372036854775808 ≤ a) (h2 : a ≤ 9223372036854775807) : Fits .i64 a := by
  unfold Fits IntKind.wrap; simp [IntKind.bits, IntKind.signed, IntKind.max]; omega
theorem A0 (hx : ev n f x = .int k a) (hy : ev n f y = .int k b) (h : Fits k (a + b)) : Ex P w n f ⟨dst, .binOp .add T x y T', ty, pos, aft, gd⟩ (.int k (a + b)) := by
  have := C8 (P := P) (w := w) (dst := dst) (T := T) (T' := T') (ty := ty) (pos := pos) (aft := aft) (gd := gd) hx hy
  rwa [h] at this
-- comparisons of numbers
theorem Bi (hx : ev n f x = .int k a) (hy : ev n f y = .int k b) : Ex P w n f ⟨dst, .binOp .lss T x y T', ty, pos, aft, gd⟩ (.bool (decide (a < b))) :=
  Ci hx hy (Cf k k) (by simp [binOp, Op.intCmp])
theorem Bw (hx : ev n f x = .int k a) (hy : ev n f y = .int k b) : Ex P w n f ⟨dst, .binOp .eql T x y T', ty, pos, aft, gd⟩ (.bool (decide (a = b))) :=
  Ci hx hy (Cf k k) (by
    simp only [binOp, ne_eq, not_true_eq_false, if_false, Op.intCmp, Sem.run_pure]
    congr 2)
-- texts
end ops
end Go.Proofs.EngD
end
section
namespace Go.Proofs.EngD
open Go.RowKit
def drw (w : World) : Nat := w.drawn
structure Ext (w w' : World) : Prop where
  size : w.heap.size ≤ w'.heap.size
  old : ∀ k, k < w.heap.size → w'.heap[k]? = w.heap[k]?
  os : w'.os = w.os
  tape : w'.tape = w.tape
  output : w'.output = w.output
  drawn : drw w ≤ drw w'
theorem Ext.refl (w : World) : Ext w w := ⟨Nat.le_refl _, fun _ _ => rfl, rfl, rfl, rfl, Nat.le_refl _⟩
theorem Ext.trans {a b c : World} (h : Ext a b) (k : Ext b c) : Ext a c :=
  ⟨Nat.le_trans h.size k.size, fun i hi => (k.old i (Nat.lt_of_lt_of_le hi h.size)).trans (h.old i hi), k.os.trans h.os, k.tape.trans h.tape, k.output.trans h.output, Nat.le_trans h.drawn k.drawn⟩
theorem Ext.ext {a b c : World} (h : Ext a b) (k : Ext b c) : Ext a c := h.trans k
theorem Ext.drew (w : World) : Ext w w.drew := ⟨Nat.le_refl _, fun _ _ => rfl, rfl, rfl, rfl, Nat.le_succ _⟩
theorem Ext.alloc (w : World) (o : Obj) : Ext w (w.alloc o) := ⟨by simp, fun k hk => Below.heap_alloc w o k hk, rfl, rfl, rfl, Nat.le_refl _⟩
def Blk (w : World) (g : Nat) (cs : Array Value) (t : TypeId) : Prop := w.heap[g]? = some (.cells cs t (0, 0))
theorem Blk.lt {w : World} {g : Nat} {cs : Array Value} {t : TypeId} (h : Blk w g cs t) : g < w.heap.size := (Array.getElem?_eq_some_iff.1 h).1
theorem Blk.ext {w w' : World} {g : Nat} {cs : Array Value} {t : TypeId} (h : Blk w g cs t) (e : Ext w w') : Blk w' g cs t := (e.old g h.lt).trans h
theorem Blk.cell {w : World} {g : Nat} {cs : Array Value} {t : TypeId} (h : Blk w g cs t) {i : Nat} {v : Value} (hv : cs[i]? = some v) : w.cell? ⟨g, i, none⟩ = some v := by
  rw [cell_of_row w g i cs t (0, 0) h]; exact hv
theorem Blk.range {w : World} {g : Nat} {cs : Array Value} {t : TypeId} (h : Blk w g cs t) : w.rangeAt g 0 cs.toList := by
  intro j v hj
  rw [Nat.zero_add]
  exact h.cell (by simpa using hj)
theorem Blk.fresh (w : World) (cs : Array Value) (t : TypeId) : Blk (w.alloc (.cells cs t)) w.heap.size cs t := heap_alloc_new w _
section control
variable {P : Program} {Q : Exit → Act → World → Prop} {K : Act → World → Prop} {a : Act} {w : World} {n : Nat} {f : Nat → Value}
theorem t_n (h : K a w) : Exit.then K Q .normal a w := h
theorem t_e {i : Nat} (h : Q (.exit i) a w) : Exit.then K Q (.exit i) a w := h
theorem t_r (h : Q .ret a w) : Exit.then K Q .ret a w := h
theorem b_n {i : Nat} (h : Q .normal a w) : Exit.inBlock i Q .normal a w := h
theorem Bq {i : Nat} (h : Q .normal a w) : Exit.inBlock i Q (.exit i) a w := by show (if i = i then Q .normal a w else Q (.exit i) a w); rw [if_pos rfl]; exact h
theorem b_r {i : Nat} (h : Q .ret a w) : Exit.inBlock i Q .ret a w := h
theorem Ab {x y : Code} (h : Wp P x (Exit.then (Wp P y Q) Q) a w) : Wp P (Code.seq x y) Q a w :=
  ⟨wp_seq (wp_mono h.out fun e a w hq => by cases e <;> first | exact Wp.out hq | exact hq)⟩
theorem Ak (h : Q .normal a w) : Wp P .skip Q a w := ⟨wp_skip h⟩
theorem Ao (h : Q .ret a w) : Wp P .ret Q a w := ⟨wp_ret h⟩
theorem A8 {i : Nat} (h : Q (.exit i) a w) : Wp P (.exit i) Q a w := ⟨wp_exit h⟩
theorem Ap {i : Nat} {c : Code} (h : Wp P c (Exit.inBlock i Q) a w) : Wp P (.block i c) Q a w := ⟨wp_block h.out⟩
theorem Dm {c : Operand} {x y : Code} {b : Bool} (hc : ev n f c = .bool b) (ht : b = true → Wp P x Q (fr n f) w) (hf : b = false → Wp P y Q (fr n f) w) : Wp P (Code.cond c x y) Q (fr n f) w :=
  ⟨wp_cond_split (t := b) (by rw [Bn]; exact hc) (fun h => (ht h).out) (fun h => (hf h).out)⟩
theorem As {c : Operand} {x y : Code} {p : Prop} [Decidable p] (hc : ev n f c = .bool (decide p)) (ht : p → Wp P x Q (fr n f) w) (hf : ¬ p → Wp P y Q (fr n f) w) : Wp P (Code.cond c x y) Q (fr n f) w :=
  Dm hc (fun h => ht (of_decide_eq_true h)) (fun h => hf (of_decide_eq_false h))
def hav (f : Nat → Value) (C : List Nat) (g : Nat → Value) : Nat → Value := fun t => bif C.elem t then g t else f t
def updL (f : Nat → Value) : List (Nat × Value) → Nat → Value
  | [] => f
  | (d, v) :: l => updR (updL f l) d v
def hold (f : Nat → Value) : List (Nat × Value) → Prop
  | [] => True
  | (d, v) :: l => f d = v ∧ hold f l
def Agr (C : List Nat) (F f : Nat → Value) : Prop := ∀ t, C.elem t = false → F t = f t
theorem Agr.refl (C : List Nat) (f : Nat → Value) : Agr C f f := fun _ _ => rfl
theorem Agr.hav (C : List Nat) (f g : Nat → Value) : Agr C (hav f C g) f := fun t h => by show (bif C.elem t then g t else f t) = f t; rw [h]; rfl
theorem Agr.upd {C : List Nat} {F f : Nat → Value} {d : Nat} {v : Value} (hd : C.elem d = true) (h : Agr C F f) : Agr C (upd F d v) f := fun t ht => by
  rw [Kw (fun e => by subst e; rw [hd] at ht; cases ht)]; exact h t ht
theorem Hu {F : Nat → Value} : ∀ (l : List (Nat × Value)), hold F l → updL F l = F
  | [], _ => rfl
  | (d, v) :: l, h => by
    have ih := Hu l h.2
    funext t
    show EngD.updR (updL F l) d v t = F t
    rw [ih]
    by_cases e : t = d
    · subst e; rw [Jv]; exact h.1.symm
    · rw [K6 e]
theorem Pk {C : List Nat} {F f : Nat → Value} (h : Agr C F f) : EngD.hav f C F = F := by
  funext t
  show (bif C.elem t then F t else f t) = F t
  cases hc : C.elem t
  · exact (h t hc).symm
  · rfl
theorem Je {C : List Nat} {F f : Nat → Value} {l : List (Nat × Value)} (ha : Agr C F f) (hh : hold F l) : fr n F = fr n (updL (EngD.hav f C F) l) := by
  rw [Pk ha, Hu l hh]
def At (n : Nat) (f : Nat → Value) (C : List Nat) {ι : Type} (L : ι → List (Nat × Value)) (I : ι → World → Prop) (a : Act) (w : World) : Prop := ∃ i F, a = fr n F ∧ Agr C F f ∧ hold F (L i) ∧ I i w
theorem At.mk {C : List Nat} {ι : Type} {L : ι → List (Nat × Value)} {I : ι → World → Prop} {F : Nat → Value} (i : ι) (ha : Agr C F f) (hh : hold F (L i)) (hI : I i w) : At n f C L I (fr n F) w := ⟨i, F, rfl, ha, hh, hI⟩
theorem Bc {c : Code} {ι : Type} (C : List Nat) (L : ι → List (Nat × Value)) (I : ι → World → Prop) (μ : ι → Nat) (i0 : ι) (hh : hold f (L i0)) (h0 : I i0 w)
    (round : ∀ i g w, I i w → Wp P c (Exit.then (At n f C L fun i' w' => I i' w' ∧ μ i' < μ i) Q) (fr n (updL (EngD.hav f C g) (L i))) w) : Wp P (Code.loop c) Q (fr n f) w := by
  refine ⟨?_⟩
  intro b k cs
  have key : ∀ m i F w, μ i = m → Agr C F f → hold F (L i) → I i w →
      ∃ e a' w', Q e a' w' ∧ Arrives P (lone (b.at (fr n F) (.code c :: .inLoop c :: k)) cs w) b k cs e a' w' := by
    intro m
    induction m using Nat.strongRecOn with
    | _ m ih =>
      intro i F w hm hA hH hI
      have hr := round i F w hI
      rw [← Je (n := n) hA hH] at hr
      obtain ⟨e, a₁, w₁, hq, harr⟩ := hr.out b (.inLoop c :: k) cs
      cases e with
      | normal =>
        obtain ⟨i', F', rfl, hA', hH', hI', hlt⟩ := hq
        obtain ⟨e₂, a₂, w₂, hq₂, harr₂⟩ := ih (μ i') (hm ▸ hlt) i' F' w₁ rfl hA' hH' hI'
        exact ⟨e₂, a₂, w₂, hq₂, .of_steps (Steps.trans harr (.one step_inLoop)) harr₂⟩
      | exit id => exact ⟨_, a₁, w₁, hq, .pass (x := .inLoop c) rfl (fun _ _ => .inl (by simp)) harr⟩
      | goto l => exact ⟨_, a₁, w₁, hq, .pass (x := .inLoop c) rfl (fun _ _ => .inl (by simp)) harr⟩
      | ret => exact ⟨_, a₁, w₁, hq, .pass (x := .inLoop c) rfl (fun _ _ => .inl (by simp)) harr⟩
      | panic ch => exact ⟨_, a₁, w₁, hq, .pass (x := .inLoop c) rfl (fun _ _ => .inl (by simp)) harr⟩
      | outgrown => exact ⟨_, a₁, w₁, hq, .pass (x := .inLoop c) rfl (fun _ _ => .inl (by simp)) harr⟩
  obtain ⟨e, a', w', hq, harr⟩ := key _ i0 f w rfl (Agr.refl _ _) hh h0
  exact ⟨e, a', w', hq, .of_steps (.one step_loop) harr⟩
end control
end Go.Proofs.EngD
end
section
namespace Go.Proofs.EngD
open Go.RowKit
section ops
variable {P : Program} {w : World} {n : Nat} {f : Nat → Value} {dst : Option Nat} {ty : TypeId} {pos : String} {aft : Array Edge} {gd : Option (Nat × Bool)}
variable {x y z : Operand} {v u : Value} {k : IntKind} {a b : Int} {T T' : TypeId}
theorem Oa {d : TypeDesc} (hu : P.underlying T = some d) (hd : d.isRow = false) : (isAgg T).run P w = .ok false w := by
  unfold isAgg
  rw [Sem.run_bind, run_underlying hu w]
  cases d <;> simp_all [TypeDesc.isRow]
theorem H2 {d : TypeDesc} (hu : P.underlying T = some d) (hd : d.isRow = false) {p : Addr} (hc : w.cell? p = some v) : (loadVar T p).run P w = .ok v w := by
  simp [loadVar, Sem.run_bind, Oa (w := w) hu hd, load, Sem.run, hc]
theorem Ae (hu : (P.underlying T).map TypeDesc.isRow = some false) {p : Addr} (hx : ev n f x = .pointer (some p)) (hc : w.cell? p = some v) :
    Ex P w n f ⟨dst, .load T x, ty, pos, aft, gd⟩ v := by
  obtain ⟨d, hu, hd⟩ := Option.map_eq_some_iff.1 hu
  unfold Ex execOp
  simp only [hx, Instr.loadAt, Instr.sureAddr, Sem.run_bind, Sem.run_pure, Result.andThen_ok, H2 hu hd hc]
theorem Cb (hu : (P.underlying T).map TypeDesc.isRow = some true) {b o : Nat} (hx : ev n f x = .pointer (some ⟨b, o, none⟩)) {cs : List Value} (hi : (P.info? T).map (·.size) = some cs.length) (hc : w.rangeAt b o cs) :
    Ex P w n f ⟨dst, .load T x, ty, pos, aft, gd⟩ (.agg cs.toArray) := by
  obtain ⟨d, hu, hd⟩ := Option.map_eq_some_iff.1 hu
  unfold Ex execOp
  simp only [hx, Instr.loadAt, Instr.sureAddr, Sem.run_bind, Sem.run_pure, Result.andThen_ok, run_loadVar_mid w b o T cs d hc hu hd hi]
theorem Aq (hu : (P.underlying T).map TypeDesc.isRow = some true) {g : Nat} (hx : ev n f x = .pointer (some ⟨g, 0, none⟩)) {cs : Array Value} {t : TypeId} (hB : Blk w g cs t) (hi : (P.info? T).map (·.size) = some cs.size) :
    Ex P w n f ⟨dst, .load T x, ty, pos, aft, gd⟩ (.agg cs) := by
  have := Cb (P := P) (w := w) (dst := dst) (ty := ty) (pos := pos) (aft := aft) (gd := gd) hu hx (cs := cs.toList) (by simpa using hi) hB.range
  simpa using this
theorem Zt {e : TypeId} {len : Nat} (hu : P.underlying T = some (.array len e)) {sz : Nat} (hz : (P.info? e).map (·.size) = some sz) {b o : Nat} (hx : ev n f x = .pointer (some ⟨b, o, none⟩)) (hy : ev n f y = .int k a)
    (h0 : 0 ≤ a) (h1 : a < (len : Int)) : Ex P w n f ⟨dst, .indexAddr T x y, ty, pos, aft, gd⟩ (.pointer (some ⟨b, o + a.toNat * sz, none⟩)) := by
  obtain ⟨ii, hi, hs⟩ := Option.map_eq_some_iff.1 hz
  unfold Ex execOp
  simp [hx, hy, Instr.indexAt, asIntOf, Instr.sureAddr, Sem.run_bind, run_underlying hu, h0, h1, sizeOf, typeInfo, hi, hs, Addr.add_mid]
theorem A6 {e : TypeId} {len : Nat} (hu : P.underlying T = some (.array len e)) (hz : (P.info? e).map (·.size) = some 1) {b i : Nat} (hx : ev n f x = .pointer (some ⟨b, 0, none⟩)) (hy : ev n f y = .int k (i : Int))
    (h1 : i < len) : Ex P w n f ⟨dst, .indexAddr T x y, ty, pos, aft, gd⟩ (.pointer (some ⟨b, i, none⟩)) := by
  have := Zt (P := P) (w := w) (dst := dst) (ty := ty) (pos := pos) (aft := aft) (gd := gd) hu hz hx hy (by omega) (by omega)
  simpa using this
-- equality of arrays of bytes
open Extern.Stop (cell) in
theorem En {e : TypeId} {m : Nat} (hu : P.underlying T = some (.array m e)) (he : P.underlying e = some (.int .u8)) (hz : (P.info? e).map (·.size) = some 1) (hq : P.eqGuardType P.depth T = false) {xs ys : List UInt8}
    (hx : ev n f x = .agg (xs.map cell).toArray) (hy : ev n f y = .agg (ys.map cell).toArray) (hl : xs.length = m) (hl' : ys.length = m) : Ex P w n f ⟨dst, .binOp .eql T x y T', ty, pos, aft, gd⟩ (.bool (decide (xs = ys))) := by
  obtain ⟨ii, hi, hs⟩ := Option.map_eq_some_iff.1 hz
  have h := run_eql_bytes (P := P) w T e m hu he (fun w => by simp [sizeOf, typeInfo, hi, hs]) xs ys hl hl'
  refine Ci hx hy (run_eqGuard_agg w .eql T x y _ _ hq) ?_
  rw [h]
  congr 2
  by_cases hxy : xs = ys <;> simp [hxy]
end ops
section loud
variable {P : Program} {ops : Array Oper} {Q : Exit → Act → World → Prop} {rest : List Oper} {n : Nat} {f : Nat → Value} {w : World}
variable {op : Op} {ty : TypeId} {pos : String} {aft : Array Edge} {d : Nat} {v : Value} {x y z : Operand} {T : TypeId}
structure New (w w' : World) (g : Nat) (cs : Array Value) (t : TypeId) : Prop where
  blk : Blk w' g cs t
  ext : Ext w w'
  g_eq : g = w.heap.size
  size : w'.heap.size = g + 1
theorem New.alloc (w : World) (cs : Array Value) (t : TypeId) : New w (w.alloc (.cells cs t)) w.heap.size cs t := ⟨Blk.fresh w cs t, Ext.alloc w _, rfl, by simp⟩
theorem l1 {w' : World} (h : (execOp (ev n f) ⟨some d, op, ty, pos, aft, none⟩).run P w = .ok (.value v) w') (k : Lst P ops Q rest (fr n (upd f d v)) w') : Lst P ops Q (⟨some d, op, ty, pos, aft, none⟩ :: rest) (fr n f) w :=
  ⟨wpList_plain rfl fun K hK => by
    unfold Oper.wp
    rw [Bn, h, Oper.upon_value, Du]
    exact hK _ _ k.out⟩
theorem Xp (hx : ev n f x = v) (k : ∀ w' g, New w w' g v.cells T → Lst P ops Q rest (fr n (upd f d (.pointer (some ⟨g, 0, none⟩)))) w') : Lst P ops Q (⟨some d, .box T x, ty, pos, aft, none⟩ :: rest) (fr n f) w :=
  l1 (w' := w.alloc (.cells v.cells T)) (v := .pointer (some ⟨w.heap.size, 0, none⟩)) (by subst hx; rfl) (k _ _ (New.alloc _ _ _))
theorem Bu {cs : Array Value} (hx : ev n f x = .agg cs) (k : ∀ w' g, New w w' g cs T → Lst P ops Q rest (fr n (upd f d (.pointer (some ⟨g, 0, none⟩)))) w') : Lst P ops Q (⟨some d, .box T x, ty, pos, aft, none⟩ :: rest) (fr n f) w :=
  Xp hx k
def evL (n : Nat) (f : Nat → Value) : List Operand → List Value
  | [] => []
  | x :: l => ev n f x :: evL n f l
theorem Fi (n : Nat) (f : Nat → Value) : ∀ l : List Operand, l.map (ev n f) = evL n f l
  | [] => rfl
  | x :: l => by rw [List.map_cons, Fi n f l]; rfl
theorem Ai {g : FuncId} {as_ : List Operand} {ats : Array TypeId} {fn : Func} {vs : List Value} {R : Value → World → Prop} (hf : P.funcs[g]? = some fn) (hn : (fn.name == "runtime.NumGoroutine") = false) (hb : fn.body.isNone = false)
    (hc : Ret P g vs w R) (ha : evL n f as_ = vs) (k : ∀ v w', R v w' → Lst P ops Q rest (fr n (upd f d v)) w') :
    Lst P ops Q (⟨some d, .call ⟨.value (.func g), as_.toArray, ats⟩, ty, pos, aft, none⟩ :: rest) (fr n f) w :=
  ⟨wpList_plain rfl fun K hK => by
    have hn' : ¬ fn.name = "runtime.NumGoroutine" := by simpa using hn
    have hb' : ¬ fn.body = none := by intro e; rw [e] at hb; cases hb
    have ha' : as_.toArray.map (ev n f) = vs.toArray := by rw [List.map_toArray, Fi, ha]
    have he : (execOp (ev n f) ⟨some d, .call ⟨.value (.func g), as_.toArray, ats⟩, ty, pos, aft, none⟩).run P w = .ok (.enter g vs.toArray) w := by
      simp [execOp, resolve, ha', ev, Deferred.ofValue, invoke, callFunc, hf, hn', hb', Sem.run_bind, Sem.run]
    unfold Oper.wp
    rw [Bn, he, Oper.upon_enter]
    refine Calls.mono hc.out fun e w' hr => ?_
    obtain ⟨v, rfl, hv⟩ := hr
    show K ((fr n f).put (some d) v) w'
    rw [Du]
    exact hK _ _ (k v w' hv).out⟩
end loud
section regions
variable {P : Program} {Q : Exit → Act → World → Prop} {n : Nat} {f : Nat → Value} {w : World} {l : List Oper} {id : Nat}
theorem Aa (h : Lst P l.toArray Q l (fr n f) w) : Wp P (Code.region id l.toArray false) Q (fr n f) w := ⟨wp_region_lit h.out⟩
theorem Ac {ops : Array Oper} {a : Act} (h : Q .normal a w) : Lst P ops Q [] a w := ⟨h⟩
theorem Cy (hm : P.follows .mixedOrders = true) (hB : Region.lexB .any l.toArray = true) (h : ∀ w', Ext w w' → St P l.toArray w' (fun a' => Q .normal a' w') l (fr n f)) : Wp P (Code.region id l.toArray true) Q (fr n f) w :=
  ⟨wp_region_still_lit hm hB (h w.drew (Ext.drew w)).out⟩
theorem Bx {ops : Array Oper} {K : Act → Prop} {a : Act} (h : K a) : St P ops w K [] a := ⟨h⟩
theorem s1 {ops : Array Oper} {K : Act → Prop} {rest : List Oper} {op : Op} {ty : TypeId} {pos : String} {aft : Array Edge} {d : Nat} {v : Value} (h : Ex P w n f ⟨some d, op, ty, pos, aft, none⟩ v) (k : St P ops w K rest (fr n (upd f d v))) :
    St P ops w K (⟨some d, op, ty, pos, aft, none⟩ :: rest) (fr n f) := by
  refine ⟨?_⟩
  unfold wpStill
  simp only [Region.wanted, if_true]
  unfold Oper.still
  rw [Bn, h, Oper.stillUpon_value, Du]
  exact k.out
end regions
end Go.Proofs.EngD
end
section
namespace Go.Proofs.EngD
open Go.RowKit
open Extern.Stop (cell)
abbrev Hash := { l : List UInt8 // l.length = 32 }
instance : Inhabited Hash := ⟨⟨List.replicate 32 0, by simp⟩⟩
def hcs (h : Hash) : List Value := h.1.map cell
def hv (h : Hash) : Array Value := (hcs h).toArray
theorem Ec (h : Hash) : (hcs h).length = 32 := by simp [hcs, h.2]
theorem C4 {P : Program} {T : TypeId} (hs : (P.info? T).map (·.size) = some 32) (h : Hash) : (P.info? T).map (·.size) = some (hv h).size := by rw [hs]; simp [hv, Ec]
theorem Io (h : Hash) (i : Nat) (hi : i < 32) : (hv h)[i]? = some (.int .u8 (h.1.getD i 0).toNat) := by
  have := h.2
  simp [hv, hcs, cell, this, hi]
end Go.Proofs.EngD
end
section
namespace Go.Proofs.EngD
def lex : List UInt8 → List UInt8 → Bool
  | x :: l, y :: m => if x = y then lex l m else decide (x < y)
  | _, _ => false
theorem Ph : ∀ (a b : List UInt8) (k : Nat), k < a.length → k < b.length → (∀ i, i < k → a.getD i 0 = b.getD i 0) → a.getD k 0 ≠ b.getD k 0 → lex a b = decide (a.getD k 0 < b.getD k 0)
  | x :: l, y :: m, 0, _, _, _, h => by
    simp at h
    simp [lex, h]
  | x :: l, y :: m, k + 1, ha, hb, he, h => by
    have h0 : x = y := he 0 (by omega)
    simp only [lex, if_pos h0]
    rw [Ph l m k (by simpa using ha) (by simpa using hb) (fun i hi => he (i + 1) (by omega)) h]
    simp
  | [], _, k, ha, _, _, _ => by simp at ha
  | _ :: _, [], k, _, hb, _, _ => by simp at hb
theorem Ja : ∀ a : List UInt8, lex a a = false
  | [] => rfl
  | x :: l => by simp [lex, Ja l]
theorem Mw {a b : List UInt8} (h : a.length = b.length) (he : ∀ i, i < a.length → a.getD i 0 = b.getD i 0) : a = b := by
  apply List.ext_getElem h
  intro i h1 h2
  have := he i h1
  simpa [h1, h2] using this
theorem Ga {a b : UInt8} : ((a.toNat : Int) = (b.toNat : Int)) ↔ a = b := by
  constructor
  · intro h; exact UInt8.toNat_inj.1 (by omega)
  · intro h; rw [h]
theorem Z6 {a b : UInt8} : ((a.toNat : Int) < (b.toNat : Int)) ↔ a < b := by
  rw [UInt8.lt_iff_toNat_lt]; omega
theorem R7 {a b : UInt8} : decide ((a.toNat : Int) < (b.toNat : Int)) = decide (a < b) := decide_eq_decide.2 Z6
def hlt (a b : Hash) : Bool := lex a.1 b.1
theorem G6 (a : Hash) : hlt a a = false := Ja _
theorem Sz {a b : Hash} (k : Nat) (hk : k < 32) (he : ∀ i, i < k → a.1.getD i 0 = b.1.getD i 0) (h : a.1.getD k 0 ≠ b.1.getD k 0) : hlt a b = decide (a.1.getD k 0 < b.1.getD k 0) :=
  Ph a.1 b.1 k (by rw [a.2]; exact hk) (by rw [b.2]; exact hk) he h
theorem G7 {a b : Hash} (h : ∀ i, i < 32 → a.1.getD i 0 = b.1.getD i 0) : a = b := Subtype.ext (Mw (by rw [a.2, b.2]) (fun i hi => h i (by rw [a.2] at hi; exact hi)))
def hcmp (a b : Hash) : Int := if a = b then 0 else if hlt a b = true then -1 else 1
end Go.Proofs.EngD
end
section
set_option maxRecDepth 100000
set_option maxHeartbeats 4000000
namespace Go.Proofs.EngD
open Go.RowKit
open Extern.Stop (cell)
theorem mixed : Tryz.prog.follows .mixedOrders = true := by kernel_rfl
theorem eg64 : Tryz.prog.eqGuardType Tryz.prog.depth 64 = false := by kernel_rfl
theorem fb135 : Tryz.f135.body.isNone = false := by kernel_rfl
theorem fn135 : (Tryz.f135.name == "runtime.NumGoroutine") = false := by kernel_rfl
theorem sz5 : (Tryz.prog.info? 5).map (·.size) = some 1 := by kernel_rfl
theorem sz64 : (Tryz.prog.info? 64).map (·.size) = some 32 := by kernel_rfl
theorem u5 : Tryz.prog.underlying 5 = some (.int .u8) := by kernel_rfl
theorem u64 : Tryz.prog.underlying 64 = some (.array 32 5) := by kernel_rfl
theorem ua64 : (Tryz.prog.underlying 64).map TypeDesc.isRow = some true := by kernel_rfl
theorem un5 : (Tryz.prog.underlying 5).map TypeDesc.isRow = some false := by kernel_rfl
end Go.Proofs.EngD
end
section
set_option maxRecDepth 100000
set_option maxHeartbeats 4000000
namespace Go.Proofs.EngD
open Go.RowKit
open Extern.Stop (cell)
theorem Aae (a b : Hash) (w : World) :
    Ret Tryz.prog 135 [.agg (hv a), .agg (hv b)] w (fun v w' => v = .bool (hlt a b) ∧ Ext w w') := by
 have hX := Ext.refl w
 refine enter 25 _ Tryz.func135 rfl rfl (Nat.le_of_ble_eq_true rfl) rfl ?_
 refine Ab (Aa ?_)
 refine Bu (by conv => lhs; whnf) ?_
 intro w1 g2 hN2
 have hE1 := hN2.ext
 have hX := hX.ext hE1
 have hB2 := hN2.blk
 refine Bu (by conv => lhs; whnf) ?_
 intro w2 g3 hN3
 have hE2 := hN3.ext
 have hX := hX.ext hE2
 have hB2 := hB2.ext hE2
 have hB3 := hN3.blk
 refine p1 (Ah (by conv => lhs; whnf)) ?_
 refine Ac (t_n (Ab (Ab (Aa ?_))))
 refine p1 (Aq ua64 rfl hB2 (C4 sz64 a)) ?_
 refine p1 (Aq ua64 rfl hB3 (C4 sz64 b)) ?_
 refine p1 (En u64 u5 sz5 eg64 rfl rfl a.2 b.2) ?_
 refine Ac (t_n ?_)
 first | refine As rfl (fun hc8 => ?_) (fun hc8 => ?_) | refine Dm rfl (fun hc8 => ?_) (fun hc8 => ?_)
 ·try simp only [dA, dB, dC, dD, dE, dF, dG, Int.not_lt, Int.not_le] at hc8
  have hp : hlt a b = false := by rw [Subtype.ext hc8]; exact G6 b
  refine Ab (Aa ?_)
  refine p1 (Ah (by conv => lhs; whnf)) ?_
  refine Ac (t_n (Ao (t_r ?_)))
  refine end1 rfl (by conv => lhs; whnf) ?_
  first | exact ⟨by rw [hp], hX⟩ | exact ⟨by rw [Sz k hk hL (fun e => hc15 (Ga.2 e)), R7], hX⟩
 ·try simp only [dA, dB, dC, dD, dE, dF, dG, Int.not_lt, Int.not_le] at hc8
  refine Ak (t_n (Ab (Aa ?_)))
  refine p1 (Ah (by conv => lhs; whnf)) ?_
  refine Ac (t_n (Ab (Ap ?_)))
  have hWL0 := Ext.refl w2
  refine Bc (ι := Nat) [5, 9, 10, 11, 12, 13, 14, 15, 16, 17] (fun k => [(5, .int .i64 (k : Int))]) (fun k w' => Ext w2 w' ∧ (k < 32 ∧ ∀ i, i < k → a.1.getD i 0 = b.1.getD i 0)) (fun k => 32 - k) (0) ⟨rfl, trivial⟩ ⟨Ext.refl _, ⟨by omega, fun i hi => by omega⟩⟩ ?_
  rintro k GL0 w3 ⟨hE3, hk, hL⟩
  have hX := hX.ext hE3
  have hB2 := hB2.ext hE3
  have hB3 := hB3.ext hE3
  have hWL0 := hE3
  refine Ab (Ab ?_)
  refine Cy mixed (by kernel_rfl) ?_
  intro w4 hE4
  have hX := hX.ext hE4
  have hB2 := hB2.ext hE4
  have hB3 := hB3.ext hE4
  have hWL0 := hWL0.ext hE4
  refine s1 (Af (by conv => lhs; whnf)) ?_
  refine s1 (A6 u64 sz5 rfl rfl (by omega)) ?_
  refine s1 (Ae un5 rfl (hB2.cell (Io a _ (by omega)))) ?_
  refine s1 (Af (by conv => lhs; whnf)) ?_
  refine s1 (A6 u64 sz5 rfl rfl (by omega)) ?_
  refine s1 (Ae un5 rfl (hB3.cell (Io b _ (by omega)))) ?_
  refine s1 (Bw rfl rfl) ?_
  refine Bx (t_n ?_)
  first | refine As rfl (fun hc15 => ?_) (fun hc15 => ?_) | refine Dm rfl (fun hc15 => ?_) (fun hc15 => ?_)
  ·try simp only [dA, dB, dC, dD, dE, dF, dG, Int.not_lt, Int.not_le] at hc15
   have h1 := Ga.1 hc15
   have hk2 : k + 1 < 32 := by
     apply Classical.byContradiction
     intro hn
     exact hc8 (congrArg Subtype.val <| G7 (fun i hi => if h : i < k then hL i h else by rw [show i = k from by omega]; exact h1))
   refine Ak (t_n (Ap (Aa ?_)))
   refine p1 (Af (by conv => lhs; whnf)) ?_
   refine p1 (A0 rfl rfl (Am (by omega) (by omega))) ?_
   refine p1 (Ah (by conv => lhs; whnf)) ?_
   refine Ac (b_n ?_)
   refine t_n (At.mk (k + 1) (by repeat (first | exact Agr.refl _ _ | exact Agr.hav _ _ _ | refine Agr.upd rfl ?_ | refine Agr.updR rfl ?_ | refine Agr.updL ?_ _ rfl | refine Agr.hav' rfl ?_)) ⟨rfl, trivial⟩ ?_)
   exact ⟨⟨hWL0, ⟨hk2, fun i hi => if h : i < k then hL i h else by rw [show i = k from by omega]; exact h1⟩⟩, by first | (dsimp only; omega) | ((show _ < _); omega)⟩
  ·try simp only [dA, dB, dC, dD, dE, dF, dG, Int.not_lt, Int.not_le] at hc15
   refine A8 (t_e (t_e (Bq (t_n (Ab ?_)))))
   refine Cy mixed (by kernel_rfl) ?_
   intro w5 hE5
   have hX := hX.ext hE5
   have hB2 := hB2.ext hE5
   have hB3 := hB3.ext hE5
   refine s1 (Af (by conv => lhs; whnf)) ?_
   refine s1 (A6 u64 sz5 rfl rfl (by omega)) ?_
   refine s1 (Ae un5 rfl (hB2.cell (Io a _ (by omega)))) ?_
   refine s1 (Af (by conv => lhs; whnf)) ?_
   refine s1 (A6 u64 sz5 rfl rfl (by omega)) ?_
   refine s1 (Ae un5 rfl (hB3.cell (Io b _ (by omega)))) ?_
   refine s1 (Bi rfl rfl) ?_
   refine s1 (Ah (by conv => lhs; whnf)) ?_
   refine Bx (t_n (Ao ?_))
   refine end1 rfl (by conv => lhs; whnf) ?_
   first | exact ⟨by rw [hp], hX⟩ | exact ⟨by rw [Sz k hk hL (fun e => hc15 (Ga.2 e)), R7], hX⟩
theorem compare_any (a b : Hash) (w : World) :
    Ret Tryz.prog 90 [.agg (hv a), .agg (hv b)] w (fun v w' => v = .int .i64 (hcmp a b) ∧ Ext w w') := by
 have hX := Ext.refl w
 refine enter 13 _ Tryz.func90 rfl rfl (Nat.le_of_ble_eq_true rfl) rfl ?_
 refine Ab (Aa ?_)
 refine Bu (by conv => lhs; whnf) ?_
 intro w1 g2 hN2
 have hE1 := hN2.ext
 have hX := hX.ext hE1
 have hB2 := hN2.blk
 refine Bu (by conv => lhs; whnf) ?_
 intro w2 g3 hN3
 have hE2 := hN3.ext
 have hX := hX.ext hE2
 have hB2 := hB2.ext hE2
 have hB3 := hN3.blk
 refine p1 (Ah (by conv => lhs; whnf)) ?_
 refine Ac (t_n (Ab (Ap (Ab (Aa ?_)))))
 refine p1 (Aq ua64 rfl hB2 (C4 sz64 a)) ?_
 refine p1 (Aq ua64 rfl hB3 (C4 sz64 b)) ?_
 refine p1 (En u64 u5 sz5 eg64 rfl rfl a.2 b.2) ?_
 refine p1 (Ah (by conv => lhs; whnf)) ?_
 refine Ac (t_n ?_)
 first | refine As rfl (fun hc5 => ?_) (fun hc5 => ?_) | refine Dm rfl (fun hc5 => ?_) (fun hc5 => ?_)
 ·try simp only [dA, dB, dC, dD, dE, dF, dG, Int.not_lt, Int.not_le] at hc5
  have hp : hcmp a b = 0 := by unfold hcmp; rw [if_pos (Subtype.ext hc5)]
  refine Ab (Aa ?_)
  refine p1 (Ah (by conv => lhs; whnf)) ?_
  refine Ac (t_n (Ao (b_r (t_r ?_))))
  refine end1 rfl (by conv => lhs; whnf) ?_
  exact ⟨by rw [hp], hX⟩
 ·try simp only [dA, dB, dC, dD, dE, dF, dG, Int.not_lt, Int.not_le] at hc5
  refine Ab (Aa ?_)
  refine p1 (Aq ua64 rfl hB2 (C4 sz64 a)) ?_
  refine p1 (Aq ua64 rfl hB3 (C4 sz64 b)) ?_
  refine Ai Tryz.func135 fn135 fb135 (Aae a b _) rfl ?_
  rintro v3 w3 ⟨rfl, hE3⟩
  have hX := hX.ext hE3
  have hB2 := hB2.ext hE3
  have hB3 := hB3.ext hE3
  refine p1 (Ah (by conv => lhs; whnf)) ?_
  refine Ac (t_n ?_)
  first | refine As rfl (fun hc9 => ?_) (fun hc9 => ?_) | refine Dm rfl (fun hc9 => ?_) (fun hc9 => ?_)
  ·try simp only [dA, dB, dC, dD, dE, dF, dG, Int.not_lt, Int.not_le] at hc9
   have hp : hcmp a b = -1 := by unfold hcmp; rw [if_neg (fun e => hc5 (by rw [e])), if_pos hc9]
   refine Ab (Aa ?_)
   refine p1 (Ah (by conv => lhs; whnf)) ?_
   refine Ac (t_n (Ao (b_r (t_r ?_))))
   refine end1 rfl (by conv => lhs; whnf) ?_
   exact ⟨by rw [hp], hX⟩
  ·try simp only [dA, dB, dC, dD, dE, dF, dG, Int.not_lt, Int.not_le] at hc9
   have hp : hcmp a b = 1 := by unfold hcmp; rw [if_neg (fun e => hc5 (by rw [e])), if_neg (by simp [hc9])]
   refine Ak (b_n (t_n (Ab (Aa ?_))))
   refine p1 (Ah (by conv => lhs; whnf)) ?_
   refine Ac (t_n (Ao ?_))
   refine end1 rfl (by conv => lhs; whnf) ?_
   exact ⟨by rw [hp], hX⟩
end Go.Proofs.EngD
end
section
namespace Go.Proofs.EngD
open Go.RowKit Go.Sort
theorem Ext.grown {w w' : World} (h : Ext w w') : ∃ q os', w' = Sort.grow (w.drewN q) os' := by
  refine ⟨w'.drawn - w.drawn, w'.heap.extract w.heap.size w'.heap.size, ?_⟩
  have e1 : w'.heap = w.heap ++ w'.heap.extract w.heap.size w'.heap.size := by
    apply Array.ext_getElem?
    intro k
    have hs := h.size
    by_cases hk : k < w.heap.size
    · rw [h.old k hk, Array.getElem?_append_left hk]
    · rw [Array.getElem?_append_right (by omega)]
      simp only [Array.getElem?_extract]
      by_cases hk2 : k < w'.heap.size
      · rw [if_pos (by omega)]; congr 1; omega
      · rw [if_neg (by omega), Array.getElem?_eq_none (by omega)]
  have e2 : w'.drawn = w.drawn + (w'.drawn - w.drawn) := by have : w.drawn ≤ w'.drawn := h.drawn; omega
  obtain ⟨h1, h2, h3⟩ := (⟨h.os, h.tape, h.output⟩ : w'.os = w.os ∧ w'.tape = w.tape ∧ w'.output = w.output)
  cases w'
  cases w
  simp only [Sort.grow, World.drewN] at *
  subst h1 h2 h3
  rw [← e1, ← e2]
section
variable {α : Type} [Inhabited α] {sz : Nat} {enc : α → List Value} {hl : ∀ x, (enc x).length = sz} {h1 : ∀ x, ∀ v ∈ enc x, v.oneCell' = true}
theorem cmpLays_of_ret {P : Program} {g : Nat} {cf : α → α → Int} (h : ∀ a b w, Ret P g [.agg (enc a).toArray, .agg (enc b).toArray] w (fun v w' => v = .int .i64 (cf a b) ∧ Ext w w')) (blk off size : Nat) (w : World) : CmpLays P g #[] enc sz cf blk off size w := by
  intro m os dk hs x y
  refine Calls.mono (h x y _).out ?_
  rintro e w' ⟨v, rfl, rfl, hx⟩
  exact ⟨rfl, hx.grown⟩
end
end Go.Proofs.EngD
end
section
namespace Go.Proofs.Eng
open Go.RowKit
open Extern.Stop (cell)
set_option maxRecDepth 100000
set_option maxHeartbeats 4000000
section
open Go.RowKit Go.Sort
theorem U5:∀ args w,(callFunc 90 args).run Tryz.prog w = .ok (.enter 90 args) w:=enters_of Tryz.func90 (by kernel_rfl) rfl
theorem isAgg64:∀ w,(isAgg 64).run Tryz.prog w = .ok true w:=Tryz.isAgg64
theorem sizeOf64:∀ w,(Go.sizeOf 64).run Tryz.prog w = .ok 32 w:=Tryz.sizeOf64
def Acf (l:List Hash):Prop:=∀ i j,i<j→j<l.length→hlt (l.getD j default) (l.getD i default)=false
theorem Xt:∀ a b:List UInt8,EngD.lex a b=lex a b
  | [],[]=>rfl
  | [],_ :: _=>rfl
  | _ :: _,[]=>rfl
  | x :: a,y :: b=>by unfold EngD.lex lex;rw[Xt a b]
theorem Adn (a b:Hash):EngD.hlt a b=hlt a b:=Xt a.1 b.1
theorem Abg (a b:Hash):EngD.hcmp a b=hcmp a b:=by unfold EngD.hcmp hcmp;rw[Adn]
theorem I2 (xs:List Hash) (B0:Nat) (p:Option Addr) (n c:Nat) (w:World) (hO:Own kHash 64 0 B0 w p n c xs) (hs:n≤4194304000) :
    Ret Tryz.prog 89 [.slice p n c,.func (.func 90) #[] #[]] w (fun v w'=>∃ ys,Own kHash 64 0 B0 w' p n c ys∧ys.Perm xs∧Acf ys∧Mod B0 64 w w'):=by
  rcases Nat.eq_zero_or_pos n with h0 | h0
  · subst h0
    have hx0:xs=[]:=List.eq_nil_of_length_eq_zero hO.len
    subst hx0
    refine⟨Calls.mono (AnyF.slices_SortFunc_none Tryz.sortHash p c (.func (.func 90) #[] #[]) w) ?_⟩
    rintro e w' ⟨rfl,rfl⟩
    exact⟨_,rfl,[],hO,.refl _,fun i j h1 h2=>by simp at h2,.refl _ _ _⟩
  · obtain ⟨g, cur, css, e1, h2, h3, _⟩ := hO.block h0
    subst e1
    have hlen:=hO.len
    have hH:=Sy (h:=hO) h0
    have hc:=AnyQ.slices_SortFunc Tryz.sortHash 32 isAgg64 sizeOf64 hcs Ec S0 hcmp Z7 90 #[] g 0 c xs.toArray w U5
      (EngD.cmpLays_of_ret (sz:=32) (enc:=hcs) (cf:=hcmp) (fun a b w=>Abg a b ▸ EngD.compare_any a b w) g 0 _ w) hH h3.lt (by simp[hlen];omega)
    have hsz:xs.toArray.size=n:=by simpa using hlen
    rw[hsz] at hc
    refine⟨Calls.mono hc ?_⟩
    rintro e w' ⟨rfl,d',m,os,hp,hso,rfl⟩
    have hd:d'.size=n:=by rw[hp.1,hsz]
    obtain⟨ho',hm'⟩:=Ud hO h0 m d' hd os
    refine⟨_,rfl,d'.toList,ho',?_,?_,hm'⟩
    · have hpp := hp.2.2
      have e2:d'.extract 0 n=d':=by rw[← hd];simp
      have e3:xs.toArray.extract 0 n=xs.toArray:=by rw[← hsz];simp
      rw[e2,e3] at hpp
      simpa using hpp
    · intro i j hij hj
      have hj':j<n:=by simpa [hd] using hj
      have:=hso i j (Nat.zero_le _) hij hj'
      rw[J7] at this
      rw[getElem!_pos d' j (by omega),getElem!_pos d' i (by omega)] at this
      have g1:d'.toList.getD j default=d'[j]'(by omega):=by simp[List.getD_eq_getElem?_getD,show j<d'.size by omega]
      have g2:d'.toList.getD i default=d'[i]'(by omega):=by simp[List.getD_eq_getElem?_getD,show i<d'.size by omega]
      rw[g1,g2];exact this
end
def wth:List Hash→Hash→List Hash
  | [],h=>[h]
  | x :: l,h=>if hlt x h=true then x :: wth l h else if x=h then x :: l else h :: x :: l
theorem Su:∀ (l:List Hash) (h z:Hash),z∈wth l h↔z∈l∨z=h
  | [],h,z=>by simp[wth]
  | x :: l, h, z => by
    unfold wth
    split
    · rw [List.mem_cons, Su l h z, List.mem_cons]
      constructor
      · rintro (h | h | h) <;> simp[h]
      · rintro ((h | h) | h) <;> simp[h]
    · split
      · rename_i e
        constructor
        · intro h;exact .inl h
        · rintro (h | h)
          · exact h
          · rw[h,← e];simp
      · simp only [List.mem_cons]
        constructor
        · rintro (h | h) <;> simp[h]
        · rintro (h | h) <;> simp[h]
theorem T0:∀ (l:List Hash) (h:Hash),Rise l→Rise (wth l h)
  | [],h,_=>by simp[wth]
  | x :: l, h, hr => by
    have hr':=List.pairwise_cons.1 hr
    unfold wth
    split
    · rename_i hx
      refine List.pairwise_cons.2 ⟨fun z hz=>?_,T0 l h hr'.2⟩
      rcases (Su l h z).1 hz with e | e
      · exact hr'.1 z e
      · rw[e];exact hx
    · split
      · exact hr
      · rename_i h1 h2
        have h3:hlt h x=true:=by
          rcases H6 x h with e | e | e
          · exact absurd e h2
          · exact absurd e h1
          · exact e
        refine List.pairwise_cons.2 ⟨fun z hz=>?_,hr⟩
        rcases List.mem_cons.1 hz with e | e
        · rw[e];exact h3
        · exact Mk h3 (hr'.1 z e)
theorem Xc:∀ (l:List Hash) (h:Hash),(wth l h).length≤l.length+1
  | [],h=>by simp[wth]
  | x :: l, h => by
    unfold wth
    split
    · have:=Xc l h;simp;omega
    · split <;> simp
def srtTo (acc:List Hash) (xs:List Hash):List Hash:=xs.foldl wth acc
def srt (xs:List Hash):List Hash:=xs.foldl wth []
theorem Mo:∀ (xs acc:List Hash),Rise acc→Rise (xs.foldl wth acc)∧(∀ z,z∈xs.foldl wth acc↔z∈acc∨z∈xs)∧(xs.foldl wth acc).length≤acc.length+xs.length
  | [],acc,h=>⟨h,fun z=>by simp,by simp⟩
  | x :: xs, acc, h => by
    obtain⟨h1,h2,h3⟩:=Mo xs (wth acc x) (T0 acc x h)
    refine⟨h1,fun z=>?_,?_⟩
    · rw[List.foldl_cons,h2 z,Su,List.mem_cons,or_assoc]
    · have:=Xc acc x;rw[List.foldl_cons,List.length_cons];omega
theorem T1 (xs:List Hash):Rise (srt xs):=(Mo xs [] .nil).1
theorem mem_srt {xs:List Hash} {z:Hash}:z∈srt xs↔z∈xs:=by unfold srt;have:=(Mo xs [] .nil).2.1 z;simpa using this
theorem Aab {xs ys:List Hash} (h:Rise ys) (hm:∀ z,z∈ys↔z∈xs):ys=srt xs:=T3 h (T1 xs) fun z=>(hm z).trans mem_srt.symm
theorem mem_iff_getD {xs:List Hash} {z:Hash}:z∈xs↔∃ i,i<xs.length∧xs.getD i default=z:=by
  constructor
  · intro h
    obtain⟨i,hi,e⟩:=List.mem_iff_getElem.1 h
    exact⟨i,hi,by rw[List.getD_eq_getElem?_getD,List.getElem?_eq_getElem hi];exact e⟩
  · rintro⟨i,hi,e⟩;exact Dq hi e
theorem Acv {xs ys:List Hash} {n:Nat} (hp:ys.Perm xs) (hs:Acf ys) (hn:ys.length=n):cpt ys n=srt xs:=by
  subst hn
  obtain⟨h1,h2⟩:=P6 hs ys.length (Nat.le_refl _)
  exact Aab h1 fun z=>(h2 z).trans (mem_iff_getD.symm.trans hp.mem_iff)
theorem Pr {xs:List Hash} {k:Nat} (h:k<xs.length):xs.take (k+1)=xs.take k++[xs.getD k default]:=by
  rw[List.take_succ_eq_append_getElem h,List.getD_eq_getElem?_getD,List.getElem?_eq_getElem h];rfl
theorem Vy {acc xs:List Hash} {k:Nat} (h:k<xs.length):srtTo acc (xs.take (k+1))=wth (srtTo acc (xs.take k)) (xs.getD k default):=by
  unfold srtTo;rw[Pr h,List.foldl_append];rfl
theorem Vm:∀ (l:List Hash) (h:Hash) (i:Nat),i≤l.length→(∀ j,j<i→hlt (l.getD j default) h=true)→(i<l.length→hlt (l.getD i default) h=false) →
    wth l h=if i<l.length∧l.getD i default=h then l else l.take i++h :: l.drop i
  | [], h, i, hi, _, _ => by
    have:i=0:=by simpa using hi
    subst this
    simp[wth]
  | x :: l, h, 0, _, _, h2 => by
    have h2:=h2 (by simp)
    simp only[List.getD_cons_zero] at h2
    unfold wth
    rw[if_neg (by rw[h2];simp)]
    simp
  | x :: l, h, i + 1, hi, h1, h2 => by
    have h0:=h1 0 (by omega)
    simp only[List.getD_cons_zero] at h0
    unfold wth
    rw[if_pos h0,Vm l h i (by simpa using hi) (fun j hj=>by have:=h1 (j+1) (by omega);simpa using this) (fun hi=>by have:=h2 (by simpa using hi);simpa using this)]
    simp only[List.length_cons,List.getD_cons_succ,Nat.add_lt_add_iff_right,List.take_succ_cons,List.drop_succ_cons]
    split <;> simp
def inS (xs:List Hash):Hash→Option Bool:=fun h=>if h∈xs then some true else none
theorem Uk:∀ {xs ks:List Hash},xs.Nodup→(∀ z∈xs,z∈ks)→xs.length≤ks.length
  | [],_,_,_=>by simp
  | x :: xs, ks, hn, hs => by
    have hn':=List.nodup_cons.1 hn
    have hx:x∈ks:=hs x (by simp)
    have h1:=Uk (ks:=ks.erase x) hn'.2 (fun z hz=>(List.mem_erase_of_ne (fun e=>hn'.1 (by rw[← e];exact hz))).2 (hs z (by simp[hz])))
    rw[List.length_erase_of_mem hx] at h1
    have:=List.length_pos_of_mem hx
    simp only[List.length_cons]
    omega
theorem Rise.nodup {xs:List Hash} (h:Rise xs):xs.Nodup:=List.Pairwise.imp (fun h e=>Wt h e) h
section
open Go.ChangeMaps (setBlock)
section
variable {κ ν : Type} [DecidableEq κ] {P : Program} {ops : Array Oper} {Q : Exit → Act → World → Prop} {rest : List Oper} {n : Nat} {f : Nat → Value} {w w' : World}
variable {ty0 : TypeId} {pos : String} {aft : Array Edge} {dst : Nat} {v u : Value} {x y z : Operand} {T K e : TypeId} {dst' : Option Nat} {gd : Option (Nat × Bool)}
variable {kk : κ → Value} {d : VK ν} {B B0 : Nat} {r : Nat} {μ : κ → Option ν}
structure RgW (kk:κ→Value) (d:VK ν) (B B0:Nat) (w:World) (r it:Nat) (μ:κ→Option ν) (vs:List κ):Prop where
  low:B0≤it
  nd:vs.Nodup
  sub:∀ k∈vs,μ k≠none
  ex:∃ es clock m since seen c0,MapIs kk d B w r es clock m∧Tells m μ∧w.heap[it]? = some (.mapIter (some r) since seen c0)∧(∀ e∈es.toList,e.born<since)∧since≤c0∧since≤clock ∧
    (∀ (i:Nat) (e:MapEntry) (p:κ×ν),es.toList[i]? = some e→m[i]? = some p→(e.born∈seen↔p.1∈vs))
end
end
def Sq (D:DS) (r:DS×Int) (M i:Nat) (Ok Mid Ful:(ByteArray→Option Fb)→Prop):Prop :=
  (r.2=0∧r.1.down=false∧(Up0 D→Up0 r.1)∧∃ V,Vw r.1 M i V∧Ok V) ∨
  (r.2=20∧¬ Up0 D∧r.1.down=true∧∃ V,Vw r.1 M i V∧Mid V) ∨
  (r.2=21∧r.1.down=false∧(Up0 D→Up0 r.1)∧∃ V,Vw r.1 M i V∧Ful V)
section
variable {D : DS} {r : DS × Int} {M i j : Nat} {V V' : ByteArray → Option Fb} {Ok Ok2 Mid Mid2 Ful Ful2 : (ByteArray → Option Fb) → Prop} {k : ByteArray}
theorem Sq.and {f:DS→DS×Int} (h:Sq D r M i Ok Mid Ful) (hf:∀ D' V,D'.down=false→Vw D' M i V→Ok V→Sq D' (f D') M j Ok2 Mid Ful) (hij:i≤j):Sq D (andD r f) M j Ok2 Mid Ful:=by
  rcases h with ⟨a,b,c,V,d,e⟩ | ⟨a,b,c,V,d,e⟩ | ⟨a,b,c,V,d,e⟩
  · rw [Dy a]
    rcases hf _ V b d e with ⟨a',b',c',x⟩ | ⟨a',b',c',x⟩ | ⟨a',b',c',x⟩
    · exact .inl ⟨a',b',fun u=>c' (c u),x⟩
    · exact .inr (.inl ⟨a',fun u=>b' (c u),c',x⟩)
    · exact .inr (.inr ⟨a',b',fun u=>c' (c u),x⟩)
  · rw[Ee (by rw[a];decide)];exact .inr (.inl ⟨a,b,c,V,d.mono hij,e⟩)
  · rw[Ee (by rw[a];decide)];exact .inr (.inr ⟨a,b,c,V,d.mono hij,e⟩)
theorem Sq.done (hd:D.down=false) (hV:Vw D M i V) (h:Ok V):Sq D (D,0) M i Ok Mid Ful := .inl ⟨rfl,hd,id,V,hV,h⟩
end
section
variable {s : Nat} {A B N X o : Option Fb} (h1 : 1 ≤ s) (h2 : s + 1 ≤ 999999)
include h1 h2
end
theorem Lo.sl5 {B n c:Nat} {w:World} {p:Option Addr} {xs:By} (h:Lo B w p n c xs):Sl kByte 5 B w p n c xs :=
  ⟨h.len,h.cap,h.fit,_,B6 _ w xs,by rw[Bf];exact⟨h.row,fun hne => .inl (h.low (by intro e;rw[e] at hne;exact hne rfl))⟩⟩
theorem Kind.All.impK {α:Type} (d d':Kind α) {B:Nat} {w:World} (hk:∀ x c,d.K B w x c→d'.K B w x c):∀ {xs:List α} {cs:List (List Value)},d.All B w xs cs→d'.All B w xs cs
  | [],[],_=>trivial
  | _ :: _,_ :: _,h=>⟨hk _ _ h.1,Kind.All.impK d d' hk h.2⟩
  | [],_ :: _,h=>h.elim
  | _ :: _,[],h=>h.elim
theorem Aem {e n c:Nat} {w:World} {p:Option Addr} {xs:By} (h:Sl kByte e w.heap.size w p n c xs):Lo w.heap.size w p n c xs:=by
  have hr2:=h.pureRow.row
  rw[Bf] at hr2
  exact⟨h.len,h.cap,h.fit,hr2,fun hne=>hr2.lt (by intro e;exact hne (List.map_eq_nil_iff.1 e))⟩
theorem Lo.nil (B:Nat) (w:World):Lo B w none 0 0 []:=⟨rfl,Nat.le_refl _,by omega,Row.nil _ _,fun h=>absurd rfl h⟩
theorem Lo.ext {B n c:Nat} {w w':World} {p:Option Addr} {xs:By} (h:Lo B w p n c xs) (x:Ext w w'):Lo B w' p n c xs:=h.keep (x.same B [])
structure CAct where
  k:UInt8
  picks:By
  index:By
  n:Int
  done:Bool
  keep:By
instance : Inhabited CAct := ⟨⟨0, [], [], 0, false, []⟩⟩
end Go.Proofs.Eng
end
section
set_option maxRecDepth 100000
set_option maxHeartbeats 4000000
namespace Go.Proofs.Eng
open Go.RowKit
open Extern.Stop (cell)
theorem Pi (N:Nat) (hN:N<18446744073709551616) (w:World) :
    Ret Tryz.prog 145 [.int .u64 (N:Int)] w (fun v w'=>(∃ p l c,v = .slice p l c∧Own kByte 5 0 w.heap.size w' p l c (lebU N))∧Ext w w'):=by
 have hX:=Ext.refl w
 refine eN 20 Tryz.func145 ?_
 refine Ab (Aa ?_)
 refine pA (Ac (t_n (Ab (Aa ?_))))
 refine Aax u23 inf5 rfl rfl (by omega) (by omega) (by omega) (by omega) ?_
 intro w1 g4 hN4
 have hE1:=hN4.ext
 have hX:=hX.ext hE1
 have hO:Own kByte 5 0 w.heap.size w1 (some ⟨g4,0,none⟩) 0 10 []:=Own.made kByte 5 0 _ hN4 [] [] 0 10 rfl trivial (by have:=hX.size;have:=hN4.g_eq;have:=hN4.ext.size;omega) (by omega) (by omega) (by rw[size_madeCells];rfl) (by simp)
 refine pA (Ac (t_n (Ab (Ap ?_))))
 refine Bc (ι:=Nat×List UInt8×Option Addr×Nat×Nat) ([0,3]++rg 5 10) (fun (m,acc,p,l,c)=>[(0,.int .u64 (m:Int)),(3,.slice p l c)]) (fun (m,acc,p,l,c) w'=>Ext w w'∧(Own kByte 5 0 w.heap.size w' p l c acc∧acc++lebU m=lebU N∧m<18446744073709551616)) (fun (m,acc,p,l,c)=>m) ((N,[],some ⟨g4,0,none⟩,0,10)) ⟨rfl,rfl,trivial⟩ ⟨hX,⟨hO,by simp,hN⟩⟩ ?_
 rintro⟨m,acc,p,l,c⟩ GL0 w2 ⟨hE2,hO,hacc,hm⟩
 have hX:=hE2
 refine Ab (Ab (Aa ?_))
 refine pM ?_
 refine p1 (M4 rfl rfl) ?_
 refine Ac (t_n ?_)
 refine As rfl (fun hc6=>?_) (fun hc6=>?_)
 ·refine Ak (t_n (Ab (Ap (Aa ?_))))
  refine pM (pM ?_)
  refine p1 (Fd u5 us180 rfl) ?_
  refine p1 ((Tm rfl rfl).cast (congrArg _ (or128 m))) ?_
  refine Av u23 inf5 rfl (by decide) (fun base hb=>Br (by rfl) base hb) ?_
  intro w3 g13 hN13
  have hE3:=hN13.ext
  have hX:=hX.ext hE3
  have hO:=hO.ext hE3
  have hS:Blk w3 g13 #[cell (UInt8.ofNat (m % 128+128))] 5:=hN13.blk
  have hlen:acc.length=l:=hO.len
  have hl10:=C9 hN
  rw[← hacc,List.length_append] at hl10
  have hB0:=hX.size
  refine Az (d:=kByte) ([UInt8.ofNat (m % 128+128)]) u23 inf5 rfl Bb rfl rfl hO (Lb u23 hS) rfl (B6 _ _ _) (Bf _) (by omega) (by omega) (by omega) (by omega) (by decide) ?_
  intro p14 c14 w4 hO hM4
  have hX:=hX.mod hM4 (Nat.le_refl _)
  refine pA (Ac (b_n (t_n (Aa ?_))))
  refine pM ?_
  refine p1 ((Fa rfl rfl (by omega)).cast (congrArg _ (shr7 m))) ?_
  refine pA (Ac ?_)
  refine t_n (At.mk ((m / 128,acc++[UInt8.ofNat (m % 128+128)],p14,l+1,c14)) (by repeat (first | exact Agr.refl _ _ | exact Agr.hav _ _ _ | refine Agr.upd rfl ?_ | refine Agr.updR rfl ?_ | refine Agr.updL ?_ _ rfl | refine Agr.hav' rfl ?_)) ⟨rfl,rfl,trivial⟩ ?_)
  exact⟨⟨hX,⟨hO,by rw[← hacc,Hg (n:=m) (by omega)];simp,by omega⟩⟩,by(dsimp only;omega)⟩
 refine A8 (t_e (t_e (Bq (t_n (Ab (Aa ?_))))))
 refine pM (pM ?_)
 refine p1 ((B8 u5 us180 rfl (Lx (by omega) (by omega))).cast (congrArg _ (He (n:=m) (by omega)).symm)) ?_
 refine Av u23 inf5 rfl (by decide) (fun base hb=>Br (by rfl) base hb) ?_
 intro w5 g18 hN18
 have hE5:=hN18.ext
 have hX:=hX.ext hE5
 have hO:=hO.ext hE5
 have hS:Blk w5 g18 #[cell (UInt8.ofNat m)] 5:=hN18.blk
 have hlen:acc.length=l:=hO.len
 have hl10:=C9 hN
 rw[← hacc,List.length_append] at hl10
 have hB0:=hX.size
 refine Az (d:=kByte) ([UInt8.ofNat m]) u23 inf5 rfl Bb rfl rfl hO (Lb u23 hS) rfl (B6 _ _ _) (Bf _) (by omega) (by omega) (by omega) (by omega) (by decide) ?_
 intro p19 c19 w6 hO hM6
 have hX:=hX.mod hM6 (Nat.le_refl _)
 refine pA (Ac (t_n (Ao ?_)))
 refine eR1 ?_
 rw[Fg (n:=m) (by omega)] at hacc
 exact⟨⟨_,_,_,rfl,by rw[← hacc];exact hO⟩,hX⟩
theorem Ii (N:Nat) (hN:N<18446744073709551616) (w:World) :
    Ret Tryz.prog 197 [.int .u64 (N:Int)] w (fun v w'=>(∃ p l c,v = .slice p l c∧Own kByte 5 0 w.heap.size w' p l c (lebU N))∧Ext w w'):=by
 have hX:=Ext.refl w
 refine eN 20 Tryz.func197 ?_
 refine Ab (Aa ?_)
 refine pA (Ac (t_n (Ab (Aa ?_))))
 refine pA (Ac (t_n (Ab (Ap ?_))))
 have hO:Own kByte 5 0 w.heap.size w none 0 0 []:=Own.nil _ _ _ _ _
 refine Bc (ι:=Nat×List UInt8×Option Addr×Nat×Nat) ([0]++rg 3 12) (fun (m,acc,p,l,c)=>[(0,.int .u64 (m:Int)),(3,.slice p l c)]) (fun (m,acc,p,l,c) w'=>Ext w w'∧(Own kByte 5 0 w.heap.size w' p l c acc∧acc++lebU m=lebU N∧m<18446744073709551616)) (fun (m,acc,p,l,c)=>m) ((N,[],none,0,0)) ⟨rfl,rfl,trivial⟩ ⟨hX,⟨hO,by simp,hN⟩⟩ ?_
 rintro⟨m,acc,p,l,c⟩ GL0 w1 ⟨hE1,hO,hacc,hm⟩
 have hX:=hE1
 refine Ab (Ab (Aa ?_))
 refine pM ?_
 refine p1 (M4 rfl rfl) ?_
 refine Ac (t_n ?_)
 refine As rfl (fun hc5=>?_) (fun hc5=>?_)
 ·refine Ak (t_n (Ap (Ab (Aa ?_))))
  refine pM (pM ?_)
  refine p1 (Kl rfl rfl (by omega) (by omega)) ?_
  refine p1 (B8 u5 us180 rfl (Lx (by omega) (by omega))) ?_
  refine p1 ((A0 rfl rfl (Lx (by omega) (by omega))).cast (congrArg _ (by rw[He (by omega)];omega:_=((UInt8.ofNat (m % 128+128)).toNat:Int)))) ?_
  refine Av u23 inf5 rfl (by decide) (fun base hb=>Br (by rfl) base hb) ?_
  intro w2 g11 hN11
  have hE2:=hN11.ext
  have hX:=hX.ext hE2
  have hO:=hO.ext hE2
  have hS:Blk w2 g11 #[cell (UInt8.ofNat (m % 128+128))] 5:=hN11.blk
  have hlen:acc.length=l:=hO.len
  have hl10:=C9 hN
  rw[← hacc,List.length_append] at hl10
  have hB0:=hX.size
  refine Az (d:=kByte) ([UInt8.ofNat (m % 128+128)]) u23 inf5 rfl Bb rfl rfl hO (Lb u23 hS) rfl (B6 _ _ _) (Bf _) (by omega) (by omega) (by omega) (by omega) (by decide) ?_
  intro p12 c12 w3 hO hM3
  have hX:=hX.mod hM3 (Nat.le_refl _)
  refine pA (Ac (t_n (Aa ?_)))
  refine pM ?_
  refine p1 (Tl rfl rfl (by omega) (by omega) (Ct (by omega) (by omega))) ?_
  refine pA (Ac (b_n ?_))
  refine t_n (At.mk ((m / 128,acc++[UInt8.ofNat (m % 128+128)],p12,l+1,c12)) (by repeat (first | exact Agr.refl _ _ | exact Agr.hav _ _ _ | refine Agr.upd rfl ?_ | refine Agr.updR rfl ?_ | refine Agr.updL ?_ _ rfl | refine Agr.hav' rfl ?_)) ⟨rfl,rfl,trivial⟩ ?_)
  exact⟨⟨hX,⟨hO,by rw[← hacc,Hg (n:=m) (by omega)];simp,by omega⟩⟩,by(dsimp only;omega)⟩
 refine A8 (t_e (t_e (Bq (t_n (Ab (Aa ?_))))))
 refine pM (pM ?_)
 refine p1 ((B8 u5 us180 rfl (Lx (by omega) (by omega))).cast (congrArg _ (He (n:=m) (by omega)).symm)) ?_
 refine Av u23 inf5 rfl (by decide) (fun base hb=>Br (by rfl) base hb) ?_
 intro w4 g18 hN18
 have hE4:=hN18.ext
 have hX:=hX.ext hE4
 have hO:=hO.ext hE4
 have hS:Blk w4 g18 #[cell (UInt8.ofNat m)] 5:=hN18.blk
 have hlen:acc.length=l:=hO.len
 have hl10:=C9 hN
 rw[← hacc,List.length_append] at hl10
 have hB0:=hX.size
 refine Az (d:=kByte) ([UInt8.ofNat m]) u23 inf5 rfl Bb rfl rfl hO (Lb u23 hS) rfl (B6 _ _ _) (Bf _) (by omega) (by omega) (by omega) (by omega) (by decide) ?_
 intro p19 c19 w5 hO hM5
 have hX:=hX.mod hM5 (Nat.le_refl _)
 refine pA (Ac (t_n (Ao ?_)))
 refine eR1 ?_
 rw[Fg (n:=m) (by omega)] at hacc
 exact⟨⟨_,_,_,rfl,by rw[← hacc];exact hO⟩,hX⟩
end Go.Proofs.Eng
end
section
set_option maxRecDepth 100000
set_option maxHeartbeats 4000000
namespace Go.Proofs.Eng
open Go.RowKit
open Extern.Stop (cell)
theorem Ng (xs:List UInt8) (B:Nat) (p:Option Addr) (n c:Nat) (w:World) (hl:Sl kByte 5 B w p n c xs) :
    Ret Tryz.prog 182 [.slice p n c] w (fun v w'=>v = .tuple #[.int .u64 ((getU xs).1:Int),.int .i64 ((getU xs).2.1:Int),.int .i64 (getU xs).2.2]∧Ext w w'):=by
 have hX:=Ext.refl w
 refine eN 43 Tryz.func182 ?_
 refine Ab (Aa ?_)
 refine pA ?_
 refine pA ?_
 refine pA ?_
 refine Ac (t_n (Ab (Ab (Aa ?_))))
 refine pM ?_
 refine p1 (Ar u23 rfl) ?_
 refine pM ?_
 refine Ac (t_n (Ap ?_))
 have hWL0:=Ext.refl w
 have hlen:=hl.len
 have hfit:=hl.fit
 have hcap:=hl.cap
 refine Bc (ι:=Nat×Nat) ([2,3,4,5,6]++rg 9 34) (fun (i,m)=>[(2,.int .u64 (m:Int)),(9,.int .i64 (i:Int))]) (fun (i,m) w'=>Ext w w'∧(i≤n∧i≤9∧m<2 ^ (7 * i)∧getUF i m (xs.drop i)=getU xs)) (fun (i,m)=>n - i) ((0,0)) ⟨rfl,rfl,trivial⟩ ⟨Ext.refl _,⟨by omega,by omega,by simp,rfl⟩⟩ ?_
 rintro⟨i,m⟩ GL0 w1 ⟨hE1,hi,hi9,hm,hL⟩
 have hX:=hX.ext hE1
 have hWL0:=hE1
 refine Ab (Aa ?_)
 refine p1 (Bi rfl rfl) ?_
 refine Ac (t_n (Ab ?_))
 refine As rfl (fun hc10=>?_) (fun hc10=>?_)
 ·try simp only[dA,dB,dC,dD,dE,dF,dG,Int.not_lt,Int.not_le] at hc10
  refine Ak (t_n (Ab (Ap (Ab (Aa ?_)))))
  refine pM ?_
  refine p1 (Cr u23 sz5 rfl rfl ((hl.ext hX).adr Bb (by omega)) (by omega)) ?_
  refine p1 (Ae un5 rfl ((hl.ext hX).byteAt _ (by omega))) ?_
  refine pA ?_
  refine pA ?_
  refine Ac (t_n (Ab (Ab ?_)))
  have hWr4:=Ext.refl w1
  refine Dn (ι:=Unit) (rg 14 14) (fun _=>[(27,.bool (decide ((i=9∧1<(xs.getD i 0).toNat)∨(0<i∧(xs.getD i 0).toNat=0))))]) (fun _ w'=>Ext w1 w') ?_ ?_
  ·skip
   refine Aa ?_
   refine pM ?_
   refine p1 (Bw rfl rfl) ?_
   refine p1b (Af (by conv=>lhs;whnf)) (fun hb4_2=>?_) (fun hb4_2=>?_)
   ·try simp only[dA,dB,dC,dD,dE,dF,dG,Int.not_lt,Int.not_le] at hb4_2
    refine gM 16 ?_
    refine g1 16 rfl rfl (Cw rfl rfl) ?_
    refine p1 (Ax rfl (by conv=>lhs;whnf)) ?_
    refine p1b (Af (by conv=>lhs;whnf)) (fun hb4_6=>?_) (fun hb4_6=>?_)
    ·try simp only[dA,dB,dC,dD,dE,dF,dG,Int.not_lt,Int.not_le] at hb4_6
     refine gF 20 ?_
     refine gF 20 ?_
     refine gF 20 ?_
     refine gF 23 ?_
     refine gF 23 ?_
     refine gF 20 ?_
     refine p1 (Ax rfl (by conv=>lhs;whnf)) ?_
     refine Ac ?_
     refine t_n (aK () ⟨congrArg Value.bool (by exact(decide_eq_true (by omega)).symm),trivial⟩ hWr4)
    try simp only[dA,dB,dC,dD,dE,dF,dG,Int.not_lt,Int.not_le] at hb4_6
    refine gM 20 ?_
    refine g1 20 rfl rfl (Cw rfl rfl) ?_
    refine g1b 20 rfl rfl (Af (by conv=>lhs;whnf)) (fun hb4_9=>?_) (fun hb4_9=>?_)
    ·try simp only[dA,dB,dC,dD,dE,dF,dG,Int.not_lt,Int.not_le] at hb4_9
     refine gM 23 ?_
     refine g1 23 rfl rfl (Bw rfl rfl) ?_
     refine g1 20 rfl rfl (Ax rfl (by conv=>lhs;whnf)) ?_
     refine p1 (Au rfl (by conv=>lhs;whnf)) ?_
     refine Ac ?_
     refine t_n (aK () ⟨congrArg Value.bool (by exact decide_eq_decide.2 (by omega)),trivial⟩ hWr4)
    try simp only[dA,dB,dC,dD,dE,dF,dG,Int.not_lt,Int.not_le] at hb4_9
    refine gF 23 ?_
    refine gF 23 ?_
    refine g1 20 rfl rfl (Au rfl (by conv=>lhs;whnf)) ?_
    refine p1 (Au rfl (by conv=>lhs;whnf)) ?_
    refine Ac ?_
    refine t_n (aK () ⟨congrArg Value.bool (by exact(decide_eq_false (by omega)).symm),trivial⟩ hWr4)
   try simp only[dA,dB,dC,dD,dE,dF,dG,Int.not_lt,Int.not_le] at hb4_2
   refine gF 16 ?_
   refine gF 16 ?_
   refine p1 (Au rfl (by conv=>lhs;whnf)) ?_
   refine pM ?_
   refine gM 20 ?_
   refine g1 20 rfl rfl (Cw rfl rfl) ?_
   refine g1b 20 rfl rfl (Af (by conv=>lhs;whnf)) (fun hb4_9=>?_) (fun hb4_9=>?_)
   ·try simp only[dA,dB,dC,dD,dE,dF,dG,Int.not_lt,Int.not_le] at hb4_9
    refine gM 23 ?_
    refine g1 23 rfl rfl (Bw rfl rfl) ?_
    refine g1 20 rfl rfl (Ax rfl (by conv=>lhs;whnf)) ?_
    refine p1 (Au rfl (by conv=>lhs;whnf)) ?_
    refine Ac ?_
    refine t_n (aK () ⟨congrArg Value.bool (by exact decide_eq_decide.2 (by omega)),trivial⟩ hWr4)
   try simp only[dA,dB,dC,dD,dE,dF,dG,Int.not_lt,Int.not_le] at hb4_9
   refine gF 23 ?_
   refine gF 23 ?_
   refine g1 20 rfl rfl (Au rfl (by conv=>lhs;whnf)) ?_
   refine p1 (Au rfl (by conv=>lhs;whnf)) ?_
   refine Ac ?_
   refine t_n (aK () ⟨congrArg Value.bool (by exact(decide_eq_false (by omega)).symm),trivial⟩ hWr4)
  rintro _ Gr4 w2 hE2
  have hX:=hX.ext hE2
  have hWL0:=hWL0.ext hE2
  refine t_n ?_
  refine As rfl (fun hc27=>?_) (fun hc27=>?_)
  ·try simp only[dA,dB,dC,dD,dE,dF,dG,Int.not_lt,Int.not_le] at hc27
   have hp:getU xs=(0,0,4):=by rw[← hL,Gy (by omega)];unfold getUF;rw[if_pos hc27]
   refine Ab (Aa ?_)
   refine pA ?_
   refine pA ?_
   refine pA ?_
   refine Ac (t_n (Ao (t_r (b_r (t_r (t_r (b_r (t_r ?_))))))))
   refine eR3 ?_
   exact⟨by(rw[hp];try rfl),hX⟩
  try simp only[dA,dB,dC,dD,dE,dF,dG,Int.not_lt,Int.not_le] at hc27
  have h9:i=9→(xs.getD i 0).toNat % 128≤1:=by omega
  have hfit2:=Ux hm hi9 (Nat.mod_lt (xs.getD i 0).toNat (by omega:0<128)) h9
  refine Ak (t_n (Ab (Aa ?_)))
  refine pM ?_
  refine pM ?_
  refine p1 ((Z0 rfl rfl).cast (congrArg _ (Zn (xs.getD i 0)))) ?_
  refine p1 (B8 u180 us5 rfl (Ct (by omega) (by omega))) ?_
  refine pM ?_
  refine p1 (Iy rfl rfl (Am (by omega) (by omega))) ?_
  refine p1 (B8 u86 us3 rfl (Ct (by omega) (by omega))) ?_
  refine p1 ((M1 rfl rfl (by omega)).cast (congrArg _ (shl7 (i:=i) hi9 (Nat.mod_lt _ (by omega)) h9))) ?_
  refine p1 ((Tm rfl rfl).cast (congrArg _ (Aas hm hfit2))) ?_
  refine pA ?_
  refine Ac (t_n (Ab (Aa ?_)))
  refine pM ?_
  refine p1 (Bi rfl rfl) ?_
  refine Ac (t_n ?_)
  refine As rfl (fun hc38=>?_) (fun hc38=>?_)
  ·try simp only[dA,dB,dC,dD,dE,dF,dG,Int.not_lt,Int.not_le] at hc38
   have hp:getU xs=(m+(xs.getD i 0).toNat % 128 * 2 ^ (7 * i),i+1,0):=by rw[← hL,Gy (by omega)];unfold getUF;rw[if_neg hc27,if_pos (by omega)]
   refine Ab (Aa ?_)
   refine pM ?_
   refine pM ?_
   refine p1 (A0 rfl rfl (Am (by omega) (by omega))) ?_
   refine pA ?_
   refine pA ?_
   refine pA ?_
   refine Ac (t_n (Ao (b_r (t_r (t_r (b_r (t_r ?_)))))))
   refine eR3 ?_
   exact⟨by(rw[hp];try rfl),hX⟩
  try simp only[dA,dB,dC,dD,dE,dF,dG,Int.not_lt,Int.not_le] at hc38
  have hp2:getUF (i+1) (m+(xs.getD i 0).toNat % 128 * 2 ^ (7 * i)) (xs.drop (i+1))=getU xs:=by rw[← hL,Gy (by omega:i<xs.length)];conv=>rhs;unfold getUF;rw[if_neg hc27,if_neg (by omega)]
  refine Ak (b_n (t_n (Aa ?_)))
  refine p1 (A0 rfl rfl (Am (by omega) (by omega))) ?_
  refine pM ?_
  refine Ac ?_
  refine t_n (At.mk ((i+1,m+(xs.getD i 0).toNat % 128 * 2 ^ (7 * i))) (by repeat (first | exact Agr.refl _ _ | exact Agr.hav _ _ _ | refine Agr.upd rfl ?_ | refine Agr.updR rfl ?_ | refine Agr.updL ?_ _ rfl | refine Agr.hav' rfl ?_)) ⟨rfl,rfl,trivial⟩ ?_)
  exact⟨⟨hWL0,⟨by omega,by omega,Pp hm (Nat.mod_lt _ (by omega)),hp2⟩⟩,by(dsimp only;omega)⟩
 try simp only[dA,dB,dC,dD,dE,dF,dG,Int.not_lt,Int.not_le] at hc10
 have hp:getU xs=(0,0,3):=by rw[← hL,List.drop_of_length_le (by omega)];rfl
 refine A8 (t_e (t_e (Bq (t_n (Ab (Aa ?_))))))
 refine pA ?_
 refine pA ?_
 refine pA ?_
 refine Ac (t_n (Ao ?_))
 refine eR3 ?_
 exact⟨by(rw[hp];try rfl),hX⟩
theorem Si (xs:List UInt8) (B:Nat) (p:Option Addr) (n c:Nat) (w:World) (hl:Sl kByte 5 B w p n c xs) :
    Ret Tryz.prog 221 [.slice p n c] w (fun v w'=>v = .tuple #[.int .i64 ((grp xs).1:Int),.int .i64 (grp xs).2]∧Ext w w'):=by
 have hX:=Ext.refl w
 refine eN 20 Tryz.func221 ?_
 refine Ab (Aa ?_)
 refine pA (pA (Ac (t_n (Ab (Ab (Aa ?_))))))
 refine pA (Ac (t_n (Ap ?_)))
 have hWL0:=Ext.refl w
 have hlen:=hl.len
 have hfit:=hl.fit
 have hcap:=hl.cap
 refine Bc (ι:=Nat) (rg 2 18) (fun i=>[(4,.int .i64 (i:Int))]) (fun i w'=>Ext w w'∧(i≤10∧i≤n∧grpF (10 - i) i (xs.drop i)=grp xs)) (fun i=>10 - i) (0) ⟨rfl,trivial⟩ ⟨Ext.refl _,⟨by omega,by omega,rfl⟩⟩ ?_
 rintro i GL0 w1 ⟨hE1,hi,hin,hL⟩
 have hX:=hX.ext hE1
 have hWL0:=hE1
 refine Ab (Ab (Aa ?_))
 refine pM ?_
 refine p1 (Bi rfl rfl) ?_
 refine Ac (t_n ?_)
 refine As rfl (fun hc6=>?_) (fun hc6=>?_)
 ·refine Ak (t_n (Ab (Ap (Ab (Ab (Aa ?_))))))
  refine pM (pM ?_)
  refine p1 (Ar u23 rfl) ?_
  refine p1 (Bw rfl rfl) ?_
  refine Ac (t_n ?_)
  refine As rfl (fun hc12=>?_) (fun hc12=>?_)
  ·have hp:grp xs=(0,3):=by rw[← hL,List.drop_of_length_le (by omega),Abh (by omega)]
   refine Ab (Aa ?_)
   refine pA (pA (Ac (t_n (Ao (t_r (b_r (t_r (t_r (b_r (t_r ?_))))))))))
   refine eR2 ?_
   exact⟨by(rw[hp];try rfl),hX⟩
  refine Ak (t_n (Ab (Aa ?_)))
  refine pM (pM ?_)
  refine p1 (Cr u23 sz5 rfl rfl ((hl.ext hX).adr Bb (by omega)) (by omega)) ?_
  refine p1 (Ae un5 rfl ((hl.ext hX).byteAt _ (by omega))) ?_
  refine p1 (Bi rfl rfl) ?_
  refine Ac (t_n ?_)
  refine As rfl (fun hc17=>?_) (fun hc17=>?_)
  ·have hp:grp xs=(i+1,0):=by rw[← hL,Gy (by omega),Ado (by omega) (by omega)]
   refine Ab (Aa ?_)
   refine pM ?_
   refine p1 (A0 rfl rfl (Am (by omega) (by omega))) ?_
   refine pA (pA (Ac (t_n (Ao (b_r (t_r (t_r (b_r (t_r ?_)))))))))
   refine eR2 ?_
   exact⟨by(rw[hp];try rfl),hX⟩
  have hp2:grpF (10 - (i+1)) (i+1) (xs.drop (i+1))=grp xs:=by rw[← hL,Gy (by omega:i<xs.length),Adp (by omega) (by omega)]
  refine Ak (b_n (t_n (Aa ?_)))
  refine pM ?_
  refine p1 (A0 rfl rfl (Am (by omega) (by omega))) ?_
  refine pA (Ac ?_)
  refine t_n (aK (i+1) ⟨rfl,trivial⟩ ?_)
  exact⟨⟨hWL0,⟨by omega,by omega,hp2⟩⟩,by((show _<_);omega)⟩
 have h10:i=10:=by omega
 have hp:grp xs=(0,4):=by rw[← hL,h10];rfl
 refine A8 (t_e (t_e (Bq (t_n (Ab (Aa ?_))))))
 refine pA (pA (Ac (t_n (Ao ?_))))
 refine eR2 ?_
 exact⟨by(rw[hp];try rfl),hX⟩
theorem Kq (xs:List UInt8) (B:Nat) (p:Option Addr) (n c:Nat) (w:World) (hl:Sl kByte 5 B w p n c xs) :
    Ret Tryz.prog 199 [.slice p n c] w (fun v w'=>v = .tuple #[.int .u64 ((getU xs).1:Int),.int .i64 ((getU xs).2.1:Int),.int .i64 (getU xs).2.2]∧Ext w w'):=by
 have hX:=Ext.refl w
 refine eN 42 Tryz.func199 ?_
 refine Ab (Aa ?_)
 refine pA (pA (pA (Ac (t_n (Ab (Aa ?_))))))
 refine pM ?_
 refine oC Tryz.func221 (Si xs _ _ _ _ _ (hl.ext hX)) ?_
 rintro v1 w1 ⟨rfl,hE1⟩
 have hX:=hX.ext hE1
 refine pM ?_
 refine p1 (Aj rfl rfl) ?_
 refine p1 (Aj rfl rfl) ?_
 refine pA (pA (Ac (t_n (Ab (Ab (Aa ?_))))))
 refine pM ?_
 refine p1 (A2 rfl rfl) ?_
 refine Ac (t_n ?_)
 refine As rfl (fun hc15=>?_) (fun hc15=>?_)
 ·have hp:getU xs=(0,0,(grp xs).2):=by rw[Ka];unfold refU;rw[if_pos hc15]
  refine Ab (Aa ?_)
  refine pM (pA (pA (pA (Ac (t_n (Ao (t_r ?_)))))))
  refine eR3 ?_
  exact⟨by(rw[hp];try rfl),hX⟩
 have he0:(grp xs).2=0:=Classical.byContradiction hc15
 have hk4:=Wu he0
 refine Ak (t_n (Ab (Aa ?_)))
 refine pA (Ac (t_n (Ab (Ab (Aa ?_)))))
 refine pM ?_
 refine p1 (Dg rfl rfl (Am (by omega) (by omega))) ?_
 refine pA (Ac (t_n (Ap ?_)))
 have hWL0:=Ext.refl w1
 have hlen:=hl.len
 have hfit:=hl.fit
 have hcap:=hl.cap
 refine Bc (ι:=Nat×Int×Nat) ([7,8]++rg 19 13) (fun (j,z,m)=>[(7,.int .u64 (m:Int)),(8,.int .i64 z)]) (fun (j,z,m) w'=>Ext w1 w'∧(z=(j:Int) - 1∧j≤(grp xs).1∧m=rv ((xs.drop j).take ((grp xs).1 - j)))) (fun (j,z,m)=>j) (((grp xs).1,((grp xs).1:Int) - 1,0)) ⟨rfl,rfl,trivial⟩ ⟨Ext.refl _,⟨rfl,Nat.le_refl _,by rw[Nat.sub_self,List.take_zero];rfl⟩⟩ ?_
 rintro⟨j,z,m⟩ GL0 w2 ⟨hE2,hz,hj,hm⟩
 have hX:=hX.ext hE2
 have hWL0:=hE2
 refine Ab (Ab (Aa ?_))
 refine pM ?_
 refine p1 (M4 rfl rfl) ?_
 refine Ac (t_n ?_)
 refine As rfl (fun hc20=>?_) (fun hc20=>?_)
 ·obtain⟨j,rfl⟩:∃ i,j=i+1:=⟨j - 1,by omega⟩
  have ez:z.toNat=j:=by omega
  refine Ak (t_n (Ab (Ap (Aa ?_))))
  refine pM ?_
  refine p1 (M1 rfl rfl (by omega)) ?_
  refine pM (pM ?_)
  refine p1 (Cs u23 sz5 rfl rfl ((hl.ext hX).adr Bb (by omega)) (by omega) (by omega)) ?_
  refine p1 (Ae un5 rfl ((hl.ext hX).byteAtI _ (by omega) (by omega))) ?_
  refine p1 ((Kl rfl rfl (by omega) (by omega)).cast (congrArg _ (by rw[ez];omega:_=(((xs.getD j 0).toNat % 128:Nat):Int)))) ?_
  refine p1 (B8 u180 us5 rfl (Ct (by omega) (by omega))) ?_
  refine p1 ((Tm rfl rfl).cast (congrArg _ (Afa m ((xs.getD j 0).toNat % 128) (Nat.mod_lt _ (by omega))))) ?_
  refine pA (Ac (b_n (t_n (Aa ?_))))
  refine pM ?_
  refine p1 (Dg rfl rfl (Am (by omega) (by omega))) ?_
  refine pA (Ac ?_)
  refine t_n (At.mk ((j,z - 1,((xs.getD j 0).toNat % 128+128 * m) % 18446744073709551616)) (by repeat (first | exact Agr.refl _ _ | exact Agr.hav _ _ _ | refine Agr.upd rfl ?_ | refine Agr.updR rfl ?_ | refine Agr.updL ?_ _ rfl | refine Agr.hav' rfl ?_)) ⟨rfl,rfl,trivial⟩ ?_)
  exact⟨⟨hWL0,⟨by omega,by omega,by rw[Ac1 (xs:=xs) (j:=j) (k:=(grp xs).1) (by omega) (by omega),← hm]⟩⟩,by(dsimp only;omega)⟩
 have hj0:j=0:=by omega
 subst hj0
 rw[List.drop_zero,Nat.sub_zero] at hm
 subst hm
 refine A8 (t_e (t_e (Bq (t_n (Ab (Ab ?_))))))
 refine Bj (fun w1 w2=>Ext w1 w2) mixed ?_
 intro w3 hE3
 have hX:=hX.ext hE3
 have hSr9:(fun w1 w2=>Ext w1 w2) w3 w3:=Ext.refl w3
 refine hT 0 rfl hSr9 (fun wS hSS=>by(exact(Af (by conv=>lhs;whnf)))) ?_
 refine hT 3 rfl hSr9 (fun wS hSS=>by(exact(Af (by conv=>lhs;whnf)))) ?_
 refine hT 4 rfl hSr9 (fun wS hSS=>by(exact(Af (by conv=>lhs;whnf)))) ?_
 refine hT 5 rfl hSr9 (fun wS hSS=>by(exact(Cv u23 sz5 rfl rfl (by omega)))) ?_
 refine hT 6 rfl hSr9 (fun wS hSS=>by(have hX:=hX.ext hSS;exact(Cg u23 u5 u9 rfl ((hl.ext hX).take (grp xs).1 (by omega))))) ?_
 refine h1L 1 (fun Q1 hQ1=>?_)
 refine oC Tryz.func197 (Ii (rv (xs.take (grp xs).1)) (Ad3 _) _) ?_
 rintro v4 w4 ⟨⟨q,l2,c2,rfl,hO⟩,hE4⟩
 have hX:=hX.ext hE4
 have hSr9:=hSr9.ext hE4
 refine An hQ1 ⟨hSr9,?_⟩
 refine h1L 2 (fun Q2 hQ2=>?_)
 refine p1 (Cg u23 u5 u9 rfl hO.sl) ?_
 refine An hQ2 ⟨hSr9,?_⟩
 refine hT 7 rfl hSr9 (fun wS hSS=>by(exact(Eg rfl rfl))) ?_
 refine A7 (by kernel_rfl) ?_
 refine t_n ?_
 refine As rfl (fun hc39=>?_) (fun hc39=>?_)
 ·have hp:getU xs=(0,0,4):=by rw[Ka];unfold refU;rw[if_neg hc15,if_neg (fun e=>hc39 (by rw[e]))]
  refine Ab (Aa ?_)
  refine pA (pA (pA (Ac (t_n (Ao (t_r ?_))))))
  refine eR3 ?_
  exact⟨by(rw[hp];try rfl),hX⟩
 have hp:getU xs=(rv (xs.take (grp xs).1),(grp xs).1,0):=by rw[Ka];unfold refU;rw[if_neg hc15,if_pos (Fm (Classical.byContradiction hc39))]
 refine Ak (t_n (Ab (Aa ?_)))
 refine pM (pM (pA (pA (pA (Ac (t_n (Ao ?_)))))))
 refine eR3 ?_
 exact⟨by(rw[hp];try rfl),hX⟩
end Go.Proofs.Eng
end
section
set_option maxRecDepth 100000
set_option maxHeartbeats 4000000
namespace Go.Proofs.Eng
open Go.RowKit
open Extern.Stop (cell)
theorem u4:Tryz.prog.underlying 4=some (.bool):=by kernel_rfl
theorem zr64:(Tryz.prog.info? 64).map (·.zero)=some (some (.agg #[.int .u8 0,.int .u8 0,.int .u8 0,.int .u8 0,.int .u8 0,.int .u8 0,.int .u8 0,.int .u8 0,.int .u8 0,.int .u8 0,.int .u8 0,.int .u8 0,.int .u8 0,.int .u8 0,.int .u8 0,.int .u8 0,.int .u8 0,.int .u8 0,.int .u8 0,.int .u8 0,.int .u8 0,.int .u8 0,.int .u8 0,.int .u8 0,.int .u8 0,.int .u8 0,.int .u8 0,.int .u8 0,.int .u8 0,.int .u8 0,.int .u8 0,.int .u8 0])):=by kernel_rfl
end Go.Proofs.Eng
end
section
set_option maxRecDepth 100000
set_option maxHeartbeats 4000000
namespace Go.Proofs.Eng
open Go.RowKit
open Extern.Stop (cell)
theorem sz174:(Tryz.prog.info? 174).map (·.size)=some 1:=by kernel_rfl
theorem sz23:(Tryz.prog.info? 23).map (·.size)=some 1:=by kernel_rfl
theorem u174:Tryz.prog.underlying 174=some (.int .u32):=by kernel_rfl
theorem u22:Tryz.prog.underlying 22=some (.slice 23):=by kernel_rfl
theorem u274:Tryz.prog.underlying 274=some (.array 16 174):=by kernel_rfl
theorem un174:(Tryz.prog.underlying 174).map TypeDesc.isRow=some false:=by kernel_rfl
theorem un23:(Tryz.prog.underlying 23).map TypeDesc.isRow=some false:=by kernel_rfl
theorem us174:(Tryz.prog.underlying 174).isSome=true:=by kernel_rfl
end Go.Proofs.Eng
end
section
set_option maxRecDepth 100000
set_option maxHeartbeats 4000000
namespace Go.Proofs.Eng
open Go.RowKit
open Extern.Stop (cell)
theorem Zf (xs:List UInt8) (B:Nat) (p:Option Addr) (n c:Nat) (w:World) (hl:Sl kByte 5 B w p n c xs) (hq:Qt w) :
    Ret Tryz.prog 194 [.slice p n c] w (fun v w'=>v = .int .u32 ((crcF xs:Nat):Int)∧Ext w w'):=by
 have hX:=Ext.refl w
 refine eN 33 Tryz.func194 ?_
 refine Ab (Aa ?_)
 refine pA (Ac (t_n (Ab (Aa ?_))))
 refine pA (Ac (t_n (Ab (Ab (Aa ?_)))))
 refine pM ?_
 refine p1 (Ar u23 rfl) ?_
 refine pM (Ac (t_n (Ap ?_)))
 have hWL0:=Ext.refl w
 have hlen:=hl.len
 have hfit:=hl.fit
 have hcap:=hl.cap
 refine Bc (ι:=Nat×Nat) ([3,5]++rg 8 23) (fun (k,s)=>[(3,.int .u32 (s:Int)),(8,.int .i64 (k:Int))]) (fun (k,s) w'=>Ext w w'∧(k≤n∧s<4294967296∧s=(xs.take k).foldl byteC 4294967295)) (fun (k,s)=>n - k) ((0,4294967295)) ⟨rfl,rfl,trivial⟩ ⟨Ext.refl _,⟨by omega,by decide,rfl⟩⟩ ?_
 rintro⟨k,s⟩ GL0 w1 ⟨hE1,hk,hs,hL⟩
 have hX:=hX.ext hE1
 have hWL0:=hE1
 refine Ab (Aa ?_)
 refine p1 (Bi rfl rfl) ?_
 refine Ac (t_n (Ab ?_))
 refine As rfl (fun hc9=>?_) (fun hc9=>?_)
 ·have hx8:=(xs.getD k 0).toNat_lt
  have hs1:(s ^^^ (xs.getD k 0).toNat)<4294967296:=Zo hs (by omega)
  refine Ak (t_n (Ab (Ap (Ab (Aa ?_)))))
  refine p1 (Cr u23 sz5 rfl rfl ((hl.ext hX).adr Bb (by omega)) (by omega)) ?_
  refine p1 (Ae un5 rfl ((hl.ext hX).byteAt _ (by omega))) ?_
  refine pA (Ac (t_n (Ab (Aa ?_))))
  refine pM (pM ?_)
  refine p1 (B8 u174 us5 rfl (F9 (by omega) (by omega))) ?_
  refine p1 ((Ef rfl rfl).cast (congrArg _ (K2 hs (by omega)))) ?_
  refine pA (Ac (t_n (Ab (Aa ?_))))
  refine pM ?_
  refine p1 ((Fa rfl rfl (by omega)).cast (congrArg _ (shr4 (s ^^^ (xs.getD k 0).toNat)))) ?_
  refine pM ?_
  refine p1 ((Iz rfl rfl).cast (congrArg _ (and15 (s ^^^ (xs.getD k 0).toNat) hs1))) ?_
  refine p1 (A6 (i:=(s ^^^ (xs.getD k 0).toNat) % 16) u274 sz174 rfl rfl (by omega)) ?_
  refine p1 (Ae un174 rfl (hq.ext hX ((s ^^^ (xs.getD k 0).toNat) % 16) (by omega))) ?_
  refine p1 ((Ef rfl rfl).cast (congrArg _ (look4 hs1))) ?_
  refine pA (Ac (t_n (Aa ?_)))
  refine pM ?_
  refine p1 ((Fa rfl rfl (by omega)).cast (congrArg _ (shr4 (step4 (s ^^^ (xs.getD k 0).toNat))))) ?_
  refine pM ?_
  refine p1 ((Iz rfl rfl).cast (congrArg _ (and15 (step4 (s ^^^ (xs.getD k 0).toNat)) (K9 hs1)))) ?_
  refine p1 (A6 (i:=(step4 (s ^^^ (xs.getD k 0).toNat)) % 16) u274 sz174 rfl rfl (by omega)) ?_
  refine p1 (Ae un174 rfl (hq.ext hX ((step4 (s ^^^ (xs.getD k 0).toNat)) % 16) (by omega))) ?_
  refine p1 ((Ef rfl rfl).cast (congrArg _ (look4 (K9 hs1)))) ?_
  refine pA (Ac (b_n (t_n (Aa ?_))))
  refine p1 (A0 rfl rfl (Am (by omega) (by omega))) ?_
  refine pM (Ac ?_)
  refine t_n (At.mk ((k+1,byteC s (xs.getD k 0))) (by repeat (first | exact Agr.refl _ _ | exact Agr.hav _ _ _ | refine Agr.upd rfl ?_ | refine Agr.updR rfl ?_ | refine Agr.updL ?_ _ rfl | refine Agr.hav' rfl ?_)) ⟨rfl,rfl,trivial⟩ ?_)
  exact⟨⟨hWL0,⟨by omega,Ab6 hs _,by rw[Pv (by omega),← hL]⟩⟩,by(dsimp only;omega)⟩
 have hp:crcF xs=4294967295 ^^^ s:=by rw[hL,List.take_of_length_le (by omega)];rfl
 refine A8 (t_e (t_e (Bq (t_n (Ab (Aa ?_))))))
 refine pM ?_
 refine p1 (N4 rfl |>.cast (congrArg _ (cplP hs))) ?_
 refine pA (Ac (t_n (Ao ?_)))
 refine eR1 ?_
 exact⟨by rw[hp],hX⟩
theorem Yy (xs:List UInt8) (B:Nat) (p:Option Addr) (n c:Nat) (w:World) (hl:Sl kByte 5 B w p n c xs) :
    Ret Tryz.prog 222 [.slice p n c] w (fun v w'=>v = .int .u32 ((crcF xs:Nat):Int)∧Ext w w'):=by
 have hX:=Ext.refl w
 refine eN 34 Tryz.func222 ?_
 refine Ab (Aa ?_)
 refine pA (Ac (t_n (Ab (Aa ?_))))
 refine pA (Ac (t_n (Ab (Ab (Aa ?_)))))
 refine pA (Ac (t_n (Ap ?_)))
 have hWL0:=Ext.refl w
 have hlen:=hl.len
 have hfit:=hl.fit
 have hcap:=hl.cap
 refine Bc (ι:=Nat×Nat) (rg 3 29) (fun (k,s)=>[(3,.int .u32 (s:Int)),(4,.int .i64 (k:Int))]) (fun (k,s) w'=>Ext w w'∧(k≤n∧s<4294967296∧s=(xs.take k).foldl byteC 4294967295)) (fun (k,s)=>n - k) ((0,4294967295)) ⟨rfl,rfl,trivial⟩ ⟨Ext.refl _,⟨by omega,by decide,rfl⟩⟩ ?_
 rintro⟨k,s⟩ GL0 w1 ⟨hE1,hk,hs,hL⟩
 have hX:=hX.ext hE1
 have hWL0:=hE1
 refine Ab (Ab (Aa ?_))
 refine pM (pM ?_)
 refine p1 (Ar u23 rfl) ?_
 refine p1 (Bi rfl rfl) ?_
 refine Ac (t_n ?_)
 refine As rfl (fun hc10=>?_) (fun hc10=>?_)
 ·have hx8:=(xs.getD k 0).toNat_lt
  have hs1:(s ^^^ (xs.getD k 0).toNat)<4294967296:=Zo hs (by omega)
  refine Ak (t_n (Ab (Ap (Ab (Aa ?_)))))
  refine pM (pM (pM ?_))
  refine p1 (Cr u23 sz5 rfl rfl ((hl.ext hX).adr Bb (by omega)) (by omega)) ?_
  refine p1 (Ae un5 rfl ((hl.ext hX).byteAt _ (by omega))) ?_
  refine p1 (B8 u174 us5 rfl (F9 (by omega) (by omega))) ?_
  refine p1 ((Ef rfl rfl).cast (congrArg _ (K2 hs (by omega)))) ?_
  refine pA (Ac (t_n (Ab (Aa ?_))))
  refine pA (Ac (t_n (Ap ?_)))
  have hWL2:=Ext.refl w1
  refine Bc (ι:=Nat×Nat) ([3,5,6]++rg 20 12) (fun (j,r)=>[(3,.int .u32 (r:Int)),(5,.int .i64 (j:Int))]) (fun (j,r) w'=>Ext w1 w'∧(j≤8∧r<4294967296∧r=stepN j (s ^^^ (xs.getD k 0).toNat))) (fun (j,r)=>8 - j) ((0,(s ^^^ (xs.getD k 0).toNat))) ⟨rfl,rfl,trivial⟩ ⟨Ext.refl _,⟨by omega,hs1,rfl⟩⟩ ?_
  rintro⟨j,r⟩ GL2 w2 ⟨hE2,hj,hr,hM⟩
  have hWL0:=hWL0.ext hE2
  have hWL2:=hE2
  refine Ab (Ab (Aa ?_))
  refine pM ?_
  refine p1 (Bi rfl rfl) ?_
  refine Ac (t_n ?_)
  refine As rfl (fun hc21=>?_) (fun hc21=>?_)
  ·refine Ak (t_n (Ab (Ap (Ab (Aa ?_)))))
   refine pM ?_
   refine p1 ((Kl rfl rfl (by omega) (by omega)).cast (congrArg _ (by omega:((r:Int) % 2)=((r % 2:Nat):Int)))) ?_
   refine p1 (Bw rfl rfl) ?_
   refine pA (Ac (t_n (Ab (Aa ?_))))
   refine pM ?_
   refine p1 ((Tl rfl rfl (by omega) (by omega) (F9 (by omega) (by omega))).cast (congrArg _ (by omega:((r:Int) / 2)=((r / 2:Nat):Int)))) ?_
   refine pA (Ac (t_n (Ab (Aa ?_))))
   refine pM (Ac (t_n ?_))
   refine As rfl (fun hc29=>?_) (fun hc29=>?_)
   ·have hst:stepC r=(r / 2) ^^^ 3988292384:=if_pos (by omega)
    refine Aa ?_
    refine pM ?_
    refine p1 ((Ef rfl rfl).cast (congrArg _ (xorP (by omega)))) ?_
    refine pA (Ac (b_n (t_n (Aa ?_))))
    refine pM ?_
    refine p1 (A0 rfl rfl (Am (by omega) (by omega))) ?_
    refine pA (Ac ?_)
    exact t_n (At.mk ((j+1,(r / 2) ^^^ 3988292384)) (by repeat (first | exact Agr.refl _ _ | exact Agr.hav _ _ _ | refine Agr.upd rfl ?_ | refine Agr.updR rfl ?_ | refine Agr.updL ?_ _ rfl | refine Agr.hav' rfl ?_)) ⟨rfl,rfl,trivial⟩ ⟨⟨hWL2,⟨by omega,hst ▸ Hz hr,by rw[← hst,hM];rfl⟩⟩,by(dsimp only;omega)⟩)
   have hst:stepC r=r / 2:=if_neg (by omega)
   refine Ak (b_n (t_n (Aa ?_)))
   refine pM ?_
   refine p1 (A0 rfl rfl (Am (by omega) (by omega))) ?_
   refine pA (Ac ?_)
   exact t_n (aK ((j+1,r / 2)) ⟨rfl,rfl,trivial⟩ ⟨⟨hWL2,⟨by omega,hst ▸ Hz hr,by rw[← hst,hM];rfl⟩⟩,by(dsimp only;omega)⟩)
  have h8:j=8:=by omega
  subst h8
  refine A8 (t_e (t_e (Bq (b_n (t_n (Aa ?_))))))
  refine pM ?_
  refine p1 (A0 rfl rfl (Am (by omega) (by omega))) ?_
  refine pA (Ac ?_)
  refine t_n (aK ((k+1,r)) ⟨rfl,rfl,trivial⟩ ?_)
  exact⟨⟨hWL0,⟨by omega,hr,by rw[Pv (by omega),← hL,hM];rfl⟩⟩,by(dsimp only;omega)⟩
 have hp:crcF xs=4294967295 ^^^ s:=by rw[hL,List.take_of_length_le (by omega)];rfl
 refine A8 (t_e (t_e (Bq (t_n (Ab (Aa ?_))))))
 refine pM ?_
 refine p1 (N4 rfl |>.cast (congrArg _ (cplP hs))) ?_
 refine pA (Ac (t_n (Ao ?_)))
 refine eR1 ?_
 exact⟨by rw[hp],hX⟩
theorem Uo {w w':World} {g s:Nat} (hN:New w w' g #[.int .u8 (UInt8.ofNat s).toNat,.int .u8 (UInt8.ofNat (s / 256)).toNat,.int .u8 (UInt8.ofNat (s / 65536)).toNat,.int .u8 (UInt8.ofNat (s / 16777216)).toNat] 5) {B0:Nat} (hB:B0≤w.heap.size) :
    Own kByte 5 0 B0 w' (some ⟨g,0,none⟩) 4 4 (le4 s) :=
  Own.made kByte 5 0 B0 hN (le4 s) ((le4 s).map fun b=>[cell b]) 4 4 rfl (B6 _ _ _) hB (by omega) (by omega) (by rfl) (by rfl)
theorem Rz (xs:List UInt8) (B:Nat) (p:Option Addr) (n c:Nat) (w:World) (hl:Sl kByte 5 B w p n c xs) (hq:Qt w) :
    Ret Tryz.prog 148 [.slice p n c] w (fun v w'=>(∃ q c',v = .slice q 4 c'∧Own kByte 5 0 w.heap.size w' q 4 c' (sumB xs))∧Ext w w'):=by
 have hX:=Ext.refl w
 refine eN 18 Tryz.func148 ?_
 refine Ab (Aa ?_)
 refine pA (Ac (t_n (Ab (Aa ?_))))
 refine pM ?_
 refine oC Tryz.func194 (Zf xs _ _ _ _ _ (hl.ext hX) (hq.ext hX)) ?_
 rintro v1 w1 ⟨rfl,hE1⟩
 have hX:=hX.ext hE1
 refine pA (Ac (t_n (Ab (Aa ?_))))
 refine pM ?_
 refine p1 ((Fd u5 us174 rfl).cast (congrArg _ (low8 (crcF xs)))) ?_
 refine pM ?_
 refine p1 ((Fa rfl rfl (by omega)).cast (congrArg _ (shr8 (crcF xs)))) ?_
 refine p1 ((Fd u5 us174 rfl).cast (congrArg _ (low8 ((crcF xs) / 256)))) ?_
 refine pM ?_
 refine p1 ((Fa rfl rfl (by omega)).cast (congrArg _ (shr16 (crcF xs)))) ?_
 refine p1 ((Fd u5 us174 rfl).cast (congrArg _ (low8 ((crcF xs) / 65536)))) ?_
 refine pM ?_
 refine p1 ((Fa rfl rfl (by omega)).cast (congrArg _ (shr24 (crcF xs)))) ?_
 refine p1 ((Fd u5 us174 rfl).cast (congrArg _ (low8 ((crcF xs) / 16777216)))) ?_
 have hXs:=hX.size
 refine Av u23 inf5 rfl (by decide) (fun base hb=>fill4 (by rfl) (by rfl) (by rfl) (by rfl) base hb) ?_
 intro w2 g17 hN17
 have hE2:=hN17.ext
 have hX:=hX.ext hE2
 have hO:=Uo hN17 (B0:=w.heap.size) hXs
 refine pA (Ac (t_n (Ao ?_)))
 refine eR1 ?_
 exact⟨⟨_,_,rfl,hO⟩,hX⟩
theorem Lg (xs:List UInt8) (B0:Nat) (p:Option Addr) (n c:Nat) (w:World) (hO:Own kByte 5 0 B0 w p n c xs) (hB0:B0≤w.heap.size) (hs:n≤140737490000000) :
    Ret Tryz.prog 200 [.slice p n c] w (fun v w'=>(∃ q c',v = .slice q (n+4) c'∧Own kByte 5 0 B0 w' q (n+4) c' (xs++sumB xs))∧Mod B0 5 w w'):=by
 have hX:=Mod.refl B0 5 w
 refine eN 20 Tryz.func200 ?_
 refine Ab (Aa ?_)
 refine pA (Ac (t_n (Ab (Aa ?_))))
 refine pM ?_
 refine oC Tryz.func222 (Yy xs _ _ _ _ _ hO.sl) ?_
 rintro v1 w1 ⟨rfl,hE1⟩
 have hX:=hX.ext hE1
 have hO:=hO.ext hE1
 refine pA (Ac (t_n (Ab (Aa ?_))))
 refine pM (pM ?_)
 refine p1 ((Fd u5 us174 rfl).cast (congrArg _ (low8 (crcF xs)))) ?_
 refine pM ?_
 refine p1 ((Fa rfl rfl (by omega)).cast (congrArg _ (shr8 (crcF xs)))) ?_
 refine p1 ((Fd u5 us174 rfl).cast (congrArg _ (low8 ((crcF xs) / 256)))) ?_
 refine pM ?_
 refine p1 ((Fa rfl rfl (by omega)).cast (congrArg _ (shr16 (crcF xs)))) ?_
 refine p1 ((Fd u5 us174 rfl).cast (congrArg _ (low8 ((crcF xs) / 65536)))) ?_
 refine pM ?_
 refine p1 ((Fa rfl rfl (by omega)).cast (congrArg _ (shr24 (crcF xs)))) ?_
 refine p1 ((Fd u5 us174 rfl).cast (congrArg _ (low8 ((crcF xs) / 16777216)))) ?_
 have hXs:=hX.size
 refine Av u23 inf5 rfl (by decide) (fun base hb=>fill4 (by rfl) (by rfl) (by rfl) (by rfl) base hb) ?_
 intro w2 g18 hN18
 have hE2:=hN18.ext
 have hX:=hX.ext hE2
 have hO:=hO.ext hE2
 have hS:=Uo hN18 (B0:=w.heap.size) hXs
 have hXs3:=hX.size
 refine Az (d:=kByte) (sumB xs) u23 inf5 rfl Bb rfl rfl hO (Fo u23 hS.sl) rfl (B6 _ _ _) (Bf _) (by omega) (by omega) (by omega) (by omega) (by decide) ?_
 intro p19 c19 w3 hO hM3
 have hX:=hX.mod hM3 (trivial)
 refine pA (Ac (t_n (Ao ?_)))
 refine eR1 ?_
 exact⟨⟨_,_,rfl,hO⟩,hX⟩
theorem Iq (xss:List (List UInt8)) (B:Nat) (p:Option Addr) (n c:Nat) (w:World) (hl:Sl (kSl kByte 5) 23 B w p n c xss) (hs:xss.flatten.length≤140737490000000) :
    Ret Tryz.prog 147 [.slice p n c] w (fun v w'=>(∃ q m c',v = .slice q m c'∧Own kByte 5 0 w.heap.size w' q m c' xss.flatten)∧Ext w w'):=by
 have hX:=Ext.refl w
 refine eN 17 Tryz.func147 ?_
 refine Ab (Aa ?_)
 refine pA (Ac (t_n (Ab (Aa ?_))))
 refine pA (Ac (t_n (Ab (Ab (Aa ?_)))))
 refine pM ?_
 refine p1 (Ar u22 rfl) ?_
 refine pM (Ac (t_n (Ap ?_)))
 have hO:Own kByte 5 0 w.heap.size w none 0 0 []:=Own.nil _ _ _ _ _
 have hlen:=hl.len
 have hfit:=hl.fit
 have hcap:=hl.cap
 refine Bc (ι:=Nat×Option Addr×Nat×Nat) ([3,5]++rg 8 8) (fun (k,q,m,d)=>[(3,.slice q m d),(8,.int .i64 (k:Int))]) (fun (k,q,m,d) w'=>Ext w w'∧(k≤n∧Own kByte 5 0 w.heap.size w' q m d (xss.take k).flatten)) (fun (k,q,m,d)=>n - k) ((0,none,0,0)) ⟨rfl,rfl,trivial⟩ ⟨hX,⟨by omega,hO⟩⟩ ?_
 rintro⟨k,q,m,d⟩ GL0 w1 ⟨hE1,hk,hO⟩
 have hX:=hE1
 refine Ab (Aa ?_)
 refine p1 (Bi rfl rfl) ?_
 refine Ac (t_n (Ab ?_))
 refine As rfl (fun hc9=>?_) (fun hc9=>?_)
 ·obtain⟨r,i,j,hcell,hrow⟩:=(hl.ext hX).slAt k (by omega)
  refine Ak (t_n (Ab (Ap (Ab (Aa ?_)))))
  refine p1 (Cr u22 sz23 rfl rfl ((hl.ext hX).adr J9 (by omega)) (by omega)) ?_
  refine p1 (Ae un23 rfl hcell) ?_
  refine pA (Ac (t_n (Aa ?_)))
  refine pM (pM ?_)
  have hol:=hO.len
  have hrl:=hrow.len
  have hft:=Hr (xss:=xss) (k:=k) (by omega)
  have hB0:=hX.size
  refine Az (d:=kByte) (xss.getD k []) u23 inf5 rfl Bb rfl rfl hO (Fo u23 hrow) hrow.len (B6 _ _ _) (Bf _) (by omega) (by omega) (by omega) (by omega) (by decide) ?_
  intro p14 c14 w2 hO hM2
  have hX:=hX.mod hM2 (Nat.le_refl _)
  refine pA (Ac (b_n (t_n (Aa ?_))))
  refine p1 (A0 rfl rfl (Am (by omega) (by omega))) ?_
  refine pM (Ac ?_)
  refine t_n (aK ((k+1,p14,m+i,c14)) ⟨rfl,rfl,trivial⟩ ?_)
  exact⟨⟨hX,⟨by omega,by rw[Fh (by omega)];exact hO⟩⟩,by(dsimp only;omega)⟩
 have hp:xss.flatten=(xss.take k).flatten:=by rw[List.take_of_length_le (by omega)]
 refine A8 (t_e (t_e (Bq (t_n (Ab (Aa ?_))))))
 refine pM (pA (Ac (t_n (Ao ?_))))
 refine eR1 ?_
 exact⟨⟨_,_,_,rfl,by rw[hp];exact hO⟩,hX⟩
end Go.Proofs.Eng
end
section
set_option maxRecDepth 100000
set_option maxHeartbeats 4000000
namespace Go.Proofs.Eng
open Go.RowKit
open Extern.Stop (cell)
theorem inf23:(Tryz.prog.info? 23).map (fun i=>(i.zero,i.size,i.bytes))=some (some (.slice none 0 0),1,24):=by kernel_rfl
end Go.Proofs.Eng
end
section
set_option maxRecDepth 100000
set_option maxHeartbeats 4000000
namespace Go.Proofs.Eng
open Go.RowKit
open Extern.Stop (cell)
theorem Pt (xs:List UInt8) (B:Nat) (p:Option Addr) (n c:Nat) (w:World) (hl:Sl kByte 5 B w p n c xs) (hq:Qt w) (kd:UInt8) (hk:kd≠0) :
    Ret Tryz.prog 104 [.int .u8 (kd.toNat:Int),.slice p n c] w (fun v w'=>(∃ q m c' e,v = .tuple #[.slice q m c',.int .i64 e]∧((e=0∧n≤1048576∧Own kByte 5 0 w.heap.size w' q m c' (sealF kd xs))∨(e=5∧1048576<n)))∧Ext w w'):=by
 have hX:=Ext.refl w
 refine eN 28 Tryz.func104 ?_
 refine Ab (Aa ?_)
 refine pA (pA (Ac (t_n (Ab (Ap (Ab (Aa ?_)))))))
 refine pM ?_
 refine p1 ((Bw rfl rfl).cast (congrArg _ (decide_eq_false (fun h=>hk (Ga.1 h))))) ?_
 refine pA (Ac (t_n ?_))
 refine c_f rfl ?_
 refine Ab ?_
 have hlen:=hl.len
 have hfit:=hl.fit
 have hcap:=hl.cap
 refine Aa ?_
 refine pM ?_
 refine p1 (Ar u23 rfl) ?_
 refine p1 (Cw rfl rfl) ?_
 refine pA (Ac (t_n ?_))
 refine As rfl (fun hc10=>?_) (fun hc10=>?_)
 ·refine Ab (Aa ?_)
  refine pA (pA (Ac (t_n (Ao (b_r (t_r ?_))))))
  refine eR2 ?_
  exact⟨⟨_,_,_,_,rfl,.inr ⟨rfl,by omega⟩⟩,hX⟩
 refine Ak (b_n (t_n (Ab ?_)))
 have hXs:=hX.size
 refine Aa ?_
 refine pM ?_
 refine Av u23 inf5 rfl (by decide) (fun base hb=>Br (by rfl) base hb) ?_
 intro w1 g15 hN15
 have hE1:=hN15.ext
 have hX:=hX.ext hE1
 have hO1:=G4 (b:=kd) hN15 hXs
 refine pM ?_
 refine p1 (Ar u23 rfl) ?_
 refine p1 (B8 u180 us3 rfl (Ct (by omega) (by omega))) ?_
 refine oC Tryz.func145 (Pi n (by omega) _) ?_
 rintro v2 w2 ⟨⟨q19,l19,c19,rfl,hU⟩,hE2⟩
 have hX:=hX.ext hE2
 have hO1:=hO1.ext hE2
 refine pM ?_
 refine Av u22 inf23 rfl (by decide) (fun base hb=>fill3 (by rfl) (by rfl) (by rfl) base hb) ?_
 intro w3 g21 hN21
 have hE3:=hN21.ext
 have hX:=hX.ext hE3
 have hO1:=hO1.ext hE3
 have hU:=hU.ext hE3
 have hJ:=Tr hN21 (hO1.sl.mono (Nat.zero_le B)) (hU.sl.mono (Nat.zero_le B)) (hl.ext hX)
 have e3:=flat3 kd xs n hl.len
 have hl10:=C9 (n:=n) (by omega)
 have hbl:=H9 kd xs
 rw[hlen] at hbl
 refine oC Tryz.func147 (Iq _ _ _ _ _ _ hJ (by rw[e3];omega)) ?_
 rintro v4 w4 ⟨⟨q22,m22,c22,rfl,hA⟩,hE4⟩
 have hX:=hX.ext hE4
 have hU:=hU.ext hE4
 have hJ:=hJ.ext hE4
 rw[e3] at hA
 have hXs22:=hX.size
 refine pA (Ac (t_n (Ab (Aa ?_))))
 refine pM (pM ?_)
 refine oC Tryz.func148 (Rz _ _ _ _ _ _ hA.sl (hq.ext hX)) ?_
 rintro v5 w5 ⟨⟨q25,c25,rfl,hU⟩,hE5⟩
 have hX:=hX.ext hE5
 have hA:=hA.ext hE5
 refine Av u22 inf23 rfl (by decide) (fun base hb=>fill2 (by rfl) (by rfl) base hb) ?_
 intro w6 g26 hN26
 have hE6:=hN26.ext
 have hX:=hX.ext hE6
 have hA:=hA.ext hE6
 have hU:=hU.ext hE6
 have hJ:=Aac hN26 hA.sl hU.sl
 have e2:=flat2 (bodyF kd xs)
 have hXs26:=hX.size
 refine oC Tryz.func147 (Iq _ _ _ _ _ _ hJ (by rw[e2,List.length_append,Ot];omega)) ?_
 rintro v7 w7 ⟨⟨q27,m27,c27,rfl,hO⟩,hE7⟩
 have hX:=hX.ext hE7
 rw[e2] at hO
 have hO:=hO.lower hXs26
 refine pA (pA (Ac (t_n (Ao ?_))))
 refine eR2 ?_
 exact⟨⟨_,_,_,_,rfl,.inl ⟨rfl,by omega,hO⟩⟩,hX⟩
theorem V7 (xs:List UInt8) (B:Nat) (p:Option Addr) (n c:Nat) (w:World) (hl:Sl kByte 5 B w p n c xs) (kd:UInt8) (hk:kd≠0) :
    Ret Tryz.prog 198 [.int .u8 (kd.toNat:Int),.slice p n c] w (fun v w'=>(∃ q m c' e,v = .tuple #[.slice q m c',.int .i64 e]∧((e=0∧n≤1048576∧Own kByte 5 0 w.heap.size w' q m c' (sealF kd xs))∨(e=5∧1048576<n)))∧Ext w w'):=by
 have hX:=Ext.refl w
 refine eN 23 Tryz.func198 ?_
 refine Ab (Aa ?_)
 refine pA (pA (Ac (t_n (Ab (Ab (Aa ?_))))))
 refine pM ?_
 refine p1 ((Bw rfl rfl).cast (congrArg _ (decide_eq_false (fun h=>hk (Ga.1 h))))) ?_
 refine Ac (t_n ?_)
 refine c_f (rfl) ?_
 refine Ak (t_n (Ab (Ab ?_)))
 have hlen:=hl.len
 have hfit:=hl.fit
 have hcap:=hl.cap
 refine Aa ?_
 refine pM ?_
 refine p1 (Ar u23 rfl) ?_
 refine p1 (Cw rfl rfl) ?_
 refine Ac (t_n ?_)
 refine As rfl (fun hc11=>?_) (fun hc11=>?_)
 ·refine Ab (Aa ?_)
  refine pA (pA (Ac (t_n (Ao (t_r ?_)))))
  refine eR2 ?_
  exact⟨⟨_,_,_,_,rfl,.inr ⟨rfl,by omega⟩⟩,hX⟩
 refine Ak (t_n (Ab ?_))
 have hXs:=hX.size
 refine Aa ?_
 refine pM ?_
 refine Av u23 inf5 rfl (by decide) (fun base hb=>Br (by rfl) base hb) ?_
 intro w1 g13 hN13
 have hE1:=hN13.ext
 have hX:=hX.ext hE1
 have hO:=G4 (b:=kd) hN13 hXs
 refine pM ?_
 refine p1 (Ar u23 rfl) ?_
 refine p1 (B8 u180 us3 rfl (Ct (by omega) (by omega))) ?_
 refine oC Tryz.func197 (Ii n (by omega) _) ?_
 rintro v2 w2 ⟨⟨q17,l17,c17,rfl,hU⟩,hE2⟩
 have hX:=hX.ext hE2
 have hO:=hO.ext hE2
 have hl10:=C9 (n:=n) (by omega)
 have hul:=hU.len
 have hbl:=H9 kd xs
 rw[hlen] at hbl
 have hB0:=hX.size
 refine Az (d:=kByte) (lebU n) u23 inf5 rfl Bb rfl rfl hO (Fo u23 hU.sl) hU.len (B6 _ _ _) (Bf _) (by omega) (by omega) (by omega) (by omega) (by decide) ?_
 intro p18 c18 w3 hO hM3
 have hX:=hX.mod hM3 (Nat.le_refl _)
 refine pA (Ac (t_n (Ab (Aa ?_))))
 refine pM (pM ?_)
 have hB0:=hX.size
 have hl2:=hl.ext hX
 refine Az (d:=kByte) (xs) u23 inf5 rfl Bb rfl rfl hO (Fo u23 hl2) hlen (B6 _ _ _) (Bf _) (by omega) (by omega) (by omega) (by omega) (by decide) ?_
 intro p21 c21 w4 hO hM4
 have hX:=hX.mod hM4 (Nat.le_refl _)
 have hB0:=hX.size
 have e3:[kd]++lebU n++xs=bodyF kd xs:=by rw[← hlen];simp[bodyF]
 rw[e3] at hO
 refine oC Tryz.func200 (Lg _ _ _ _ _ _ hO hB0 (by omega)) ?_
 rintro v5 w5 ⟨⟨q22,c22,rfl,hO⟩,hM5⟩
 have hX:=hX.mod hM5 (Nat.le_refl _)
 refine pA (pA (Ac (t_n (Ao ?_))))
 refine eR2 ?_
 exact⟨⟨_,_,_,_,rfl,.inl ⟨rfl,by omega,hO⟩⟩,hX⟩
theorem Ts (xss:List (List UInt8)) (B:Nat) (p:Option Addr) (n c:Nat) (w:World) (hl:Sl (kSl kByte 5) 23 B w p n c xss) (hs:(xss.flatMap (sealF 1)).length≤140737490000000) (hq:Qt w) :
    Ret Tryz.prog 54 [.slice p n c] w (fun v w'=>(∃ q m c',v = .tuple #[.slice q m c',.int .i64 (putF xss).2]∧Own kByte 5 0 w.heap.size w' q m c' (putF xss).1)∧Ext w w'):=by
 have hX:=Ext.refl w
 refine eN 28 Tryz.func54 ?_
 refine Ab (Aa ?_)
 refine pA (pA (Ac (t_n (Ab (Aa ?_)))))
 refine pA (Ac (t_n (Ab (Ab (Aa ?_)))))
 refine pM ?_
 refine p1 (Ar u22 rfl) ?_
 refine pM (Ac (t_n (Ap ?_)))
 have hO:Own kByte 5 0 w.heap.size w none 0 0 []:=Own.nil _ _ _ _ _
 have hlen:=hl.len
 have hfit:=hl.fit
 have hcap:=hl.cap
 refine Bc (ι:=Nat×Option Addr×Nat×Nat) ([2,3,4,6,7,8]++rg 11 16) (fun (k,q,m,d)=>[(4,.slice q m d),(11,.int .i64 (k:Int))]) (fun (k,q,m,d) w'=>Ext w w'∧(k≤n∧(∀ i,i<k→(xss.getD i []).length≤1048576)∧Own kByte 5 0 w.heap.size w' q m d ((xss.take k).flatMap (sealF 1)))) (fun (k,q,m,d)=>n - k) ((0,none,0,0)) ⟨rfl,rfl,trivial⟩ ⟨hX,⟨by omega,fun i hi=>by omega,hO⟩⟩ ?_
 rintro⟨k,q,m,d⟩ GL0 w1 ⟨hE1,hk,hok,hO⟩
 have hX:=hE1
 refine Ab (Aa ?_)
 refine p1 (Bi rfl rfl) ?_
 refine Ac (t_n (Ab ?_))
 refine As rfl (fun hc12=>?_) (fun hc12=>?_)
 ·obtain⟨r,i,j,hcell,hrow⟩:=(hl.ext hX).slAt k (by omega)
  refine Ak (t_n (Ab (Ap (Ab (Aa ?_)))))
  refine p1 (Cr u22 sz23 rfl rfl ((hl.ext hX).adr J9 (by omega)) (by omega)) ?_
  refine p1 (Ae un23 rfl hcell) ?_
  refine pA (Ac (t_n (Ab (Aa ?_))))
  refine pM ?_
  refine oC Tryz.func104 (Pt _ _ _ _ _ _ hrow (hq.ext hX) 1 (by decide)) ?_
  rintro v2 w2 ⟨⟨qs,ms,cs,es,rfl,hS⟩,hE2⟩
  have hX:=hX.ext hE2
  have hO:=hO.ext hE2
  have hrl:=hrow.len
  have hB0:=hX.size
  refine pM ?_
  refine p1 (Aj rfl rfl) ?_
  refine p1 (Aj rfl rfl) ?_
  refine pA (pA (Ac (t_n (Ab (Ab (Aa ?_))))))
  refine pM ?_
  refine p1 (A2 rfl rfl) ?_
  refine Ac (t_n ?_)
  refine As rfl (fun hc21=>?_) (fun hc21=>?_)
  ·have hp:putF xss=([],5):=Aap (i:=k) (by omega) (by rcases hS with ⟨h,_⟩ | ⟨_,h⟩;(· exact absurd h hc21);(· omega))
   have he5:es=5:=by rcases hS with ⟨h,_⟩ | ⟨h,_⟩;(· exact absurd h hc21);(· exact h)
   subst he5
   refine Ab (Aa ?_)
   refine pM (pA (pA (Ac (t_n (Ao (t_r (b_r (t_r (t_r (b_r (t_r ?_)))))))))))
   refine eR2 ?_
   exact⟨⟨_,_,_,by rw[hp],by rw[hp];exact Own.nil _ _ _ _ _⟩,hX⟩
  have hz:es=0:=Classical.byContradiction hc21
  have hsm:i≤1048576:=by rcases hS with ⟨_,h,_⟩ | ⟨h,_⟩;(· exact h);(· omega)
  have hS:=(hS.resolve_right (fun h=>by omega)).2.2
  refine Ak (t_n (Aa ?_))
  refine pM (pM ?_)
  have hol:=hO.len
  have hsl:=hS.len
  have hft:=Mt (f:=sealF 1) (xss:=xss) (k:=k) (z:=[]) (by omega)
  have hB0:=hX.size
  refine Az (d:=kByte) (sealF 1 (xss.getD k [])) u23 inf5 rfl Bb rfl rfl hO (Fo u23 hS.sl) hS.len (B6 _ _ _) (Bf _) (by omega) (by omega) (by omega) (by omega) (by decide) ?_
  intro p25 c25 w3 hO hM3
  have hX:=hX.mod hM3 (Nat.le_refl _)
  refine pA (Ac (b_n (t_n (Aa ?_))))
  refine p1 (A0 rfl rfl (Am (by omega) (by omega))) ?_
  refine pM (Ac ?_)
  refine t_n (aK ((k+1,p25,m+ms,c25)) ⟨rfl,rfl,trivial⟩ ?_)
  exact⟨⟨hX,⟨by omega,fun j hj=>if h:j<k then hok j h else by rw[show j=k from by omega];omega,by rw[Hn (z:=[]) (by omega)];exact hO⟩⟩,by(dsimp only;omega)⟩
 have hp:putF xss=((xss.take k).flatMap (sealF 1),0):=by rw[Ac6 (fun i hi=>hok i (by omega)),List.take_of_length_le (by omega)]
 refine A8 (t_e (t_e (Bq (t_n (Ab (Aa ?_))))))
 refine pM (pA (pA (Ac (t_n (Ao ?_)))))
 refine eR2 ?_
 exact⟨⟨_,_,_,by rw[hp],by rw[hp];exact hO⟩,hX⟩
end Go.Proofs.Eng
end
section
set_option maxRecDepth 100000
set_option maxHeartbeats 4000000
namespace Go.Proofs.Eng
open Go.RowKit
open Extern.Stop (cell)
theorem Adr:A3 Tryz.prog 232 0=some (31,0):=by kernel_rfl
theorem pl187:Co Tryz.prog 187=some (.agg #[.int .u8 0,.slice none 0 0],[(0,1),(1,1)]):=by kernel_rfl
theorem pl232:Co Tryz.prog 232=some (.agg #[.int .i64 0],[(0,1)]):=by kernel_rfl
theorem sz187:(Tryz.prog.info? 187).map (·.size)=some 2:=by kernel_rfl
theorem sz232:(Tryz.prog.info? 232).map (·.size)=some 1:=by kernel_rfl
theorem sz3:(Tryz.prog.info? 3).map (·.size)=some 1:=by kernel_rfl
theorem sz31:(Tryz.prog.info? 31).map (·.size)=some 1:=by kernel_rfl
theorem ua232:(Tryz.prog.underlying 232).map TypeDesc.isRow=some true:=by kernel_rfl
theorem un31:(Tryz.prog.underlying 31).map TypeDesc.isRow=some false:=by kernel_rfl
theorem zr232:(Tryz.prog.info? 232).map (·.zero)=some (some (.agg #[.int .i64 0])):=by kernel_rfl
end Go.Proofs.Eng
end
section
set_option maxRecDepth 100000
set_option maxHeartbeats 4000000
namespace Go.Proofs.Eng
open Go.RowKit
open Extern.Stop (cell)
theorem fb180:Tryz.f180.body.isNone=false:=by kernel_rfl
theorem fb181:Tryz.f181.body.isNone=false:=by kernel_rfl
theorem fn180 : ngB Tryz.f180 = false := by kernel_rfl
theorem fn181 : ngB Tryz.f181 = false := by kernel_rfl
theorem u3:Tryz.prog.underlying 3=some (.int .i64):=by kernel_rfl
theorem ua187:(Tryz.prog.underlying 187).map TypeDesc.isRow=some true:=by kernel_rfl
theorem un3:(Tryz.prog.underlying 3).map TypeDesc.isRow=some false:=by kernel_rfl
theorem zr187:(Tryz.prog.info? 187).map (·.zero)=some (some (.agg #[.int .u8 0,.slice none 0 0])):=by kernel_rfl
theorem zr3:(Tryz.prog.info? 3).map (·.zero)=some (some (.int .i64 0)):=by kernel_rfl
theorem zr31:(Tryz.prog.info? 31).map (·.zero)=some (some (.int .i64 0)):=by kernel_rfl
end Go.Proofs.Eng
end
section
set_option maxRecDepth 100000
set_option maxHeartbeats 4000000
namespace Go.Proofs.Eng
open Go.RowKit
open Extern.Stop (cell)
theorem pl201:Co Tryz.prog 201=some (.agg #[.int .u8 0,.slice none 0 0],[(0,1),(1,1)]):=by kernel_rfl
theorem sz201:(Tryz.prog.info? 201).map (·.size)=some 2:=by kernel_rfl
theorem ua201:(Tryz.prog.underlying 201).map TypeDesc.isRow=some true:=by kernel_rfl
theorem zr201:(Tryz.prog.info? 201).map (·.zero)=some (some (.agg #[.int .u8 0,.slice none 0 0])):=by kernel_rfl
end Go.Proofs.Eng
end
section
set_option maxRecDepth 100000
set_option maxHeartbeats 4000000
namespace Go.Proofs.Eng
open Go.RowKit
open Extern.Stop (cell)
theorem Xx:A3 Tryz.prog 201 0=some (5,0):=by kernel_rfl
theorem Xw:A3 Tryz.prog 201 1=some (23,1):=by kernel_rfl
theorem Abc:(Tryz.prog.info? 201).map (fun i=>(i.zero,i.size,i.bytes))=some (some (.agg #[.int .u8 0,.slice none 0 0]),2,32):=by kernel_rfl
theorem u208:Tryz.prog.underlying 208=some (.slice 201):=by kernel_rfl
end Go.Proofs.Eng
end
section
set_option maxRecDepth 100000
set_option maxHeartbeats 4000000
namespace Go.Proofs.Eng
open Go.RowKit
open Extern.Stop (cell)
theorem fb132:Tryz.f132.body.isNone=false:=by kernel_rfl
theorem fn132 : ngB Tryz.f132 = false := by kernel_rfl
theorem Xy:A3 Tryz.prog 187 0=some (5,0):=by kernel_rfl
theorem Oc:A3 Tryz.prog 187 1=some (23,1):=by kernel_rfl
theorem sz22:(Tryz.prog.info? 22).map (·.size)=some 1:=by kernel_rfl
theorem un22:(Tryz.prog.underlying 22).map TypeDesc.isRow=some false:=by kernel_rfl
theorem zr22:(Tryz.prog.info? 22).map (·.zero)=some (some (.slice none 0 0)):=by kernel_rfl
end Go.Proofs.Eng
end
section
set_option maxRecDepth 100000
set_option maxHeartbeats 4000000
namespace Go.Proofs.Eng
open Go.RowKit
open Extern.Stop (cell)
end Go.Proofs.Eng
end
section
set_option maxRecDepth 100000
set_option maxHeartbeats 4000000
namespace Go.Proofs.Eng
open Go.RowKit
open Extern.Stop (cell)
theorem sz175:(Tryz.prog.info? 175).map (·.size)=some 8:=by kernel_rfl
theorem sz213:(Tryz.prog.info? 213).map (·.size)=some 64:=by kernel_rfl
theorem u175:Tryz.prog.underlying 175=some (.array 8 174):=by kernel_rfl
theorem u213:Tryz.prog.underlying 213=some (.array 64 174):=by kernel_rfl
theorem ua175:(Tryz.prog.underlying 175).map TypeDesc.isRow=some true:=by kernel_rfl
theorem zr175:(Tryz.prog.info? 175).map (·.zero)=some (some (.agg #[.int .u32 0,.int .u32 0,.int .u32 0,.int .u32 0,.int .u32 0,.int .u32 0,.int .u32 0,.int .u32 0])):=by kernel_rfl
theorem zr213:(Tryz.prog.info? 213).map (·.zero)=some (some (.agg #[.int .u32 0,.int .u32 0,.int .u32 0,.int .u32 0,.int .u32 0,.int .u32 0,.int .u32 0,.int .u32 0,.int .u32 0,.int .u32 0,.int .u32 0,.int .u32 0,.int .u32 0,.int .u32 0,.int .u32 0,.int .u32 0,.int .u32 0,.int .u32 0,.int .u32 0,.int .u32 0,.int .u32 0,.int .u32 0,.int .u32 0,.int .u32 0,.int .u32 0,.int .u32 0,.int .u32 0,.int .u32 0,.int .u32 0,.int .u32 0,.int .u32 0,.int .u32 0,.int .u32 0,.int .u32 0,.int .u32 0,.int .u32 0,.int .u32 0,.int .u32 0,.int .u32 0,.int .u32 0,.int .u32 0,.int .u32 0,.int .u32 0,.int .u32 0,.int .u32 0,.int .u32 0,.int .u32 0,.int .u32 0,.int .u32 0,.int .u32 0,.int .u32 0,.int .u32 0,.int .u32 0,.int .u32 0,.int .u32 0,.int .u32 0,.int .u32 0,.int .u32 0,.int .u32 0,.int .u32 0,.int .u32 0,.int .u32 0,.int .u32 0,.int .u32 0])):=by kernel_rfl
end Go.Proofs.Eng
end
section
set_option maxRecDepth 100000
set_option maxHeartbeats 4000000
namespace Go.Proofs.Eng
open Go.RowKit
open Extern.Stop (cell)
theorem u176:Tryz.prog.underlying 176=some (.array 64 5):=by kernel_rfl
end Go.Proofs.Eng
end
section
set_option maxRecDepth 100000
set_option maxHeartbeats 4000000
namespace Go.Proofs.Eng
open Go.RowKit
open Extern.Stop (cell)
theorem S9:A3 Tryz.prog 178 0=some (175,0):=by kernel_rfl
theorem Xz:A3 Tryz.prog 178 1=some (176,8):=by kernel_rfl
theorem Kc:A3 Tryz.prog 178 2=some (3,72):=by kernel_rfl
theorem S8:A3 Tryz.prog 178 3=some (3,73):=by kernel_rfl
theorem pl178:Co Tryz.prog 178=some (.agg #[.int .u32 0,.int .u32 0,.int .u32 0,.int .u32 0,.int .u32 0,.int .u32 0,.int .u32 0,.int .u32 0,.int .u8 0,.int .u8 0,.int .u8 0,.int .u8 0,.int .u8 0,.int .u8 0,.int .u8 0,.int .u8 0,.int .u8 0,.int .u8 0,.int .u8 0,.int .u8 0,.int .u8 0,.int .u8 0,.int .u8 0,.int .u8 0,.int .u8 0,.int .u8 0,.int .u8 0,.int .u8 0,.int .u8 0,.int .u8 0,.int .u8 0,.int .u8 0,.int .u8 0,.int .u8 0,.int .u8 0,.int .u8 0,.int .u8 0,.int .u8 0,.int .u8 0,.int .u8 0,.int .u8 0,.int .u8 0,.int .u8 0,.int .u8 0,.int .u8 0,.int .u8 0,.int .u8 0,.int .u8 0,.int .u8 0,.int .u8 0,.int .u8 0,.int .u8 0,.int .u8 0,.int .u8 0,.int .u8 0,.int .u8 0,.int .u8 0,.int .u8 0,.int .u8 0,.int .u8 0,.int .u8 0,.int .u8 0,.int .u8 0,.int .u8 0,.int .u8 0,.int .u8 0,.int .u8 0,.int .u8 0,.int .u8 0,.int .u8 0,.int .u8 0,.int .u8 0,.int .i64 0,.int .i64 0],[(0,8),(8,64),(72,1),(73,1)]):=by kernel_rfl
theorem sz176:(Tryz.prog.info? 176).map (·.size)=some 64:=by kernel_rfl
theorem sz178:(Tryz.prog.info? 178).map (·.size)=some 74:=by kernel_rfl
theorem u132:Tryz.prog.underlying 132=some (.pointer 178):=by kernel_rfl
theorem u181:Tryz.prog.underlying 181=some (.array 8 5):=by kernel_rfl
theorem ua176:(Tryz.prog.underlying 176).map TypeDesc.isRow=some true:=by kernel_rfl
theorem ua178:(Tryz.prog.underlying 178).map TypeDesc.isRow=some true:=by kernel_rfl
theorem zr178:(Tryz.prog.info? 178).map (·.zero)=some (some (.agg #[.int .u32 0,.int .u32 0,.int .u32 0,.int .u32 0,.int .u32 0,.int .u32 0,.int .u32 0,.int .u32 0,.int .u8 0,.int .u8 0,.int .u8 0,.int .u8 0,.int .u8 0,.int .u8 0,.int .u8 0,.int .u8 0,.int .u8 0,.int .u8 0,.int .u8 0,.int .u8 0,.int .u8 0,.int .u8 0,.int .u8 0,.int .u8 0,.int .u8 0,.int .u8 0,.int .u8 0,.int .u8 0,.int .u8 0,.int .u8 0,.int .u8 0,.int .u8 0,.int .u8 0,.int .u8 0,.int .u8 0,.int .u8 0,.int .u8 0,.int .u8 0,.int .u8 0,.int .u8 0,.int .u8 0,.int .u8 0,.int .u8 0,.int .u8 0,.int .u8 0,.int .u8 0,.int .u8 0,.int .u8 0,.int .u8 0,.int .u8 0,.int .u8 0,.int .u8 0,.int .u8 0,.int .u8 0,.int .u8 0,.int .u8 0,.int .u8 0,.int .u8 0,.int .u8 0,.int .u8 0,.int .u8 0,.int .u8 0,.int .u8 0,.int .u8 0,.int .u8 0,.int .u8 0,.int .u8 0,.int .u8 0,.int .u8 0,.int .u8 0,.int .u8 0,.int .u8 0,.int .i64 0,.int .i64 0])):=by kernel_rfl
theorem zr181:(Tryz.prog.info? 181).map (·.zero)=some (some (.agg #[.int .u8 0,.int .u8 0,.int .u8 0,.int .u8 0,.int .u8 0,.int .u8 0,.int .u8 0,.int .u8 0])):=by kernel_rfl
end Go.Proofs.Eng
end
section
set_option maxRecDepth 100000
set_option maxHeartbeats 4000000
namespace Go.Proofs.Eng
open Go.RowKit
open Extern.Stop (cell)
end Go.Proofs.Eng
end
section
set_option maxRecDepth 100000
set_option maxHeartbeats 4000000
namespace Go.Proofs.Eng
open Go.RowKit
open Extern.Stop (cell)
theorem Ob:A3 Tryz.prog 205 0=some (23,0):=by kernel_rfl
theorem Lu:A3 Tryz.prog 205 1=some (3,1):=by kernel_rfl
theorem Kb:A3 Tryz.prog 243 0=some (23,0):=by kernel_rfl
theorem Lt:A3 Tryz.prog 243 1=some (31,1):=by kernel_rfl
theorem pl205:Co Tryz.prog 205=some (.agg #[.slice none 0 0,.int .i64 0],[(0,1),(1,1)]):=by kernel_rfl
theorem pl243:Co Tryz.prog 243=some (.agg #[.slice none 0 0,.int .i64 0],[(0,1),(1,1)]):=by kernel_rfl
theorem sz205:(Tryz.prog.info? 205).map (·.size)=some 2:=by kernel_rfl
theorem u192:Tryz.prog.underlying 192=some (.pointer 243):=by kernel_rfl
theorem ua205:(Tryz.prog.underlying 205).map TypeDesc.isRow=some true:=by kernel_rfl
theorem zr205:(Tryz.prog.info? 205).map (·.zero)=some (some (.agg #[.slice none 0 0,.int .i64 0])):=by kernel_rfl
end Go.Proofs.Eng
end
section
set_option maxRecDepth 100000
set_option maxHeartbeats 4000000
namespace Go.Proofs.Eng
open Go.RowKit
open Extern.Stop (cell)
theorem Dp:A3 Tryz.prog 102 2=some (100,2):=by kernel_rfl
theorem Tb:A3 Tryz.prog 102 3=some (3,3):=by kernel_rfl
theorem Hm:A3 Tryz.prog 102 4=some (3,4):=by kernel_rfl
theorem X0:A3 Tryz.prog 102 5=some (4,5):=by kernel_rfl
theorem Kf:A3 Tryz.prog 102 6=some (4,6):=by kernel_rfl
theorem sz100:(Tryz.prog.info? 100).map (·.size)=some 1:=by kernel_rfl
theorem sz113:(Tryz.prog.info? 113).map (·.size)=some 2:=by kernel_rfl
theorem sz4:(Tryz.prog.info? 4).map (·.size)=some 1:=by kernel_rfl
theorem sz9:(Tryz.prog.info? 9).map (·.size)=some 1:=by kernel_rfl
theorem u100:Tryz.prog.underlying 100=some (.map 9 113):=by kernel_rfl
theorem u34:Tryz.prog.underlying 34=some (.pointer 102):=by kernel_rfl
theorem u74:Tryz.prog.underlying 74=some (.slice 9):=by kernel_rfl
theorem un100:(Tryz.prog.underlying 100).map TypeDesc.isRow=some false:=by kernel_rfl
theorem un4:(Tryz.prog.underlying 4).map TypeDesc.isRow=some false:=by kernel_rfl
theorem un9:(Tryz.prog.underlying 9).map TypeDesc.isRow=some false:=by kernel_rfl
theorem zr113:(Tryz.prog.info? 113).map (·.zero)=some (some (.agg #[.slice none 0 0,.int .i64 0])):=by kernel_rfl
end Go.Proofs.Eng
end
section
set_option maxRecDepth 100000
set_option maxHeartbeats 4000000
namespace Go.Proofs.Eng
open Go.RowKit
open Extern.Stop (cell)
theorem Gm:A3 Tryz.prog 102 1=some (3,1):=by kernel_rfl
theorem Gk:A3 Tryz.prog 113 0=some (23,0):=by kernel_rfl
theorem Ads:A3 Tryz.prog 113 1=some (3,1):=by kernel_rfl
theorem pl113:Co Tryz.prog 113=some (.agg #[.slice none 0 0,.int .i64 0],[(0,1),(1,1)]):=by kernel_rfl
theorem ua113:(Tryz.prog.underlying 113).map TypeDesc.isRow=some true:=by kernel_rfl
theorem un34:(Tryz.prog.underlying 34).map TypeDesc.isRow=some false:=by kernel_rfl
end Go.Proofs.Eng
end
section
set_option maxRecDepth 100000
set_option maxHeartbeats 4000000
namespace Go.Proofs.Eng
open Go.RowKit
open Extern.Stop (cell)
theorem fb141:Tryz.f141.body.isNone=false:=by kernel_rfl
theorem fb142:Tryz.f142.body.isNone=false:=by kernel_rfl
theorem fb146:Tryz.f146.body.isNone=false:=by kernel_rfl
theorem fb63:Tryz.f63.body.isNone=false:=by kernel_rfl
theorem fb64:Tryz.f64.body.isNone=false:=by kernel_rfl
theorem fb65:Tryz.f65.body.isNone=false:=by kernel_rfl
theorem fn141 : ngB Tryz.f141 = false := by kernel_rfl
theorem fn142 : ngB Tryz.f142 = false := by kernel_rfl
theorem fn146 : ngB Tryz.f146 = false := by kernel_rfl
theorem fn63 : ngB Tryz.f63 = false := by kernel_rfl
theorem fn64 : ngB Tryz.f64 = false := by kernel_rfl
theorem fn65 : ngB Tryz.f65 = false := by kernel_rfl
theorem Adt:A3 Tryz.prog 102 0=some (3,0):=by kernel_rfl
theorem inf9:(Tryz.prog.info? 9).map (fun i=>(i.zero,i.size,i.bytes))=some (some (.string ByteArray.empty),1,16):=by kernel_rfl
end Go.Proofs.Eng
end
section
set_option maxRecDepth 100000
set_option maxHeartbeats 4000000
namespace Go.Proofs.Eng
open Go.RowKit
open Extern.Stop (cell)
theorem pl102:Co Tryz.prog 102=some (.agg #[.int .i64 0,.int .i64 0,.map none,.int .i64 0,.int .i64 0,.bool false,.bool false],[(0,1),(1,1),(2,1),(3,1),(4,1),(5,1),(6,1)]):=by kernel_rfl
end Go.Proofs.Eng
end
section
set_option maxRecDepth 100000
set_option maxHeartbeats 4000000
namespace Go.Proofs.Eng
open Go.RowKit
open Extern.Stop (cell)
end Go.Proofs.Eng
end
section
set_option maxRecDepth 100000
set_option maxHeartbeats 4000000
namespace Go.Proofs.Eng
open Go.RowKit
open Extern.Stop (cell)
theorem Gj:A3 Tryz.prog 119 0=some (9,0):=by kernel_rfl
theorem Ke:A3 Tryz.prog 119 1=some (9,1):=by kernel_rfl
theorem Kd:A3 Tryz.prog 119 2=some (9,2):=by kernel_rfl
theorem Cm:A3 Tryz.prog 45 1=some (43,1):=by kernel_rfl
theorem Py:A3 Tryz.prog 45 2=some (3,2):=by kernel_rfl
theorem S7:A3 Tryz.prog 45 3=some (4,3):=by kernel_rfl
theorem S6:A3 Tryz.prog 45 4=some (3,4):=by kernel_rfl
theorem Abp:A3 Tryz.prog 45 5=some (4,5):=by kernel_rfl
theorem S5:A3 Tryz.prog 45 6=some (4,6):=by kernel_rfl
theorem Gb:(Tryz.prog.info? 119).map (fun i=>(i.zero,i.size,i.bytes))=some (some (.agg #[.string ByteArray.empty,.string ByteArray.empty,.string ByteArray.empty]),3,48):=by kernel_rfl
theorem sz119:(Tryz.prog.info? 119).map (·.size)=some 3:=by kernel_rfl
theorem sz43:(Tryz.prog.info? 43).map (·.size)=some 1:=by kernel_rfl
theorem sz45:(Tryz.prog.info? 45).map (·.size)=some 7:=by kernel_rfl
theorem u43:Tryz.prog.underlying 43=some (.slice 119):=by kernel_rfl
theorem ua119:(Tryz.prog.underlying 119).map TypeDesc.isRow=some true:=by kernel_rfl
theorem ua45:(Tryz.prog.underlying 45).map TypeDesc.isRow=some true:=by kernel_rfl
theorem un43:(Tryz.prog.underlying 43).map TypeDesc.isRow=some false:=by kernel_rfl
theorem zr45:(Tryz.prog.info? 45).map (·.zero)=some (some (.agg #[.int .i64 0,.slice none 0 0,.int .i64 0,.bool false,.int .i64 0,.bool false,.bool false])):=by kernel_rfl
end Go.Proofs.Eng
end
section
set_option maxRecDepth 100000
set_option maxHeartbeats 4000000
namespace Go.Proofs.Eng
open Go.RowKit
open Extern.Stop (cell)
theorem Aer:A3 Tryz.prog 45 0=some (3,0):=by kernel_rfl
theorem pl119:Co Tryz.prog 119=some (.agg #[.string ByteArray.empty,.string ByteArray.empty,.string ByteArray.empty],[(0,1),(1,1),(2,1)]):=by kernel_rfl
theorem pl45:Co Tryz.prog 45=some (.agg #[.int .i64 0,.slice none 0 0,.int .i64 0,.bool false,.int .i64 0,.bool false,.bool false],[(0,1),(1,1),(2,1),(3,1),(4,1),(5,1),(6,1)]):=by kernel_rfl
theorem zr119:(Tryz.prog.info? 119).map (·.zero)=some (some (.agg #[.string ByteArray.empty,.string ByteArray.empty,.string ByteArray.empty])):=by kernel_rfl
end Go.Proofs.Eng
end
section
set_option maxRecDepth 100000
set_option maxHeartbeats 4000000
namespace Go.Proofs.Eng
open Go.RowKit
open Extern.Stop (cell)
end Go.Proofs.Eng
end
section
set_option maxRecDepth 100000
set_option maxHeartbeats 4000000
namespace Go.Proofs.Eng
open Go.RowKit
open Extern.Stop (cell)
theorem H0 (m:Nat) (w:World) (hs:m≤225179981368000) :
    Ret Tryz.prog 193 [.slice none 0 0,.int .i64 (m:Int)] w (fun v w'=>(∃ p c',v = .slice p 0 c'∧Own kByte 5 0 w.heap.size w' p 0 c' [])∧Ext w w'):=by
 have hX:=Ext.refl w
 refine eN 27 Tryz.func193 ?_
 refine Ab (Aa ?_)
 refine pA (Ac (t_n (Ab (Ab (Aa ?_)))))
 refine pM ?_
 refine p1 ((Bi rfl rfl).cast (congrArg _ (decide_eq_false (by omega)))) ?_
 refine Ac (t_n ?_)
 refine c_f rfl ?_
 refine Ak (t_n (Ab (Ab (Aa ?_))))
 refine pM (pM ?_)
 refine p1 (M5 u23 rfl) ?_
 refine pM ?_
 refine p1 (Ar u23 rfl) ?_
 refine p1 (Dg rfl rfl (Am (by omega) (by omega))) ?_
 refine p1 ((Dg rfl rfl (Am (by omega) (by omega))).cast (congrArg (Value.int .i64) (show _=(m:Int) by omega))) ?_
 refine pA (Ac (t_n (Ab (Aa ?_))))
 refine pM ?_
 refine p1 (Cw rfl rfl) ?_
 refine Ac (t_n ?_)
 refine As rfl (fun hc16=>?_) (fun hc16=>?_)
 ·refine Aa ?_
  refine pM (pM ?_)
  refine p1 (M5 u23 rfl) ?_
  refine p1 (Cv u23 sz5 rfl rfl (Nat.le_refl _)) ?_
  refine pM ?_
  have hXs:=hX.size
  refine Y1 (kByte) (m:=m) u23 u3 inf5 rfl Bb rfl rfl (by omega) (by omega) (by omega) ?_
  intro p22 c22 w1 hK22 hge22 hE1
  have hX:=hX.ext hE1
  have hO:=hK22 0 w.heap.size (hXs)
  refine pM ?_
  refine p1 (Ar u23 rfl) ?_
  refine p1 (Cv u23 sz5 rfl rfl (Nat.zero_le _)) ?_
  refine pA (Ac (t_n (Ab (Aa ?_))))
  refine pM (pA (Ac (t_n (Ao ?_))))
  refine eR1 ?_
  exact⟨⟨_,_,rfl,hO⟩,hX⟩
 refine Ak (t_n (Ab (Aa ?_)))
 refine pM (pA (Ac (t_n (Ao ?_))))
 refine eR1 ?_
 exact⟨⟨_,_,rfl,Own.nil _ _ _ _ _⟩,hX⟩
theorem Kx {B:Nat} (xss:List _) (p:Option Addr) (n c:Nat) (w:World) (hl:Sl (kSl kByte 5) 23 B w p n c xss) (hs:xss.flatten.length≤225179981368000) :
    Ret Tryz.prog 144 [.slice p n c] w (fun v w'=>(∃ q m c',v = .slice q m c'∧Own kByte 5 0 w.heap.size w' q m c' xss.flatten)∧Ext w w'):=by
 have hX:=Ext.refl w
 refine eN 36 Tryz.func144 ?_
 refine Ab (Aa ?_)
 refine pA (Ac (t_n (Ab (Aa ?_))))
 refine pA (Ac (t_n (Ab (Ab (Aa ?_)))))
 refine pM ?_
 refine p1 (Ar u22 rfl) ?_
 refine pM (Ac (t_n (Ap ?_)))
 have hWL0:=Ext.refl w
 have hlen:=hl.len
 have hfit:=hl.fit
 have hcap:=hl.cap
 refine Bc (ι:=Nat) ([3,5]++rg 11 12) (fun k=>[(3,.int .i64 (((xss.take k).flatten.length:Nat):Int)),(11,.int .i64 (k:Int))]) (fun k w'=>Ext w w'∧(k≤n)) (fun k=>n - k) (0) ⟨rfl,rfl,trivial⟩ ⟨Ext.refl _,by omega⟩ ?_
 rintro k GL0 w1 ⟨hE1,hL⟩
 have hX:=hX.ext hE1
 have hWL0:=hE1
 refine Ab (Aa ?_)
 refine p1 (Bi rfl rfl) ?_
 refine Ac (t_n (Ab ?_))
 refine As rfl (fun hc12=>?_) (fun hc12=>?_)
 ·refine Ak (t_n (Ab (Ap (Ab ?_))))
  obtain⟨q1,m1,c1,hcell1,hS1⟩:=(hl.ext hX).slAt k (by omega)
  have hS1l:=hS1.len
  have hadd:=Hr (xss:=xss) (k:=k) (by omega)
  have hsuc:=congrArg List.length (Fh (xss:=xss) (k:=k) (by omega))
  rw[List.length_append] at hsuc
  refine Aa ?_
  refine p1 (Cr u22 sz23 rfl rfl ((hl.ext hX).adr J9 (by omega)) (by omega)) ?_
  refine p1 (Ae un23 rfl hcell1) ?_
  refine pA (Ac (t_n (Ab (Aa ?_))))
  refine pM (pM ?_)
  refine p1 (Ar u23 rfl) ?_
  refine p1 ((A0 rfl rfl (Am (by omega) (by omega))).cast (congrArg (Value.int .i64) (show _=(((xss.take (k+1)).flatten.length:Nat):Int) by omega))) ?_
  refine pA (Ac (t_n (Ab (Aa ?_))))
  refine pM ?_
  refine p1 ((Bi rfl rfl).cast (congrArg _ (decide_eq_false (by omega)))) ?_
  refine Ac (t_n ?_)
  refine c_f rfl ?_
  refine Ak (b_n (t_n (Aa ?_)))
  refine p1 (A0 rfl rfl (Am (by omega) (by omega))) ?_
  refine pM (Ac ?_)
  refine t_n (aK (k+1) ⟨rfl,rfl,trivial⟩ ?_)
  exact⟨⟨hWL0,by omega⟩,by((show _<_);omega)⟩
 refine A8 (t_e (t_e (Bq (t_n (Ab ?_)))))
 have hle9:=Lw xss k
 have hXs:=hX.size
 refine Aa ?_
 refine pM ?_
 refine oC Tryz.func193 (H0 ((xss.take k).flatten.length:Nat) _ (by omega)) ?_
 rintro v2 w2 ⟨⟨pG,cG,rfl,hO⟩,hE2⟩
 have hX:=hX.ext hE2
 have hO:=hO.lower hXs
 refine pA (Ac (t_n (Ab (Ab (Aa ?_)))))
 refine pM ?_
 refine p1 (Ar u22 rfl) ?_
 refine pM (Ac (t_n (Ap ?_)))
 refine Bc (ι:=Nat×Option Addr×Nat×Nat) ([6,8]++rg 27 8) (fun (k2,q,m,c2)=>[(6,.slice q m c2),(27,.int .i64 (k2:Int))]) (fun (k2,q,m,c2) w'=>Ext w w'∧(Own kByte 5 0 w.heap.size w' q m c2 (xss.take k2).flatten∧k2≤n)) (fun (k2,q,m,c2)=>n - k2) ((0,pG,0,cG)) ⟨rfl,rfl,trivial⟩ ⟨hX,⟨by simpa using hO,by omega⟩⟩ ?_
 rintro⟨k2,q,m,c2⟩ GL2 w3 ⟨hE3,hO,hk2⟩
 have hX:=hE3
 refine Ab (Aa ?_)
 refine p1 (Bi rfl rfl) ?_
 refine Ac (t_n (Ab ?_))
 refine As rfl (fun hc28=>?_) (fun hc28=>?_)
 ·refine Ak (t_n (Ab (Ap (Ab ?_))))
  obtain⟨q2,m2,c3,hcell2,hS2⟩:=(hl.ext hX).slAt k2 (by omega)
  have hS2l:=hS2.len
  have hOl:=hO.len
  have hadd2:=Hr (xss:=xss) (k:=k2) (by omega)
  refine Aa ?_
  refine p1 (Cr u22 sz23 rfl rfl ((hl.ext hX).adr J9 (by omega)) (by omega)) ?_
  refine p1 (Ae un23 rfl hcell2) ?_
  refine pA (Ac (t_n (Aa ?_)))
  refine pM (pM ?_)
  have hq1:=hX.size
  refine Az (d:=kByte) (xss.getD k2 []) u23 inf5 rfl Bb rfl rfl hO (Ba u23 hS2 (by decide)) hS2.len (B6 _ _ _) (rfl) (by omega) (by omega) (by omega) (by omega) (by decide) ?_
  intro p33 c33 w4 hO hM4
  have hX:=hX.mod hM4 (Nat.le_refl _)
  refine pA (Ac (b_n (t_n (Aa ?_))))
  refine p1 (A0 rfl rfl (Am (by omega) (by omega))) ?_
  refine pM (Ac ?_)
  refine t_n (aK ((k2+1,p33,m+m2,c33)) ⟨rfl,rfl,trivial⟩ ?_)
  exact⟨⟨hX,⟨by rw[Fh (by omega)];exact hO,by omega⟩⟩,by(dsimp only;omega)⟩
 have hkn:k2=n:=by omega
 rw[hkn,List.take_of_length_le (by omega)] at hO
 refine A8 (t_e (t_e (Bq (t_n (Ab (Aa ?_))))))
 refine pM (pA (Ac (t_n (Ao ?_))))
 refine eR1 ?_
 exact⟨⟨_,_,_,rfl,hO⟩,hX⟩
end Go.Proofs.Eng
end
section
set_option maxRecDepth 100000
set_option maxHeartbeats 4000000
namespace Go.Proofs.Eng
open Go.RowKit
open Extern.Stop (cell)
theorem Lv:A3 Tryz.prog 157 0=some (3,0):=by kernel_rfl
theorem Hk:A3 Tryz.prog 157 1=some (3,1):=by kernel_rfl
theorem Ta:A3 Tryz.prog 157 2=some (23,2):=by kernel_rfl
theorem Pw:A3 Tryz.prog 99 0=some (3,0):=by kernel_rfl
theorem Jf:A3 Tryz.prog 99 1=some (3,1):=by kernel_rfl
theorem S3:A3 Tryz.prog 99 2=some (23,2):=by kernel_rfl
end Go.Proofs.Eng
end
section
set_option maxRecDepth 100000
set_option maxHeartbeats 4000000
namespace Go.Proofs.Eng
open Go.RowKit
open Extern.Stop (cell)
theorem Lm (seg size:Int) (xs:List UInt8) (B:Nat) (p:Option Addr) (n c:Nat) (w:World) (hl:Sl kByte 5 B w p n c xs) (hq:Qt w) :
    Ret Tryz.prog 97 [.agg #[.int .i64 seg,.int .i64 size,.slice p n c]] w (fun v w'=>(∃ q m c' e,v = .tuple #[.slice q m c',.int .i64 e]∧e=errM seg size xs∧((e=0∧(∃ s z:Nat,seg=(s:Int)∧size=(z:Int)∧(Mf.mk s z xs).Ok∧Own kByte 5 0 w.heap.size w' q m c' (manB ⟨s,z,xs⟩)))∨(e≠0∧¬ (∃ s z:Nat,seg=(s:Int)∧size=(z:Int)∧(Mf.mk s z xs).Ok))))∧Ext w w'):=by
 have hX:=Ext.refl w
 refine eN 43 Tryz.func97 ?_
 refine Ab (Aa ?_)
 refine Bu (by conv=>lhs;whnf) ?_
 intro w1 g1 hN1
 have hE1:=hN1.ext
 have hX:=hX.ext hE1
 have hB1:=hN1.blk
 refine pA ?_
 refine pA ?_
 refine Ac (t_n (Ab (Ap (Ab ?_))))
 have hWr1:=Ext.refl w1
 refine Dn (ι:=Unit) (rg 4 19) (fun _=>[(4,.bool (decide (seg<1∨999999<seg∨size<0∨16777216<size)))]) (fun _ w'=>Ext w1 w') ?_ ?_
 ·skip
  refine Aa ?_
  refine p1 (Ad Pw sz3 rfl) ?_
  refine p1 (Ae un3 rfl (hB1.cell (rfl))) ?_
  refine p1b (Bi rfl rfl) (fun hb1_2=>?_) (fun hb1_2=>?_)
  ·try simp only[dA,dB,dC,dD,dE,dF,dG,Int.not_lt,Int.not_le] at hb1_2
   refine pM ?_
   refine gF 8 ?_
   refine gF 8 ?_
   refine gF 8 ?_
   refine p1 (Ax rfl (by conv=>lhs;whnf)) ?_
   refine pM ?_
   refine gF 13 ?_
   refine gF 13 ?_
   refine gF 13 ?_
   refine p1 (Ax rfl (by conv=>lhs;whnf)) ?_
   refine pM ?_
   refine gF 18 ?_
   refine gF 18 ?_
   refine gF 18 ?_
   refine p1 (Ax rfl (by conv=>lhs;whnf)) ?_
   refine pA ?_
   refine Ac ?_
   refine t_n (aK () ⟨congrArg Value.bool (by exact(decide_eq_true (by omega)).symm),trivial⟩ hWr1)
  try simp only[dA,dB,dC,dD,dE,dF,dG,Int.not_lt,Int.not_le] at hb1_2
  refine pM ?_
  refine Eng.g1 8 rfl rfl (Ad Pw sz3 rfl) ?_
  refine Eng.g1 8 rfl rfl (Ae un3 rfl (hB1.cell (rfl))) ?_
  refine g1b 8 rfl rfl (Cw rfl rfl) (fun hb1_6=>?_) (fun hb1_6=>?_)
  ·try simp only[dA,dB,dC,dD,dE,dF,dG,Int.not_lt,Int.not_le] at hb1_6
   refine p1 (Au rfl (by conv=>lhs;whnf)) ?_
   refine pM ?_
   refine gF 13 ?_
   refine gF 13 ?_
   refine gF 13 ?_
   refine p1 (Ax rfl (by conv=>lhs;whnf)) ?_
   refine pM ?_
   refine gF 18 ?_
   refine gF 18 ?_
   refine gF 18 ?_
   refine p1 (Ax rfl (by conv=>lhs;whnf)) ?_
   refine pA ?_
   refine Ac ?_
   refine t_n (aK () ⟨congrArg Value.bool (by exact(decide_eq_true (by omega)).symm),trivial⟩ hWr1)
  try simp only[dA,dB,dC,dD,dE,dF,dG,Int.not_lt,Int.not_le] at hb1_6
  refine p1 (Au rfl (by conv=>lhs;whnf)) ?_
  refine pM ?_
  refine Eng.g1 13 rfl rfl (Ad Jf sz3 rfl) ?_
  refine Eng.g1 13 rfl rfl (Ae un3 rfl (hB1.cell (rfl))) ?_
  refine g1b 13 rfl rfl (Bi rfl rfl) (fun hb1_11=>?_) (fun hb1_11=>?_)
  ·try simp only[dA,dB,dC,dD,dE,dF,dG,Int.not_lt,Int.not_le] at hb1_11
   refine p1 (Au rfl (by conv=>lhs;whnf)) ?_
   refine pM ?_
   refine gF 18 ?_
   refine gF 18 ?_
   refine gF 18 ?_
   refine p1 (Ax rfl (by conv=>lhs;whnf)) ?_
   refine pA ?_
   refine Ac ?_
   refine t_n (aK () ⟨congrArg Value.bool (by exact(decide_eq_true (by omega)).symm),trivial⟩ hWr1)
  try simp only[dA,dB,dC,dD,dE,dF,dG,Int.not_lt,Int.not_le] at hb1_11
  refine p1 (Au rfl (by conv=>lhs;whnf)) ?_
  refine pM ?_
  refine Eng.g1 18 rfl rfl (Ad Jf sz3 rfl) ?_
  refine Eng.g1 18 rfl rfl (Ae un3 rfl (hB1.cell (rfl))) ?_
  refine g1b 18 rfl rfl (Cw rfl rfl) (fun hb1_16=>?_) (fun hb1_16=>?_)
  ·try simp only[dA,dB,dC,dD,dE,dF,dG,Int.not_lt,Int.not_le] at hb1_16
   refine p1 (Au rfl (by conv=>lhs;whnf)) ?_
   refine pA ?_
   refine Ac ?_
   refine t_n (aK () ⟨congrArg Value.bool (by exact(decide_eq_true (by omega)).symm),trivial⟩ hWr1)
  try simp only[dA,dB,dC,dD,dE,dF,dG,Int.not_lt,Int.not_le] at hb1_16
  refine p1 (Au rfl (by conv=>lhs;whnf)) ?_
  refine pA ?_
  refine Ac ?_
  refine t_n (aK () ⟨congrArg Value.bool (by exact(decide_eq_false (by omega)).symm),trivial⟩ hWr1)
 rintro _ Gr1 w2 hE2
 have hX:=hX.ext hE2
 have hB1:=hB1.ext hE2
 refine t_n ?_
 refine As rfl (fun hc4=>?_) (fun hc4=>?_)
 ·try simp only[dA,dB,dC,dD,dE,dF,dG,Int.not_lt,Int.not_le] at hc4
  refine Ab (Aa ?_)
  refine pA ?_
  refine pA ?_
  refine Ac (t_n (Ao (b_r (t_r ?_))))
  refine eR2 ?_
  exact⟨⟨_,_,_,_,rfl,by unfold errM;(rw[if_pos (by omega)]),.inr ⟨by decide,fun ⟨s,z,h1,h2,h3⟩=>by have:=h3.lo;have:=h3.hi;have:=h3.sz;have:=h3.ix;simp only at *;omega⟩⟩,hX⟩
 try simp only[dA,dB,dC,dD,dE,dF,dG,Int.not_lt,Int.not_le] at hc4
 refine Ab ?_
 have hlen:=hl.len
 have hfit:=hl.fit
 have hcap:=hl.cap
 refine Aa ?_
 refine p1 (Ad S3 sz23 rfl) ?_
 refine p1 (Ae un23 rfl (hB1.cell (rfl))) ?_
 refine p1 (Ar u23 rfl) ?_
 refine p1 (Cw rfl rfl) ?_
 refine pA ?_
 refine Ac (t_n ?_)
 refine As rfl (fun hc23=>?_) (fun hc23=>?_)
 ·try simp only[dA,dB,dC,dD,dE,dF,dG,Int.not_lt,Int.not_le] at hc23
  refine Ab (Aa ?_)
  refine pA ?_
  refine pA ?_
  refine Ac (t_n (Ao (b_r (t_r ?_))))
  refine eR2 ?_
  exact⟨⟨_,_,_,_,rfl,by unfold errM;(rw[if_neg (by omega),if_pos (by omega)]),.inr ⟨by decide,fun ⟨s,z,h1,h2,h3⟩=>by have:=h3.lo;have:=h3.hi;have:=h3.sz;have:=h3.ix;simp only at *;omega⟩⟩,hX⟩
 try simp only[dA,dB,dC,dD,dE,dF,dG,Int.not_lt,Int.not_le] at hc23
 obtain⟨s,rfl⟩:∃ s:Nat,seg=(s:Int):=⟨seg.toNat,by omega⟩
 obtain⟨z,rfl⟩:∃ z:Nat,size=(z:Int):=⟨size.toNat,by omega⟩
 have hok:(Mf.mk s z xs).Ok:=⟨by show 1≤s;omega,by show s≤999999;omega,by show z≤16777216;omega,by show xs.length≤524288;omega⟩
 have hmb:=Hf hok
 refine Ak (b_n (t_n (Ab ?_)))
 refine Bj (fun w1 w2=>Ext w1 w2) mixed ?_
 intro w3 hE3
 have hX:=hX.ext hE3
 have hB1:=hB1.ext hE3
 have hSr5:(fun w1 w2=>Ext w1 w2) w3 w3:=Ext.refl w3
 refine hT 0 rfl hSr5 (fun wS hSS=>by(exact(Ad Pw sz3 rfl))) ?_
 refine hT 1 rfl hSr5 (fun wS hSS=>by(have hB1:=hB1.ext hSS;exact(Ae un3 rfl (hB1.cell (rfl))))) ?_
 refine hT 2 rfl hSr5 (fun wS hSS=>by(exact(B8 u180 us3 rfl (Ct (by omega) (by omega))))) ?_
 refine hT 4 rfl hSr5 (fun wS hSS=>by(exact(Ad Jf sz3 rfl))) ?_
 refine hT 5 rfl hSr5 (fun wS hSS=>by(have hB1:=hB1.ext hSS;exact(Ae un3 rfl (hB1.cell (rfl))))) ?_
 refine hT 6 rfl hSr5 (fun wS hSS=>by(exact(B8 u180 us3 rfl (Ct (by omega) (by omega))))) ?_
 refine hT 8 rfl hSr5 (fun wS hSS=>by(exact(Ad S3 sz23 rfl))) ?_
 refine hT 9 rfl hSr5 (fun wS hSS=>by(have hB1:=hB1.ext hSS;exact(Ae un23 rfl (hB1.cell (rfl))))) ?_
 refine h1L 3 (fun Q3 hQ3=>?_)
 refine oC Tryz.func145 (Pi s (by omega) _) ?_
 rintro v4 w4 ⟨⟨q31,l31,c31,rfl,hU⟩,hE4⟩
 have hX:=hX.ext hE4
 have hB1:=hB1.ext hE4
 have hSr5:=hSr5.ext hE4
 refine An hQ3 ⟨hSr5,?_⟩
 refine h1L 7 (fun Q7 hQ7=>?_)
 refine oC Tryz.func145 (Pi z (by omega) _) ?_
 rintro v5 w5 ⟨⟨q35,l35,c35,rfl,hV⟩,hE5⟩
 have hX:=hX.ext hE5
 have hB1:=hB1.ext hE5
 have hSr5:=hSr5.ext hE5
 have hU:=hU.ext hE5
 refine An hQ7 ⟨hSr5,?_⟩
 refine h1L 10 (fun Q10 hQ10=>?_)
 refine Av u22 inf23 rfl (by decide) (fun base hb=>fill3 (by rfl) (by rfl) (by rfl) base hb) ?_
 intro w6 g38 hN38
 have hE6:=hN38.ext
 have hX:=hX.ext hE6
 have hB1:=hB1.ext hE6
 have hSr5:=hSr5.ext hE6
 have hU:=hU.ext hE6
 have hV:=hV.ext hE6
 have hJ:=Tr hN38 (hU.sl.mono (Nat.zero_le B)) (hV.sl.mono (Nat.zero_le B)) (hl.ext hX)
 have e3:[lebU s,lebU z,xs].flatten=Dx ⟨s,z,xs⟩:=by simp[Dx]
 refine An hQ10 ⟨hSr5,?_⟩
 refine h1L 11 (fun Q11 hQ11=>?_)
 refine oC Tryz.func144 (Kx _ _ _ _ _ hJ (by rw[e3];omega)) ?_
 rintro v7 w7 ⟨⟨q39,m39,c39,rfl,hO⟩,hE7⟩
 have hX:=hX.ext hE7
 have hB1:=hB1.ext hE7
 have hSr5:=hSr5.ext hE7
 have hU:=hU.ext hE7
 have hV:=hV.ext hE7
 have hJ:=hJ.ext hE7
 rw[e3] at hO
 have hol:=hO.len
 have hXs:=hX.size
 refine An hQ11 ⟨hSr5,?_⟩
 refine h1L 12 (fun Q12 hQ12=>?_)
 refine oC Tryz.func104 (Pt _ _ _ _ _ _ hO.sl (hq.ext hX) 3 (by decide)) ?_
 rintro v8 w8 ⟨⟨qs,ms,cs,es,rfl,hS⟩,hE8⟩
 have hX:=hX.ext hE8
 have hB1:=hB1.ext hE8
 have hSr5:=hSr5.ext hE8
 have hO:=hO.ext hE8
 obtain⟨rfl,_,hS⟩:=hS.resolve_right (fun h=>by omega)
 have hS:=hS.lower hXs
 refine An hQ12 ⟨hSr5,?_⟩
 refine hT 13 rfl hSr5 (fun wS hSS=>by(exact(Aj rfl rfl))) ?_
 refine hT 14 rfl hSr5 (fun wS hSS=>by(exact(Aj rfl rfl))) ?_
 refine hT 15 rfl hSr5 (fun wS hSS=>by(exact(Ah (by conv=>lhs;whnf)))) ?_
 refine hT 16 rfl hSr5 (fun wS hSS=>by(exact(Ah (by conv=>lhs;whnf)))) ?_
 refine A7 (by kernel_rfl) ?_
 refine t_n (Ao ?_)
 refine eR2 ?_
 exact⟨⟨_,_,_,_,rfl,(Ki.2 hok).symm,.inl ⟨rfl,s,z,rfl,rfl,hok,hS⟩⟩,hX⟩
theorem Qu (seg size:Int) (xs:List UInt8) (B:Nat) (p:Option Addr) (n c:Nat) (w:World) (hl:Sl kByte 5 B w p n c xs) :
    Ret Tryz.prog 152 [.agg #[.int .i64 seg,.int .i64 size,.slice p n c]] w (fun v w'=>(∃ q m c' e,v = .tuple #[.slice q m c',.int .i64 e]∧e=errM seg size xs∧((e=0∧(∃ s z:Nat,seg=(s:Int)∧size=(z:Int)∧(Mf.mk s z xs).Ok∧Own kByte 5 0 w.heap.size w' q m c' (manB ⟨s,z,xs⟩)))∨(e≠0∧¬ (∃ s z:Nat,seg=(s:Int)∧size=(z:Int)∧(Mf.mk s z xs).Ok))))∧Ext w w'):=by
 have hX:=Ext.refl w
 refine eN 45 Tryz.func152 ?_
 refine Ab (Aa ?_)
 refine Bu (by conv=>lhs;whnf) ?_
 intro w1 g1 hN1
 have hE1:=hN1.ext
 have hX:=hX.ext hE1
 have hB1:=hN1.blk
 refine pA ?_
 refine pA ?_
 refine Ac (t_n (Ab (Ap (Ab ?_))))
 have hWr1:=Ext.refl w1
 refine Dn (ι:=Unit) (rg 5 19) (fun _=>[(5,.bool (decide (seg<1∨999999<seg∨size<0∨16777216<size)))]) (fun _ w'=>Ext w1 w') ?_ ?_
 ·skip
  refine Aa ?_
  refine p1 (Ad Lv sz3 rfl) ?_
  refine p1 (Ae un3 rfl (hB1.cell (rfl))) ?_
  refine p1b (Bi rfl rfl) (fun hb1_2=>?_) (fun hb1_2=>?_)
  ·try simp only[dA,dB,dC,dD,dE,dF,dG,Int.not_lt,Int.not_le] at hb1_2
   refine pM ?_
   refine gF 9 ?_
   refine gF 9 ?_
   refine gF 9 ?_
   refine p1 (Ax rfl (by conv=>lhs;whnf)) ?_
   refine pM ?_
   refine gF 14 ?_
   refine gF 14 ?_
   refine gF 14 ?_
   refine p1 (Ax rfl (by conv=>lhs;whnf)) ?_
   refine pM ?_
   refine gF 19 ?_
   refine gF 19 ?_
   refine gF 19 ?_
   refine p1 (Ax rfl (by conv=>lhs;whnf)) ?_
   refine pA ?_
   refine Ac ?_
   refine t_n (aK () ⟨congrArg Value.bool (by exact(decide_eq_true (by omega)).symm),trivial⟩ hWr1)
  try simp only[dA,dB,dC,dD,dE,dF,dG,Int.not_lt,Int.not_le] at hb1_2
  refine pM ?_
  refine Eng.g1 9 rfl rfl (Ad Lv sz3 rfl) ?_
  refine Eng.g1 9 rfl rfl (Ae un3 rfl (hB1.cell (rfl))) ?_
  refine g1b 9 rfl rfl (Cw rfl rfl) (fun hb1_6=>?_) (fun hb1_6=>?_)
  ·try simp only[dA,dB,dC,dD,dE,dF,dG,Int.not_lt,Int.not_le] at hb1_6
   refine p1 (Au rfl (by conv=>lhs;whnf)) ?_
   refine pM ?_
   refine gF 14 ?_
   refine gF 14 ?_
   refine gF 14 ?_
   refine p1 (Ax rfl (by conv=>lhs;whnf)) ?_
   refine pM ?_
   refine gF 19 ?_
   refine gF 19 ?_
   refine gF 19 ?_
   refine p1 (Ax rfl (by conv=>lhs;whnf)) ?_
   refine pA ?_
   refine Ac ?_
   refine t_n (aK () ⟨congrArg Value.bool (by exact(decide_eq_true (by omega)).symm),trivial⟩ hWr1)
  try simp only[dA,dB,dC,dD,dE,dF,dG,Int.not_lt,Int.not_le] at hb1_6
  refine p1 (Au rfl (by conv=>lhs;whnf)) ?_
  refine pM ?_
  refine Eng.g1 14 rfl rfl (Ad Hk sz3 rfl) ?_
  refine Eng.g1 14 rfl rfl (Ae un3 rfl (hB1.cell (rfl))) ?_
  refine g1b 14 rfl rfl (Bi rfl rfl) (fun hb1_11=>?_) (fun hb1_11=>?_)
  ·try simp only[dA,dB,dC,dD,dE,dF,dG,Int.not_lt,Int.not_le] at hb1_11
   refine p1 (Au rfl (by conv=>lhs;whnf)) ?_
   refine pM ?_
   refine gF 19 ?_
   refine gF 19 ?_
   refine gF 19 ?_
   refine p1 (Ax rfl (by conv=>lhs;whnf)) ?_
   refine pA ?_
   refine Ac ?_
   refine t_n (aK () ⟨congrArg Value.bool (by exact(decide_eq_true (by omega)).symm),trivial⟩ hWr1)
  try simp only[dA,dB,dC,dD,dE,dF,dG,Int.not_lt,Int.not_le] at hb1_11
  refine p1 (Au rfl (by conv=>lhs;whnf)) ?_
  refine pM ?_
  refine Eng.g1 19 rfl rfl (Ad Hk sz3 rfl) ?_
  refine Eng.g1 19 rfl rfl (Ae un3 rfl (hB1.cell (rfl))) ?_
  refine g1b 19 rfl rfl (Cw rfl rfl) (fun hb1_16=>?_) (fun hb1_16=>?_)
  ·try simp only[dA,dB,dC,dD,dE,dF,dG,Int.not_lt,Int.not_le] at hb1_16
   refine p1 (Au rfl (by conv=>lhs;whnf)) ?_
   refine pA ?_
   refine Ac ?_
   refine t_n (aK () ⟨congrArg Value.bool (by exact(decide_eq_true (by omega)).symm),trivial⟩ hWr1)
  try simp only[dA,dB,dC,dD,dE,dF,dG,Int.not_lt,Int.not_le] at hb1_16
  refine p1 (Au rfl (by conv=>lhs;whnf)) ?_
  refine pA ?_
  refine Ac ?_
  refine t_n (aK () ⟨congrArg Value.bool (by exact(decide_eq_false (by omega)).symm),trivial⟩ hWr1)
 rintro _ Gr1 w2 hE2
 have hX:=hX.ext hE2
 have hB1:=hB1.ext hE2
 refine t_n ?_
 refine As rfl (fun hc5=>?_) (fun hc5=>?_)
 ·try simp only[dA,dB,dC,dD,dE,dF,dG,Int.not_lt,Int.not_le] at hc5
  refine Ab (Aa ?_)
  refine pA ?_
  refine pA ?_
  refine Ac (t_n (Ao (b_r (t_r ?_))))
  refine eR2 ?_
  exact⟨⟨_,_,_,_,rfl,by unfold errM;(rw[if_pos (by omega)]),.inr ⟨by decide,fun ⟨s,z,h1,h2,h3⟩=>by have:=h3.lo;have:=h3.hi;have:=h3.sz;have:=h3.ix;simp only at *;omega⟩⟩,hX⟩
 try simp only[dA,dB,dC,dD,dE,dF,dG,Int.not_lt,Int.not_le] at hc5
 refine Ab ?_
 have hlen:=hl.len
 have hfit:=hl.fit
 have hcap:=hl.cap
 refine Aa ?_
 refine p1 (Ad Ta sz23 rfl) ?_
 refine p1 (Ae un23 rfl (hB1.cell (rfl))) ?_
 refine p1 (Ar u23 rfl) ?_
 refine p1 (Cw rfl rfl) ?_
 refine pA ?_
 refine Ac (t_n ?_)
 refine As rfl (fun hc24=>?_) (fun hc24=>?_)
 ·try simp only[dA,dB,dC,dD,dE,dF,dG,Int.not_lt,Int.not_le] at hc24
  refine Ab (Aa ?_)
  refine pA ?_
  refine pA ?_
  refine Ac (t_n (Ao (b_r (t_r ?_))))
  refine eR2 ?_
  exact⟨⟨_,_,_,_,rfl,by unfold errM;(rw[if_neg (by omega),if_pos (by omega)]),.inr ⟨by decide,fun ⟨s,z,h1,h2,h3⟩=>by have:=h3.lo;have:=h3.hi;have:=h3.sz;have:=h3.ix;simp only at *;omega⟩⟩,hX⟩
 try simp only[dA,dB,dC,dD,dE,dF,dG,Int.not_lt,Int.not_le] at hc24
 obtain⟨s,rfl⟩:∃ s:Nat,seg=(s:Int):=⟨seg.toNat,by omega⟩
 obtain⟨z,rfl⟩:∃ z:Nat,size=(z:Int):=⟨size.toNat,by omega⟩
 have hok:(Mf.mk s z xs).Ok:=⟨by show 1≤s;omega,by show s≤999999;omega,by show z≤16777216;omega,by show xs.length≤524288;omega⟩
 have hmb:=Hf hok
 have hs10:=C9 (n:=s) (by omega)
 have hz10:=C9 (n:=z) (by omega)
 refine Ak (b_n (t_n (Ab ?_)))
 refine Bj (fun w1 w2=>Ext w1 w2) mixed ?_
 intro w3 hE3
 have hX:=hX.ext hE3
 have hB1:=hB1.ext hE3
 have hSr5:(fun w1 w2=>Ext w1 w2) w3 w3:=Ext.refl w3
 refine hT 0 rfl hSr5 (fun wS hSS=>by(exact(Ad Lv sz3 rfl))) ?_
 refine hT 1 rfl hSr5 (fun wS hSS=>by(have hB1:=hB1.ext hSS;exact(Ae un3 rfl (hB1.cell (rfl))))) ?_
 refine hT 2 rfl hSr5 (fun wS hSS=>by(exact(B8 u180 us3 rfl (Ct (by omega) (by omega))))) ?_
 refine hT 4 rfl hSr5 (fun wS hSS=>by(exact(Ad Hk sz3 rfl))) ?_
 refine hT 5 rfl hSr5 (fun wS hSS=>by(have hB1:=hB1.ext hSS;exact(Ae un3 rfl (hB1.cell (rfl))))) ?_
 refine hT 6 rfl hSr5 (fun wS hSS=>by(exact(B8 u180 us3 rfl (Ct (by omega) (by omega))))) ?_
 refine h1L 3 (fun Q3 hQ3=>?_)
 have hXs3:=hX.size
 have hs5:=hSr5.size
 refine oC Tryz.func197 (Ii s (by omega) _) ?_
 rintro v4 w4 ⟨⟨q32,l32,c32,rfl,hU⟩,hE4⟩
 have hX:=hX.ext hE4
 have hB1:=hB1.ext hE4
 have hSr5:=hSr5.ext hE4
 have hz3:=hE4.size
 refine An hQ3 ⟨hSr5,?_⟩
 refine h1L 7 (fun Q7 hQ7=>?_)
 refine oC Tryz.func197 (Ii z (by omega) _) ?_
 rintro v5 w5 ⟨⟨q36,l36,c36,rfl,hV⟩,hE5⟩
 have hX:=hX.ext hE5
 have hB1:=hB1.ext hE5
 have hSr5:=hSr5.ext hE5
 have hU:=hU.ext hE5
 have hz7:=hE5.size
 refine An hQ7 ⟨hSr5,?_⟩
 refine h1L 8 (fun Q8 hQ8=>?_)
 have hul:=hU.len
 have hvl:=hV.len
 have hXs8:=hX.size
 refine Az (d:=kByte) (lebU z) u23 inf5 rfl Bb rfl rfl hU (Fo u23 hV.sl) hV.len (B6 _ _ _) (Bf _) (by omega) (by omega) (by omega) (by omega) (by decide) ?_
 intro p37 c37 w6 hU hM6
 have hX:=hX.mod hM6 (hXs3)
 have hB1:=hB1.mod hM6 (by decide)
 have hSr5:=hSr5.mod hM6 hs5
 have hz8:=hM6.size
 refine An hQ8 ⟨hSr5,?_⟩
 refine hT 9 rfl hSr5 (fun wS hSS=>by(exact(Ah (by conv=>lhs;whnf)))) ?_
 refine A7 (by kernel_rfl) ?_
 refine t_n (Ab (Aa ?_))
 refine pM ?_
 refine p1 (Ad Ta sz23 rfl) ?_
 refine p1 (Ae un23 rfl (hB1.cell (rfl))) ?_
 have hl2:=hl.ext hX
 have hXs6:=hX.size
 refine Az (d:=kByte) (xs) u23 inf5 rfl Bb rfl rfl hU (Fo u23 hl2) hl2.len (B6 _ _ _) (Bf _) (by omega) (by omega) (by omega) (by omega) (by decide) ?_
 intro p41 c41 w7 hU hM7
 have hX:=hX.mod hM7 (hXs3)
 have hB1:=hB1.mod hM7 (by decide)
 rw[List.append_assoc] at hU
 have hU:Own kByte 5 0 _ _ _ _ _ (Dx ⟨s,z,xs⟩):=hU
 have hol:=hU.len
 have hXs:=hX.size
 refine oC Tryz.func198 (V7 _ _ _ _ _ _ hU.sl 3 (by decide)) ?_
 rintro v8 w8 ⟨⟨qs,ms,cs,es,rfl,hS⟩,hE8⟩
 have hX:=hX.ext hE8
 have hB1:=hB1.ext hE8
 have hU:=hU.ext hE8
 obtain⟨rfl,_,hS⟩:=hS.resolve_right (fun h=>by omega)
 have hS:=hS.lower hXs
 refine p1 (Aj rfl rfl) ?_
 refine p1 (Aj rfl rfl) ?_
 refine pA ?_
 refine pA ?_
 refine Ac (t_n (Ao ?_))
 refine eR2 ?_
 exact⟨⟨_,_,_,_,rfl,(Ki.2 hok).symm,.inl ⟨rfl,s,z,rfl,rfl,hok,hS⟩⟩,hX⟩
end Go.Proofs.Eng
end
section
set_option maxRecDepth 100000
set_option maxHeartbeats 4000000
namespace Go.Proofs.Eng
open Go.RowKit
open Extern.Stop (cell)
def Rdr (w:World) (g:Nat) (R:List UInt8) (err:Int):Prop:=∃ q m c,Blk w g #[.slice q m c,.int .i64 err] 243∧Sl kByte 5 0 w q m c R
theorem Rdr.ext {w w':World} {g:Nat} {R:List UInt8} {err:Int} (h:Rdr w g R err) (x:Ext w w'):Rdr w' g R err:=by
  obtain⟨q,m,c,h1,h2⟩:=h
  exact⟨q,m,c,h1.ext x,h2.ext x⟩
theorem Rdr.mod {w w':World} {g:Nat} {R:List UInt8} {err:Int} (h:Rdr w g R err) {B:Nat} {t:TypeId} (m:Mod B t w w') (_:0≤B) (ht:t∉[243,5]):Rdr w' g R err:=by
  obtain⟨q,m',c,h1,h2⟩:=h
  exact⟨q,m',c,h1.mod m (fun e=>ht (by simp[e])),h2.mod m (Nat.zero_le _) (fun e=>ht (by simp[kByte,Kind.pure] at e;simp[e]))⟩
theorem Aa6 (xs:List UInt8) (B:Nat) (p:Option Addr) (n c:Nat) (w:World) (hl:Sl kByte 5 B w p n c xs) (hs:n≤140737490000000) :
    Ret Tryz.prog 136 [.slice p n c] w (fun v w'=>(∃ g,v = .pointer (some ⟨g,0,none⟩)∧w.heap.size≤g∧Rdr w' g xs 0)∧Ext w w'):=by
 have hX:=Ext.refl w
 refine eN 14 Tryz.func136 ?_
 refine Ab (Aa ?_)
 refine pA (Ac (t_n (Ab (Aa ?_))))
 refine pM ?_
 have hO0:Own kByte 5 0 w.heap.size w none 0 0 []:=Own.nil _ _ _ _ _
 have hB0:=hX.size
 have hl2:=hl.ext hX
 refine Az (d:=kByte) (xs) u23 inf5 rfl Bb rfl rfl hO0 (Ba u23 hl2 (by decide)) hl.len (B6 _ _ _) (rfl) (by omega) (by omega) (by omega) (by omega) (by decide) ?_
 intro p5 c5 w1 hO hM1
 have hX:=hX.mod hM1 (Nat.le_refl _)
 rw[List.nil_append,Nat.zero_add] at hO
 refine pA (Ac (t_n (Ab (Aa ?_))))
 refine pM (pM ?_)
 refine p1 (Ar u23 rfl) ?_
 refine pM ?_
 refine p1 (Ar u23 rfl) ?_
 refine p1 (Tj u23 sz5 rfl rfl rfl (Nat.le_refl _) (by have:=hO.small;omega)) ?_
 refine p1 (M7 pl243 (by conv=>lhs;whnf) rfl) ?_
 have hX2:=hX.size
 have hsm:=hO.small
 refine Bu (by conv=>lhs;whnf) ?_
 intro w2 g13 hN13
 have hE2:=hN13.ext
 have hX:=hX.ext hE2
 have hO:=hO.ext hE2
 have hB13:=hN13.blk
 refine pA (Ac (t_n (Ao ?_)))
 refine eR1 ?_
 exact⟨⟨_,rfl,by have:=hN13.g_eq;omega,_,_,_,hB13,by have h9:=hO.sl;exact⟨h9.len,Nat.le_refl _,by omega,h9.row⟩⟩,hX⟩
theorem Wa (R:List UInt8) (g:Nat) (err:Int) (w:World) (hR:Rdr w g R err) :
    Ret Tryz.prog 139 [.pointer (some ⟨g,0,none⟩)] w (fun v w'=>v = .int .i64 err∧Ext w w'):=by
 obtain⟨q,m,c,hB,hS⟩:=hR
 have hX:=Ext.refl w
 refine eN 9 Tryz.func139 ?_
 refine Ab (Aa ?_)
 refine pA (Ac (t_n (Ab (Ab (Aa ?_)))))
 refine pM ?_
 refine p1 ((Cc u192 rfl rfl).cast (congrArg _ (decide_eq_false (by simp)))) ?_
 refine Ac (t_n ?_)
 refine c_f rfl ?_
 refine Ak (t_n (Ab (Aa ?_)))
 refine pM ?_
 refine p1 (Ag rfl) ?_
 refine p1 (Ad Lt sz31 rfl) ?_
 refine p1 (Ae un31 rfl (hB.cell (rfl))) ?_
 refine pA (Ac (t_n (Ao ?_)))
 refine eR1 ?_
 exact⟨rfl,hX⟩
theorem T6 (R:List UInt8) (g:Nat) (err:Int) (w:World) (hR:Rdr w g R err) :
    Ret Tryz.prog 138 [.pointer (some ⟨g,0,none⟩)] w (fun v w'=>v = .int .i64 (R.length:Int)∧Ext w w'):=by
 obtain⟨q,m,c,hB,hS⟩:=hR
 have hX:=Ext.refl w
 refine eN 10 Tryz.func138 ?_
 refine Ab (Aa ?_)
 refine pA (Ac (t_n (Ab (Ab (Aa ?_)))))
 refine pM ?_
 refine p1 ((Cc u192 rfl rfl).cast (congrArg _ (decide_eq_false (by simp)))) ?_
 refine Ac (t_n ?_)
 refine c_f rfl ?_
 refine Ak (t_n (Ab (Aa ?_)))
 refine pM ?_
 refine p1 (Ag rfl) ?_
 refine p1 (Ad Kb sz23 rfl) ?_
 refine p1 (Ae un23 rfl (hB.cell (rfl))) ?_
 refine p1 (Ar u23 rfl) ?_
 refine pA (Ac (t_n (Ao ?_)))
 refine eR1 ?_
 exact⟨by rw[hS.len],hX⟩
theorem Nc (R:List UInt8) (g:Nat) (err:Int) (w:World) (hR:Rdr w g R err) (e:Int) (used:Nat) (hu:used≤R.length) :
    Ret Tryz.prog 191 [.pointer (some ⟨g,0,none⟩),.int .i64 (used:Int),.int .i64 e] w (fun v w'=>v = .bool (decide ((if err=0 then e else err)=0))∧Rdr w' g (if (if err=0 then e else err)=0 then R.drop used else R) (if err=0 then e else err)∧Mod g 243 w w'):=by
 obtain⟨q,m,c,hB,hS⟩:=hR
 have hX:=Mod.refl g 243 w
 refine eN 30 Tryz.func191 ?_
 refine Ab (Aa ?_)
 refine pA (Ac (t_n (Ab (Ab ?_))))
 have hlen:=hS.len
 refine Aa ?_
 refine pM ?_
 refine p1 (Ag rfl) ?_
 refine p1 (Ad Lt sz31 rfl) ?_
 refine p1 (Ae un31 rfl (hB.cell (rfl))) ?_
 refine p1 (Bw rfl rfl) ?_
 refine Ac (t_n ?_)
 refine As rfl (fun hc11=>?_) (fun hc11=>?_)
 ·have h2:(if err=0 then e else err)=e:=if_pos hc11
  refine Aa ?_
  refine pM (pM ?_)
  refine p1 (Ag rfl) ?_
  refine p1 (Ad Lt sz31 rfl) ?_
  refine Aw rfl (by conv=>lhs;whnf) rfl rfl sz31 hB (by simp) ?_
  intro w1 hP1
  have hX:=hX.putB hP1 (Nat.le_refl _)
  have hB:=hP1.blk
  try simp only[List.setIfInBounds_toArray,List.set_cons_zero,List.set_cons_succ] at hB
  have hS:=hS.mod (hP1.mod 0 (Nat.zero_le _)) (Nat.zero_le _) (by decide)
  refine Ac (t_n (Ab (Ab (Aa ?_))))
  refine pM ?_
  refine p1 (Ag rfl) ?_
  refine p1 (Ad Lt sz31 rfl) ?_
  refine p1 (Ae un31 rfl (hB.cell (rfl))) ?_
  refine p1 (A2 rfl rfl) ?_
  refine Ac (t_n ?_)
  refine As rfl (fun hc20=>?_) (fun hc20=>?_)
  ·refine Ab (Aa ?_)
   refine pA (Ac (t_n (Ao (t_r ?_))))
   refine eR1 ?_
   rw[h2]
   exact⟨congrArg Value.bool (decide_eq_false (by omega)).symm,by rw[if_neg (by omega)];exact⟨_,_,_,hB,hS⟩,hX⟩
  refine Ak (t_n (Ab (Aa ?_)))
  refine pM (pM ?_)
  refine p1 (Ag rfl) ?_
  refine p1 (Ad Kb sz23 rfl) ?_
  refine p1 (Ae un23 rfl (hB.cell (rfl))) ?_
  refine pM ?_
  refine p1 (Bs u23 sz5 rfl rfl (by omega)) ?_
  refine p1 (Ag rfl) ?_
  refine p1 (Ad Kb sz23 rfl) ?_
  refine Aw rfl (by conv=>lhs;whnf) rfl rfl sz23 hB (by simp) ?_
  intro w2 hP2
  have hX:=hX.putB hP2 (Nat.le_refl _)
  have hB:=hP2.blk
  try simp only[List.setIfInBounds_toArray,List.set_cons_zero,List.set_cons_succ] at hB
  have hS:=hS.mod (hP2.mod 0 (Nat.zero_le _)) (Nat.zero_le _) (by decide)
  refine Ac (t_n (Ab (Aa ?_)))
  refine pA (Ac (t_n (Ao ?_)))
  refine eR1 ?_
  rw[h2]
  exact⟨congrArg Value.bool (decide_eq_true (by omega)).symm,by rw[if_pos (by omega)];exact⟨_,_,_,hB,hS.dropI used (by omega)⟩,hX⟩
 have h2:(if err=0 then e else err)=err:=if_neg hc11
 refine Ak (t_n (Ab (Ab (Aa ?_))))
 refine pM ?_
 refine p1 (Ag rfl) ?_
 refine p1 (Ad Lt sz31 rfl) ?_
 refine p1 (Ae un31 rfl (hB.cell (rfl))) ?_
 refine p1 (A2 rfl rfl) ?_
 refine Ac (t_n ?_)
 refine As rfl (fun hc20=>?_) (fun hc20=>?_)
 ·refine Ab (Aa ?_)
  refine pA (Ac (t_n (Ao (t_r ?_))))
  refine eR1 ?_
  rw[h2]
  exact⟨congrArg Value.bool (decide_eq_false (by omega)).symm,by rw[if_neg (by omega)];exact⟨_,_,_,hB,hS⟩,hX⟩
 refine Ak (t_n (Ab (Aa ?_)))
 refine pM (pM ?_)
 refine p1 (Ag rfl) ?_
 refine p1 (Ad Kb sz23 rfl) ?_
 refine p1 (Ae un23 rfl (hB.cell (rfl))) ?_
 refine pM ?_
 refine p1 (Bs u23 sz5 rfl rfl (by omega)) ?_
 refine p1 (Ag rfl) ?_
 refine p1 (Ad Kb sz23 rfl) ?_
 refine Aw rfl (by conv=>lhs;whnf) rfl rfl sz23 hB (by simp) ?_
 intro w3 hP3
 have hX:=hX.putB hP3 (Nat.le_refl _)
 have hB:=hP3.blk
 try simp only[List.setIfInBounds_toArray,List.set_cons_zero,List.set_cons_succ] at hB
 have hS:=hS.mod (hP3.mod 0 (Nat.zero_le _)) (Nat.zero_le _) (by decide)
 refine Ac (t_n (Ab (Aa ?_)))
 refine pA (Ac (t_n (Ao ?_)))
 refine eR1 ?_
 rw[h2]
 exact⟨congrArg Value.bool (decide_eq_true (by omega)).symm,by rw[if_pos (by omega)];exact⟨_,_,_,hB,hS.dropI used (by omega)⟩,hX⟩
theorem Lh (R:List UInt8) (g:Nat) (err:Int) (w:World) (hR:Rdr w g R err) (mo:Nat) :
    Ret Tryz.prog 137 [.pointer (some ⟨g,0,none⟩),.int .u64 (mo:Int)] w (fun v w'=>∃ (N:Nat) (err':Int) (R':List UInt8),v = .int .u64 (N:Int)∧N≤mo∧Rdr w' g R' err'∧Took (pNum mo R) (err≠0) (err'≠0) N R R'∧Mod g 243 w w'):=by
 obtain⟨q,m,c,hB,hS⟩:=hR
 have hX:=Mod.refl g 243 w
 refine eN 32 Tryz.func137 ?_
 refine Ab (Aa ?_)
 refine pA ?_
 refine Ac (t_n (Ab (Ab (Aa ?_))))
 refine pM ?_
 refine p1 ((Cc u192 rfl rfl).cast (congrArg _ (decide_eq_false (by simp)))) ?_
 refine Ac (t_n ?_)
 refine c_f rfl ?_
 refine Ak (t_n (Ab (Aa ?_)))
 refine pM ?_
 refine p1 (Ag rfl) ?_
 refine p1 (Ad Kb sz23 rfl) ?_
 refine p1 (Ae un23 rfl (hB.cell (rfl))) ?_
 refine oC Tryz.func182 (Ng R _ _ _ _ _ hS) ?_
 rintro v1 w1 ⟨rfl,hE1⟩
 have hX:=hX.ext hE1
 have hB:=hB.ext hE1
 have hS:=hS.ext hE1
 refine pM ?_
 refine p1 (Aj rfl rfl) ?_
 refine p1 (Aj rfl rfl) ?_
 refine p1 (Aj rfl rfl) ?_
 refine pA ?_
 refine pA ?_
 refine pA ?_
 refine Ac (t_n (Ab (Ab (Aa ?_))))
 refine pM ?_
 refine Xu 6 [20,21,22,23,24,25] [(25,.bool (decide ((getU R).2.2=0∧(mo:Int)<((getU R).1:Int))))] ?_ ?_
 ·skip
  refine p1 (Bw rfl rfl) ?_
  refine p1b (Af (by conv=>lhs;whnf)) (fun hb4_2=>?_) (fun hb4_2=>?_)
  ·try simp only[dA,dB,dC,dD,dE,dF,dG,Int.not_lt,Int.not_le] at hb4_2
   refine gM 21 ?_
   refine gM 21 ?_
   refine Eng.g1 21 rfl rfl (Cw rfl rfl) ?_
   refine p1 (Ax rfl (by conv=>lhs;whnf)) ?_
   exact F5 rfl (by repeat (first | exact Agr.refl _ _ | exact Agr.hav _ _ _ | refine Agr.upd rfl ?_ | refine Agr.updR rfl ?_ | refine Agr.updL ?_ _ rfl | refine Agr.hav' rfl ?_)) ⟨congrArg Value.bool (by exact decide_eq_decide.2 (by omega)),trivial⟩
  try simp only[dA,dB,dC,dD,dE,dF,dG,Int.not_lt,Int.not_le] at hb4_2
  refine gF 21 ?_
  refine gF 21 ?_
  refine gF 21 ?_
  refine p1 (Au rfl (by conv=>lhs;whnf)) ?_
  exact F5 rfl (by repeat (first | exact Agr.refl _ _ | exact Agr.hav _ _ _ | refine Agr.upd rfl ?_ | refine Agr.updR rfl ?_ | refine Agr.updL ?_ _ rfl | refine Agr.hav' rfl ?_)) ⟨congrArg Value.bool (by exact(decide_eq_false (by omega)).symm),trivial⟩
 intro Gr4_1
 refine Ac (t_n ?_)
 refine As rfl (fun hc25=>?_) (fun hc25=>?_)
 ·try simp only[dA,dB,dC,dD,dE,dF,dG,Int.not_lt,Int.not_le] at hc25
  obtain⟨e5,he5⟩:∃ x:Int,x=5:=⟨_,rfl⟩
  refine Aa ?_
  refine pA ?_
  refine Ac (t_n (Ab (Ab (Aa ?_))))
  refine pM ?_
  refine pM ?_
  refine pM ?_
  refine oC Tryz.func191 (Nc R g err _ ⟨_,_,_,hB,hS⟩ _ _ (Gv R)) ?_
  rintro v2 w2 ⟨rfl,hR2,hM2⟩
  have hX:=hX.mod hM2 (trivial)
  refine p1 (Ez rfl) ?_
  refine Ac (t_n ?_)
  refine As rfl (fun hc30=>?_) (fun hc30=>?_)
  ·try simp only[dA,dB,dC,dD,dE,dF,dG,Int.not_lt,Int.not_le] at hc30
   subst he5
   have hne:=hc30
   refine Ab (Aa ?_)
   refine pA ?_
   refine Ac (t_n (Ao (t_r ?_)))
   refine eR1 ?_
   (rw[if_neg hne] at hR2
    exact⟨0,_,_,rfl,by omega,hR2,Hv hne fun hn=>by
      unfold pNum;rw[if_pos (by omega)] at hne;exact if_neg (by omega),hX⟩)
  try simp only[dA,dB,dC,dD,dE,dF,dG,Int.not_lt,Int.not_le] at hc30
  subst he5
  have h0:=Classical.byContradiction hc30
  refine Ak (t_n (Ab (Aa ?_)))
  refine pM ?_
  refine pA ?_
  refine Ac (t_n (Ao ?_))
  refine eR1 ?_
  (rw[if_pos h0] at hR2
   have he0:err=0:=Classical.byContradiction fun hn=>by rw[if_neg hn] at h0;exact hn h0
   rw[if_pos he0] at h0
   exact⟨_,_,_,rfl,by omega,hR2,Jw (by rw[if_pos he0];omega) (by omega) (by unfold pNum;exact if_pos (by omega)),hX⟩)
 try simp only[dA,dB,dC,dD,dE,dF,dG,Int.not_lt,Int.not_le] at hc25
 obtain⟨e5,he5⟩:∃ x:Int,x=(getU R).2.2:=⟨_,rfl⟩
 refine Ak (t_n (Ab (Ab (Aa ?_))))
 refine pM ?_
 refine pM ?_
 refine pM ?_
 refine oC Tryz.func191 (Nc R g err _ ⟨_,_,_,hB,hS⟩ _ _ (Gv R)) ?_
 rintro v3 w3 ⟨rfl,hR2,hM3⟩
 have hX:=hX.mod hM3 (trivial)
 refine p1 (Ez rfl) ?_
 refine Ac (t_n ?_)
 refine As rfl (fun hc30=>?_) (fun hc30=>?_)
 ·try simp only[dA,dB,dC,dD,dE,dF,dG,Int.not_lt,Int.not_le] at hc30
  subst he5
  have hne:=hc30
  refine Ab (Aa ?_)
  refine pA ?_
  refine Ac (t_n (Ao (t_r ?_)))
  refine eR1 ?_
  (rw[if_neg hne] at hR2
   exact⟨0,_,_,rfl,by omega,hR2,Hv hne fun hn=>by
     unfold pNum;rw[if_pos (by omega)] at hne;exact if_neg (by omega),hX⟩)
 try simp only[dA,dB,dC,dD,dE,dF,dG,Int.not_lt,Int.not_le] at hc30
 subst he5
 have h0:=Classical.byContradiction hc30
 refine Ak (t_n (Ab (Aa ?_)))
 refine pM ?_
 refine pA ?_
 refine Ac (t_n (Ao ?_))
 refine eR1 ?_
 (rw[if_pos h0] at hR2
  have he0:err=0:=Classical.byContradiction fun hn=>by rw[if_neg hn] at h0;exact hn h0
  rw[if_pos he0] at h0
  exact⟨_,_,_,rfl,by omega,hR2,Jw (by rw[if_pos he0];omega) (by omega) (by unfold pNum;exact if_pos (by omega)),hX⟩)
theorem R0 {err e:Int} (h:err≠0∨e≠0):(if err=0 then e else err)≠0:=by
  by_cases h0:err=0
  · rw[if_pos h0];exact h.resolve_left (fun hn=>hn h0)
  · rw[if_neg h0];exact h0
theorem Kr (q:Option Addr) (m c:Nat) (err e:Int) (w:World) :
    Ret Tryz.prog 201 [.agg #[.slice q m c,.int .i64 err],.int .i64 e] w (fun v w'=>v = .agg #[.slice q m c,.int .i64 (if err=0 then e else err)]∧Ext w w'):=by
 have hX:=Ext.refl w
 refine eN 11 Tryz.func201 ?_
 refine Ab (Aa ?_)
 have hXs2:=hX.size
 refine Bu (by conv=>lhs;whnf) ?_
 intro w1 g2 hN2
 have hE1:=hN2.ext
 have hX:=hX.ext hE1
 have hB2:=hN2.blk
 have hXs4:=hX.size
 refine Ay zr205 ?_
 intro w2 g4 hN4
 have hE2:=hN4.ext
 have hX:=hX.ext hE2
 have hB2:=hB2.ext hE2
 have hB4:=hN4.blk
 refine Ac (t_n (Ab (Ab (Aa ?_))))
 refine p1 (Ad Lu sz3 rfl) ?_
 refine p1 (Ae un3 rfl (hB2.cell (rfl))) ?_
 refine p1 (Bw rfl rfl) ?_
 refine Ac (t_n ?_)
 refine As rfl (fun hc7=>?_) (fun hc7=>?_)
 ·refine Aa ?_
  refine pM ?_
  refine p1 (Ad Lu sz3 rfl) ?_
  refine Aw rfl (by conv=>lhs;whnf) rfl rfl sz3 hB2 (by simp) ?_
  intro w3 hP3
  have hX:=hX.put hP3 (by rw[hN2.g_eq];exact hXs2)
  have hB2:=hP3.blk
  try simp only[List.setIfInBounds_toArray,List.set_cons_zero,List.set_cons_succ] at hB2
  have hB4:=hP3.keep hB4 (by have h1:=hN4.g_eq;have h2:=hN2.g_eq;have h3:=hN2.blk.lt;omega)
  refine Ac (t_n (Ab (Aa ?_)))
  refine p1 (Aq ua205 rfl hB2 sz205) ?_
  refine Al rfl (by conv=>lhs;whnf) (by simp[Value.oneCell']) (by exact sz205) hB4 (by rfl) ?_
  intro w4 hP4
  have hX:=hX.put hP4 (by rw[hN4.g_eq];exact hXs4)
  have hB2:=hP4.keep hB2 (by have h1:=hN4.g_eq;have h2:=hN2.g_eq;have h3:=hN2.blk.lt;omega)
  have hB4:=hP4.blk
  refine Ac (t_n (Ao ?_))
  refine end1c rfl ua205 rfl hB4 sz205 ?_
  (rw[if_pos hc7];exact⟨rfl,hX⟩)
 refine Ak (t_n (Ab (Aa ?_)))
 refine p1 (Aq ua205 rfl hB2 sz205) ?_
 refine Al rfl (by conv=>lhs;whnf) (by simp[Value.oneCell']) (by exact sz205) hB4 (by rfl) ?_
 intro w5 hP5
 have hX:=hX.put hP5 (by rw[hN4.g_eq];exact hXs4)
 have hB2:=hP5.keep hB2 (by have h1:=hN4.g_eq;have h2:=hN2.g_eq;have h3:=hN2.blk.lt;omega)
 have hB4:=hP5.blk
 refine Ac (t_n (Ao ?_))
 refine end1c rfl ua205 rfl hB4 sz205 ?_
 (rw[if_neg hc7];exact⟨rfl,hX⟩)
theorem Nd (R:List UInt8) (B:Nat) (q:Option Addr) (m c:Nat) (err:Int) (w:World) (hl:Sl kByte 5 B w q m c R) (mo:Nat) (hmo:mo<18446744073709551616) :
    Ret Tryz.prog 155 [.agg #[.slice q m c,.int .i64 err],.int .u64 (mo:Int)] w (fun v w'=>(∃ (q':Option Addr) (m' c':Nat) (err':Int) (R':List UInt8) (N:Nat),v = .tuple #[.agg #[.slice q' m' c',.int .i64 err'],.int .u64 (N:Int)]∧N≤mo∧Sl kByte 5 B w' q' m' c' R'∧Took (pNum mo R) (err≠0) (err'≠0) N R R')∧Ext w w'):=by
 have hU18:(getU R).1<18446744073709551616:=by
   by_cases h:(getU R).2.2=0
   · exact(F8 h).2.2.2
   · rw[(Ml h).1];omega
 have hX:=Ext.refl w
 refine eN 39 Tryz.func155 ?_
 refine Ab ?_
 have hlen:=hl.len
 have hfit:=hl.fit
 have hcap:=hl.cap
 refine Aa ?_
 refine Bu (by conv=>lhs;whnf) ?_
 intro w1 g2 hN2
 have hE1:=hN2.ext
 have hX:=hX.ext hE1
 have hB2:=hN2.blk
 have hXs4:=hX.size
 refine Ay zr205 ?_
 intro w2 g4 hN4
 have hE2:=hN4.ext
 have hX:=hX.ext hE2
 have hB2:=hB2.ext hE2
 have hB4:=hN4.blk
 refine pA (Ac (t_n (Ab (Aa ?_))))
 refine p1 (Ad Ob sz23 rfl) ?_
 refine p1 (Ae un23 rfl (hB2.cell (rfl))) ?_
 refine oC Tryz.func199 (Kq R _ _ _ _ _ (hl.ext hX)) ?_
 rintro v3 w3 ⟨rfl,hE3⟩
 have hX:=hX.ext hE3
 have hB2:=hB2.ext hE3
 have hB4:=hB4.ext hE3
 refine pM ?_
 refine p1 (Aj rfl rfl) ?_
 refine p1 (Aj rfl rfl) ?_
 refine p1 (Aj rfl rfl) ?_
 refine pA (pA (pA (Ac (t_n (Ab (Ab (Aa ?_)))))))
 refine pM ?_
 refine Xu 6 [17,18,19,20,21,22] [(22,.bool (decide ((getU R).2.2=0∧(mo:Int)<((getU R).1:Int))))] ?_ ?_
 ·skip
  refine p1 (Bw rfl rfl) ?_
  refine p1b (Af (by conv=>lhs;whnf)) (fun hb2_2=>?_) (fun hb2_2=>?_)
  ·try simp only[dA,dB,dC,dD,dE,dF,dG,Int.not_lt,Int.not_le] at hb2_2
   refine gM 18 (gM 18 ?_)
   refine g1 18 rfl rfl (Cw rfl rfl) ?_
   refine p1 (Ax rfl (by conv=>lhs;whnf)) ?_
   exact F5 rfl (by repeat (first | exact Agr.refl _ _ | exact Agr.hav _ _ _ | refine Agr.upd rfl ?_ | refine Agr.updR rfl ?_ | refine Agr.updL ?_ _ rfl | refine Agr.hav' rfl ?_)) ⟨congrArg Value.bool (by exact decide_eq_decide.2 (by omega)),trivial⟩
  try simp only[dA,dB,dC,dD,dE,dF,dG,Int.not_lt,Int.not_le] at hb2_2
  refine gF 18 (gF 18 (gF 18 ?_))
  refine p1 (Au rfl (by conv=>lhs;whnf)) ?_
  exact F5 rfl (by repeat (first | exact Agr.refl _ _ | exact Agr.hav _ _ _ | refine Agr.upd rfl ?_ | refine Agr.updR rfl ?_ | refine Agr.updL ?_ _ rfl | refine Agr.hav' rfl ?_)) ⟨congrArg Value.bool (by exact(decide_eq_false (by omega)).symm),trivial⟩
 intro Gr2_1
 refine Ac (t_n ?_)
 refine As rfl (fun hc22=>?_) (fun hc22=>?_)
 ·try simp only[dA,dB,dC,dD,dE,dF,dG,Int.not_lt,Int.not_le] at hc22
  obtain⟨e5,he5⟩:∃ x:Int,x=5:=⟨_,rfl⟩
  refine Aa ?_
  refine pA (Ac (t_n (Ab (Ab (Aa ?_)))))
  refine p1 (Ad Lu sz3 rfl) ?_
  refine p1 (Ae un3 rfl (hB2.cell (rfl))) ?_
  refine Xu 5 [25,26,27,28,29] [(29,.bool (decide (err≠0∨e5≠0)))] ?_ ?_
  ·skip
   refine p1 (A2 rfl rfl) ?_
   refine p1b (Af (by conv=>lhs;whnf)) (fun hb4_3=>?_) (fun hb4_3=>?_)
   ·try simp only[dA,dB,dC,dD,dE,dF,dG,Int.not_lt,Int.not_le] at hb4_3
    refine gF 26 (gF 26 ?_)
    refine p1 (Ax rfl (by conv=>lhs;whnf)) ?_
    exact F5 rfl (by repeat (first | exact Agr.refl _ _ | exact Agr.hav _ _ _ | refine Agr.upd rfl ?_ | refine Agr.updR rfl ?_ | refine Agr.updL ?_ _ rfl | refine Agr.hav' rfl ?_)) ⟨congrArg Value.bool (by subst he5;exact(decide_eq_true (by omega)).symm),trivial⟩
   try simp only[dA,dB,dC,dD,dE,dF,dG,Int.not_lt,Int.not_le] at hb4_3
   refine gM 26 ?_
   refine g1 26 rfl rfl (A2 rfl rfl) ?_
   refine p1 (Au rfl (by conv=>lhs;whnf)) ?_
   exact F5 rfl (by repeat (first | exact Agr.refl _ _ | exact Agr.hav _ _ _ | refine Agr.upd rfl ?_ | refine Agr.updR rfl ?_ | refine Agr.updL ?_ _ rfl | refine Agr.hav' rfl ?_)) ⟨congrArg Value.bool (by subst he5;exact(decide_eq_true (by omega)).symm),trivial⟩
  intro Gr4_2
  refine Ac (t_n ?_)
  refine As rfl (fun hc29=>?_) (fun hc29=>?_)
  ·try simp only[dA,dB,dC,dD,dE,dF,dG,Int.not_lt,Int.not_le] at hc29
   refine Ab (Aa ?_)
   refine p1 (Aq ua205 rfl hB2 sz205) ?_
   refine pM ?_
   refine oC Tryz.func201 (Kr _ _ _ _ _ _) ?_
   rintro v4 w4 ⟨rfl,hE4⟩
   have hX:=hX.ext hE4
   have hB2:=hB2.ext hE4
   have hB4:=hB4.ext hE4
   refine Al rfl (by conv=>lhs;whnf) (by simp[Value.oneCell']) (by exact sz205) hB4 (by rfl) ?_
   intro w5 hP5
   have hX:=hX.put hP5 (by rw[hN4.g_eq];exact hXs4)
   have hB2:=hP5.keep hB2 (by have h1:=hN4.g_eq;have h2:=hN2.g_eq;have h3:=hN2.blk.lt;omega)
   have hB4:=hP5.blk
   refine pA (Ac (t_n (Ao (t_r ?_))))
   refine end2c rfl ua205 rfl (by conv=>lhs;whnf) hB4 sz205 ?_
   subst he5
   (refine⟨⟨_,_,_,_,R,0,rfl,by omega,hl.ext hX,Hv (R0 hc29) fun hn=>?_⟩,hX⟩
    unfold pNum;exact if_neg (by omega))
  try simp only[dA,dB,dC,dD,dE,dF,dG,Int.not_lt,Int.not_le] at hc29
  refine Ak (t_n (Ab (Aa ?_)))
  refine p1 (Ad Ob sz23 rfl) ?_
  refine p1 (Ae un23 rfl (hB2.cell (rfl))) ?_
  refine pM ?_
  refine p1 (Bs u23 sz5 rfl rfl (by have:=Gv R;omega)) ?_
  refine p1 (I0 pl205 (by conv=>lhs;whnf) (by conv=>lhs;whnf) rfl rfl) ?_
  refine pM ?_
  refine Al rfl (by conv=>lhs;whnf) (by simp[Value.oneCell']) (by exact sz205) hB4 (by rfl) ?_
  intro w6 hP6
  have hX:=hX.put hP6 (by rw[hN4.g_eq];exact hXs4)
  have hB2:=hP6.keep hB2 (by have h1:=hN4.g_eq;have h2:=hN2.g_eq;have h3:=hN2.blk.lt;omega)
  have hB4:=hP6.blk
  refine pA (Ac (t_n (Ao ?_)))
  refine end2c rfl ua205 rfl (by conv=>lhs;whnf) hB4 sz205 ?_
  subst he5
  (refine⟨⟨_,_,_,_,R.drop (getU R).2.1,(getU R).1,rfl,by omega,(hl.ext hX).dropI _ (by have:=Gv R;omega),Jw (by simp) (by omega) ?_⟩,hX⟩
   unfold pNum;exact if_pos (by omega))
 try simp only[dA,dB,dC,dD,dE,dF,dG,Int.not_lt,Int.not_le] at hc22
 obtain⟨e5,he5⟩:∃ x:Int,x=(getU R).2.2:=⟨_,rfl⟩
 refine Ak (t_n (Ab (Ab (Aa ?_))))
 refine p1 (Ad Lu sz3 rfl) ?_
 refine p1 (Ae un3 rfl (hB2.cell (rfl))) ?_
 refine Xu 5 [25,26,27,28,29] [(29,.bool (decide (err≠0∨e5≠0)))] ?_ ?_
 ·skip
  refine p1 (A2 rfl rfl) ?_
  refine p1b (Af (by conv=>lhs;whnf)) (fun hb4_3=>?_) (fun hb4_3=>?_)
  ·try simp only[dA,dB,dC,dD,dE,dF,dG,Int.not_lt,Int.not_le] at hb4_3
   refine gF 26 (gF 26 ?_)
   refine p1 (Ax rfl (by conv=>lhs;whnf)) ?_
   exact F5 rfl (by repeat (first | exact Agr.refl _ _ | exact Agr.hav _ _ _ | refine Agr.upd rfl ?_ | refine Agr.updR rfl ?_ | refine Agr.updL ?_ _ rfl | refine Agr.hav' rfl ?_)) ⟨congrArg Value.bool (by subst he5;exact(decide_eq_true (by omega)).symm),trivial⟩
  try simp only[dA,dB,dC,dD,dE,dF,dG,Int.not_lt,Int.not_le] at hb4_3
  refine gM 26 ?_
  refine g1 26 rfl rfl (A2 rfl rfl) ?_
  refine p1 (Au rfl (by conv=>lhs;whnf)) ?_
  exact F5 rfl (by repeat (first | exact Agr.refl _ _ | exact Agr.hav _ _ _ | refine Agr.upd rfl ?_ | refine Agr.updR rfl ?_ | refine Agr.updL ?_ _ rfl | refine Agr.hav' rfl ?_)) ⟨congrArg Value.bool (by subst he5;exact decide_eq_decide.2 (by omega)),trivial⟩
 intro Gr4_2
 refine Ac (t_n ?_)
 refine As rfl (fun hc29=>?_) (fun hc29=>?_)
 ·try simp only[dA,dB,dC,dD,dE,dF,dG,Int.not_lt,Int.not_le] at hc29
  refine Ab (Aa ?_)
  refine p1 (Aq ua205 rfl hB2 sz205) ?_
  refine pM ?_
  refine oC Tryz.func201 (Kr _ _ _ _ _ _) ?_
  rintro v7 w7 ⟨rfl,hE7⟩
  have hX:=hX.ext hE7
  have hB2:=hB2.ext hE7
  have hB4:=hB4.ext hE7
  refine Al rfl (by conv=>lhs;whnf) (by simp[Value.oneCell']) (by exact sz205) hB4 (by rfl) ?_
  intro w8 hP8
  have hX:=hX.put hP8 (by rw[hN4.g_eq];exact hXs4)
  have hB2:=hP8.keep hB2 (by have h1:=hN4.g_eq;have h2:=hN2.g_eq;have h3:=hN2.blk.lt;omega)
  have hB4:=hP8.blk
  refine pA (Ac (t_n (Ao (t_r ?_))))
  refine end2c rfl ua205 rfl (by conv=>lhs;whnf) hB4 sz205 ?_
  subst he5
  (refine⟨⟨_,_,_,_,R,0,rfl,by omega,hl.ext hX,Hv (R0 hc29) fun hn=>?_⟩,hX⟩
   unfold pNum;exact if_neg (by omega))
 try simp only[dA,dB,dC,dD,dE,dF,dG,Int.not_lt,Int.not_le] at hc29
 refine Ak (t_n (Ab (Aa ?_)))
 refine p1 (Ad Ob sz23 rfl) ?_
 refine p1 (Ae un23 rfl (hB2.cell (rfl))) ?_
 refine pM ?_
 refine p1 (Bs u23 sz5 rfl rfl (by have:=Gv R;omega)) ?_
 refine p1 (I0 pl205 (by conv=>lhs;whnf) (by conv=>lhs;whnf) rfl rfl) ?_
 refine pM ?_
 refine Al rfl (by conv=>lhs;whnf) (by simp[Value.oneCell']) (by exact sz205) hB4 (by rfl) ?_
 intro w9 hP9
 have hX:=hX.put hP9 (by rw[hN4.g_eq];exact hXs4)
 have hB2:=hP9.keep hB2 (by have h1:=hN4.g_eq;have h2:=hN2.g_eq;have h3:=hN2.blk.lt;omega)
 have hB4:=hP9.blk
 refine pA (Ac (t_n (Ao ?_)))
 refine end2c rfl ua205 rfl (by conv=>lhs;whnf) hB4 sz205 ?_
 subst he5
 (refine⟨⟨_,_,_,_,R.drop (getU R).2.1,(getU R).1,rfl,by omega,(hl.ext hX).dropI _ (by have:=Gv R;omega),Jw (by simp) (by omega) ?_⟩,hX⟩
  unfold pNum;exact if_pos (by omega))
end Go.Proofs.Eng
end
section
set_option maxRecDepth 100000
set_option maxHeartbeats 4000000
namespace Go.Proofs.Eng
open Go.RowKit
open Extern.Stop (cell)
theorem Wx (s:ByteArray) (w:World) (hs:s.size≤9223372036854775807) :
    Ret Tryz.prog 106 [.string s] w (fun v w'=>v = .bool (Bg s)∧Ext w w'):=by
 have hX:=Ext.refl w
 refine eN 28 Tryz.func106 ?_
 refine Ab (Aa ?_)
 refine pA ?_
 refine Ac (t_n (Ab (Ab ?_)))
 have hWr1:=Ext.refl w
 refine Dn (ι:=Unit) [4,5,6,7,8,9,10,11] (fun _=>[(11,.bool (decide (s.size=0∨32<s.size)))]) (fun _ w'=>Ext w w') ?_ ?_
 ·skip
  refine Aa ?_
  refine pM ?_
  refine p1 (Dt u9 rfl) ?_
  refine p1 (Bw rfl rfl) ?_
  refine p1b (Af (by conv=>lhs;whnf)) (fun hb1_3=>?_) (fun hb1_3=>?_)
  ·try simp only[dA,dB,dC,dD,dE,dF,dG,Int.not_lt,Int.not_le] at hb1_3
   refine gF 7 ?_
   refine gF 7 ?_
   refine gF 7 ?_
   refine p1 (Ax rfl (by conv=>lhs;whnf)) ?_
   refine Ac ?_
   refine t_n (aK () ⟨congrArg Value.bool (by exact(decide_eq_true (by omega)).symm),trivial⟩ hWr1)
  try simp only[dA,dB,dC,dD,dE,dF,dG,Int.not_lt,Int.not_le] at hb1_3
  refine gM 7 ?_
  refine g1 7 rfl rfl (Dt u9 rfl) ?_
  refine g1 7 rfl rfl (Cw rfl rfl) ?_
  refine p1 (Au rfl (by conv=>lhs;whnf)) ?_
  refine Ac ?_
  refine t_n (aK () ⟨congrArg Value.bool (by exact decide_eq_decide.2 (by omega)),trivial⟩ hWr1)
 rintro _ Gr1 w1 hE1
 have hX:=hX.ext hE1
 refine t_n ?_
 refine As rfl (fun hc11=>?_) (fun hc11=>?_)
 ·try simp only[dA,dB,dC,dD,dE,dF,dG,Int.not_lt,Int.not_le] at hc11
  have hp:=Wj hc11
  refine Ab (Aa ?_)
  refine pA ?_
  refine Ac (t_n (Ao (t_r ?_)))
  refine eR1 ?_
  exact⟨by rw[hp],hX⟩
 try simp only[dA,dB,dC,dD,dE,dF,dG,Int.not_lt,Int.not_le] at hc11
 refine Ak (t_n (Ab (Ab (Aa ?_))))
 refine pM ?_
 refine p1 (Dt u9 rfl) ?_
 refine pM ?_
 refine Ac (t_n (Ap ?_))
 have hWL0:=Ext.refl w1
 refine Bc (ι:=Nat) ([2,3]++rg 14 14) (fun k=>[(14,.int .i64 (k:Int))]) (fun k w'=>Ext w1 w'∧(k≤s.size∧∀ i,i<k→33≤(btAt s i).toNat∧(btAt s i).toNat≤126)) (fun k=>s.size - k) (0) ⟨rfl,trivial⟩ ⟨Ext.refl _,⟨by omega,fun i hi=>by omega⟩⟩ ?_
 rintro k GL0 w2 ⟨hE2,hk,hL⟩
 have hX:=hX.ext hE2
 have hWL0:=hE2
 refine Ab (Aa ?_)
 refine p1 (Bi rfl rfl) ?_
 refine Ac (t_n (Ab ?_))
 refine As rfl (fun hc15=>?_) (fun hc15=>?_)
 ·try simp only[dA,dB,dC,dD,dE,dF,dG,Int.not_lt,Int.not_le] at hc15
  refine Ak (t_n (Ab (Ap (Ab (Aa ?_)))))
  refine pM ?_
  refine pA ?_
  refine Ac (t_n (Ab ?_))
  have hWr6:=Ext.refl w2
  refine Dn (ι:=Unit) (rg 17 10) (fun _=>[(26,.bool (decide (((btAt s k).toNat:Int)<33∨126<((btAt s k).toNat:Int))))]) (fun _ w'=>Ext w2 w') ?_ ?_
  ·skip
   refine Aa ?_
   refine pM ?_
   refine pM ?_
   refine p1 (G1 u9 rfl rfl (by omega)) ?_
   refine p1 (Bi rfl rfl) ?_
   refine p1b (Af (by conv=>lhs;whnf)) (fun hb6_4=>?_) (fun hb6_4=>?_)
   ·try simp only[dA,dB,dC,dD,dE,dF,dG,Int.not_lt,Int.not_le] at hb6_4
    refine gF 21 ?_
    refine gF 21 ?_
    refine gF 21 ?_
    refine gF 21 ?_
    refine p1 (Ax rfl (by conv=>lhs;whnf)) ?_
    refine Ac ?_
    refine t_n (aK () ⟨congrArg Value.bool (by exact(decide_eq_true (by omega)).symm),trivial⟩ hWr6)
   try simp only[dA,dB,dC,dD,dE,dF,dG,Int.not_lt,Int.not_le] at hb6_4
   refine gM 21 ?_
   refine gM 21 ?_
   refine g1 21 rfl rfl (G1 u9 rfl rfl (by omega)) ?_
   refine g1 21 rfl rfl (Cw rfl rfl) ?_
   refine p1 (Au rfl (by conv=>lhs;whnf)) ?_
   refine Ac ?_
   refine t_n (aK () ⟨congrArg Value.bool (by exact decide_eq_decide.2 (by omega)),trivial⟩ hWr6)
  rintro _ Gr6 w3 hE3
  have hX:=hX.ext hE3
  have hWL0:=hWL0.ext hE3
  refine t_n ?_
  refine As rfl (fun hc26=>?_) (fun hc26=>?_)
  ·try simp only[dA,dB,dC,dD,dE,dF,dG,Int.not_lt,Int.not_le] at hc26
   have hp:Bg s=false:=Rj (i:=k) (by omega) (by omega)
   refine Ab (Aa ?_)
   refine pA ?_
   refine Ac (t_n (Ao (b_r (t_r (t_r (b_r (t_r ?_)))))))
   refine eR1 ?_
   exact⟨by rw[hp],hX⟩
  try simp only[dA,dB,dC,dD,dE,dF,dG,Int.not_lt,Int.not_le] at hc26
  refine Ak (b_n (t_n (Aa ?_)))
  refine p1 (A0 rfl rfl (Am (by omega) (by omega))) ?_
  refine pM ?_
  refine Ac ?_
  refine t_n (aK (k+1) ⟨rfl,trivial⟩ ?_)
  exact⟨⟨hWL0,⟨by omega,fun i hi=>if h:i<k then hL i h else by rw[show i=k from by omega];omega⟩⟩,by((show _<_);omega)⟩
 try simp only[dA,dB,dC,dD,dE,dF,dG,Int.not_lt,Int.not_le] at hc15
 have hp:Bg s=true:=Wk (by omega) (fun i hi=>hL i (by omega))
 refine A8 (t_e (t_e (Bq (t_n (Ab (Aa ?_))))))
 refine pA ?_
 refine Ac (t_n (Ao ?_))
 refine eR1 ?_
 exact⟨by rw[hp],hX⟩
theorem E8 (g:Nat) (S:Nat→Prop) (D:DS) (w:World) (hD:Dsk S w g D) (ns:List ByteArray) (B:Nat) (p:Option Addr) (n c:Nat) (hl:Sl kStr 9 B w p n c ns) (hs:∀ s∈ns,s.size≤9223372036854775807) :
    Ret Tryz.prog 60 [.pointer (some ⟨g,0,none⟩),.slice p n c] w (fun v w'=>v = .int .i64 (lookD D ns)∧Ext w w'):=by
 obtain⟨r,μ,hB,hM,hSg,hSr,hF⟩:=hD.ex
 have hX:=Ext.refl w
 refine eN 23 Tryz.func60 ?_
 refine Ab (Aa ?_)
 refine pA (Ac (t_n (Ab (Ab (Aa ?_)))))
 refine pM ?_
 refine p1 ((Cc u34 rfl rfl).cast (congrArg _ (decide_eq_false (by simp)))) ?_
 refine Ac (t_n ?_)
 refine c_f rfl ?_
 refine Ak (t_n (Ab (Ab (Aa ?_))))
 refine pM ?_
 refine p1 (Ar u74 rfl) ?_
 refine pM (Ac (t_n (Ap ?_)))
 have hWL0:=Ext.refl w
 have hlen:=hl.len
 have hfit:=hl.fit
 have hcap:=hl.cap
 refine Bc (ι:=Nat) ([4,6]++rg 11 8) (fun k=>[(11,.int .i64 (k:Int))]) (fun k w'=>Ext w w'∧(k≤n∧∀ i,i<k→Bg (ns.getD i ByteArray.empty)=true)) (fun k=>n - k) (0) ⟨rfl,trivial⟩ ⟨Ext.refl _,⟨by omega,fun i hi=>by omega⟩⟩ ?_
 rintro k GL0 w1 ⟨hE1,hk,hL⟩
 have hX:=hX.ext hE1
 have hB:=hB.ext hE1
 have hWL0:=hE1
 refine Ab (Aa ?_)
 refine p1 (Bi rfl rfl) ?_
 refine Ac (t_n (Ab ?_))
 refine As rfl (fun hc12=>?_) (fun hc12=>?_)
 ·refine Ak (t_n (Ab (Ap (Ab (Aa ?_)))))
  refine p1 (Cr u74 sz9 rfl rfl ((hl.ext hX).adr Ej (by omega)) (by omega)) ?_
  refine p1 (Ae un9 rfl ((hl.ext hX).strAt _ (by omega))) ?_
  refine pA (Ac (t_n (Ab (Aa ?_))))
  refine pM ?_
  refine oC Tryz.func106 (Wx _ _ (hs _ (Dq (z:=ByteArray.empty) (i:=k) (by omega) rfl))) ?_
  rintro v2 w2 ⟨rfl,hE2⟩
  have hX:=hX.ext hE2
  have hWL0:=hWL0.ext hE2
  refine p1 (Ht rfl) ?_
  refine Ac (t_n ?_)
  refine Dm rfl (fun hc17=>?_) (fun hc17=>?_)
  ·have hp:lookD D ns=30:=by unfold lookD;rw[if_pos (Lj (k:=k) (by omega) (by simpa using hc17))]
   refine Ab (Aa ?_)
   refine pA (Ac (t_n (Ao (b_r (t_r (t_r (b_r (t_r ?_))))))))
   refine eR1 ?_
   exact⟨by rw[hp],hX⟩
  have h1:Bg (ns.getD k ByteArray.empty)=true:=by simpa using hc17
  refine Ak (b_n (t_n (Aa ?_)))
  refine p1 (A0 rfl rfl (Am (by omega) (by omega))) ?_
  refine pM (Ac ?_)
  refine t_n (aK (k+1) ⟨rfl,trivial⟩ ?_)
  exact⟨⟨hWL0,⟨by omega,fun i hi=>if h:i<k then hL i h else by rw[show i=k from by omega];exact h1⟩⟩,by((show _<_);omega)⟩
 have hall:=Ks hL (by omega)
 refine A8 (t_e (t_e (Bq (t_n (Ab (Ab (Aa ?_)))))))
 refine pM ?_
 refine p1 (Ag rfl) ?_
 refine p1 (Ad Kf sz4 rfl) ?_
 refine p1 (Ae un4 rfl (hB.cell (rfl))) ?_
 refine Ac (t_n ?_)
 refine Dm rfl (fun hc22=>?_) (fun hc22=>?_)
 ·have hp:lookD D ns=20:=by unfold lookD;rw[if_neg (by rw[hall];simp),if_pos hc22]
  refine Ab (Aa ?_)
  refine pA (Ac (t_n (Ao (t_r ?_))))
  refine eR1 ?_
  exact⟨by rw[hp],hX⟩
 have hp:lookD D ns=0:=by unfold lookD;rw[if_neg (by rw[hall];simp),if_neg (by rw[hc22];simp)]
 refine Ak (t_n (Ab (Aa ?_)))
 refine pA (Ac (t_n (Ao ?_)))
 refine eR1 ?_
 exact⟨by rw[hp],hX⟩
theorem E3 (g:Nat) (S:Nat→Prop) (D:DS) (w:World) (hD:Dsk S w g D) (k:ByteArray) :
    Ret Tryz.prog 61 [.pointer (some ⟨g,0,none⟩),.string k] w (fun v w'=>v = .bool (decide (ascF D.l k≠none))∧Ext w w'):=by
 obtain⟨r,μ,hB,hM,hSg,hSr,hF⟩:=hD.ex
 have hX:=Ext.refl w
 refine eN 17 Tryz.func61 ?_
 refine Ab (Aa ?_)
 refine pA (Ac (t_n (Ab (Aa ?_))))
 refine pM ?_
 refine p1 (Ag rfl) ?_
 refine p1 (Ad Dp sz100 rfl) ?_
 refine p1 (Ae un100 rfl (hB.cell (rfl))) ?_
 refine pM ?_
 obtain⟨⟨p0,n0,c0,s0⟩,hr0⟩:∃ x:Raw,x=(μ k).getD raw0:=⟨_,rfl⟩
 obtain⟨hF0,hs0⟩:=hF.get k
 rw[← hr0] at hF0 hs0
 simp only at hF0 hs0
 refine p1 (((lookF u100 zr113 (C3 u9) hM k rfl rfl).2).cast (by rw[← hr0];rfl:_=Value.tuple #[.agg #[.slice p0 n0 c0,.int .i64 (s0:Int)],.bool (decide (μ k≠none))])) ?_
 refine pM ?_
 refine p1 (Aj rfl rfl) ?_
 refine p1 (Aj rfl rfl) ?_
 have hXs5:=hX.size
 refine Ay zr113 ?_
 intro w1 g5 hN5
 have hE1:=hN5.ext
 have hX:=hX.ext hE1
 have hB5:=hN5.blk
 refine Al rfl (by conv=>lhs;whnf) (by simp[Value.oneCell']) (by exact sz113) hB5 (by rfl) ?_
 intro w2 hP2
 have hX:=hX.put hP2 (by rw[hN5.g_eq];exact hXs5)
 have hB5:=hP2.blk
 refine pA (Ac (t_n (Ab (Aa ?_))))
 refine pM (pA (Ac (t_n (Ao ?_))))
 refine eR1 ?_
 exact⟨congrArg Value.bool (decide_eq_decide.2 (not_congr (hF.iff k))),hX⟩
theorem Gz (g : Nat) (S : Nat → Prop) (D : DS) (w : World) (hD : Dsk S w g D) (hok : DOk D) (hst : D.steps < 4611686018427387904) (hle : D.left ≤ 9223372036854775807) (fdo : Nat) (fn : Func) (hf : Tryz.prog.funcs[fdo]? = some fn) (hn : (fn.name == "runtime.NumGoroutine") = false) (hb : fn.body.isNone = false) (cs : List Value) (act : List Fl) (failing always : Bool)
    (hdo:∀ w1,Ext w w1→Ret Tryz.prog fdo cs w1 (fun v w'=>Dsk (grow S w1 w') w' g { D with l:=act }∧ModS S ED w1 w')) :
    Ret Tryz.prog 62 [.pointer (some ⟨g,0,none⟩),.func (.func fdo) #[] cs.toArray,.bool failing,.bool always] w (fun v w'=>v = .int .i64 (stepD D act failing always).2∧Dsk (grow S w w') w' g (stepD D act failing always).1∧ModS S ED w w'):=by
 obtain⟨r,μ,hB,hM,hSg,hSr,hF⟩:=hD.ex
 have hXe:=Ext.refl w
 have hleft:=hok.left
 have hSg2:grow S w w g := .inl hSg
 have hW1:=Nat.le_refl w.heap.size
 have hX:=ModS.refl S ED w
 refine eN 50 Tryz.func62 ?_
 refine Ab (Aa ?_)
 refine pA (Ac (t_n (Ab (Ab (Aa ?_)))))
 refine pM ?_
 refine p1 (Ag rfl) ?_
 refine p1 (Ad Hm sz3 rfl) ?_
 refine p1 (Ae un3 rfl (hB.cell (rfl))) ?_
 refine p1 (A2 rfl rfl) ?_
 refine Ac (t_n ?_)
 refine As rfl (fun hc13=>?_) (fun hc13=>?_)
 ·have hL0:D.left≠0:=hc13
  refine Ab (Aa ?_)
  refine pM ?_
  have hX0:Ext w w:=hXe
  refine Li (fs:=[]) (cs:=cs) rfl hf hn hb rfl rfl (hdo _ hX0) ?_
  rintro v1 w1 ⟨hD2,hM2⟩
  have hX:ModS S ED w w1:=(ModS.ofExt hX0).trans hM2 (fun _ _ h=>h)
  obtain⟨r,μ,hB,hM,hSg2,hSr,hF⟩:=hD2.ex
  have hB:Blk w1 g #[.int .i64 (D.most:Int),.int .i64 ((usedL act:Nat):Int),.map (some r),.int .i64 (D.steps:Int),.int .i64 D.left,.bool D.done,.bool D.down] tDisk:=hB
  have hF:Fls _ _ μ act:=hF
  skip
  refine Ac (t_n (Ab (Aa ?_)))
  refine pM (pM ?_)
  refine p1 (Ag rfl) ?_
  refine p1 (Ad Hm sz3 rfl) ?_
  refine p1 (Ae un3 rfl (hB.cell (rfl))) ?_
  refine p1 (Dg rfl rfl (Am (by omega) (by omega))) ?_
  refine p1 ((Zs rfl rfl).cast (congrArg (Value.int .i64) (by split <;> omega:_=max (-1) (D.left - 1)))) ?_
  refine p1 (Ag rfl) ?_
  refine p1 (Ad Hm sz3 rfl) ?_
  refine Aw rfl (by conv=>lhs;whnf) rfl rfl sz3 hB (by simp) ?_
  intro w2 hP2
  have hX:=hX.put hP2 (⟨.inl hSg,by decide⟩)
  have hB:=hP2.blk
  try simp only[List.setIfInBounds_toArray,List.set_cons_zero,List.set_cons_succ] at hB
  have hM:=hM.mod (hP2.mod 0 (Nat.zero_le _)) (Nat.zero_le _) (by decide)
  have hF:=hF.one hP2.one (by decide)
  refine Ac (t_n (Ab (Aa ?_)))
  refine pM ?_
  refine p1 (Ag rfl) ?_
  refine p1 (Ad Tb sz3 rfl) ?_
  refine p1 (Ae un3 rfl (hB.cell (rfl))) ?_
  refine p1 (A0 rfl rfl (Am (by omega) (by omega))) ?_
  refine p1 (Ag rfl) ?_
  refine p1 (Ad Tb sz3 rfl) ?_
  refine Aw rfl (by conv=>lhs;whnf) rfl rfl sz3 hB (by simp) ?_
  intro w3 hP3
  have hX:=hX.put hP3 (⟨.inl hSg,by decide⟩)
  have hB:=hP3.blk
  try simp only[List.setIfInBounds_toArray,List.set_cons_zero,List.set_cons_succ] at hB
  have hM:=hM.mod (hP3.mod 0 (Nat.zero_le _)) (Nat.zero_le _) (by decide)
  have hF:=hF.one hP3.one (by decide)
  refine Ac (t_n (Ab (Aa ?_)))
  refine pA (Ac (t_n (Ao (t_r ?_))))
  refine eR1 ?_
  (rw[K8 hL0]
   exact⟨rfl,Dsk.of hB hM hSg hSr hF (Po (Nat.le_refl _)),hX⟩)
 have hL0:¬ D.left≠0:=hc13
 refine Ak (t_n (Ab (Ab (Aa ?_))))
 refine pM ?_
 refine p1b (Af (by conv=>lhs;whnf)) (fun hb6_1=>?_) (fun hb6_1=>?_)
 ·refine gM 33 ?_
  refine g1b 33 rfl rfl (Af (by conv=>lhs;whnf)) (fun hb6_3=>?_) (fun hb6_3=>?_)
  ·refine gF 35 (gF 35 (gF 35 (gF 35 ?_)))
   refine Eng.g1 33 rfl rfl (Ax rfl (by conv=>lhs;whnf)) ?_
   refine p1 (Ax rfl (by conv=>lhs;whnf)) ?_
   refine Ac (t_n ?_)
   refine c_t rfl ?_
   refine Aa ?_
   refine pM ?_
   have hX0:Ext w w:=hXe
   refine Li (fs:=[]) (cs:=cs) rfl hf hn hb rfl rfl (hdo _ hX0) ?_
   rintro v4 w4 ⟨hD2,hM2⟩
   have hX:ModS S ED w w4:=(ModS.ofExt hX0).trans hM2 (fun _ _ h=>h)
   obtain⟨r,μ,hB,hM,hSg2,hSr,hF⟩:=hD2.ex
   have hB:Blk w4 g #[.int .i64 (D.most:Int),.int .i64 ((usedL act:Nat):Int),.map (some r),.int .i64 (D.steps:Int),.int .i64 D.left,.bool D.done,.bool D.down] tDisk:=hB
   have hF:Fls _ _ μ act:=hF
   skip
   refine Ac (t_n (Ab (Aa ?_)))
   refine pM (pM ?_)
   refine p1 (Ag rfl) ?_
   refine p1 (Ad Kf sz4 rfl) ?_
   refine Aw rfl (by conv=>lhs;whnf) rfl rfl sz4 hB (by simp) ?_
   intro w5 hP5
   have hX:=hX.put hP5 (⟨.inl hSg,by decide⟩)
   have hB:=hP5.blk
   try simp only[List.setIfInBounds_toArray,List.set_cons_zero,List.set_cons_succ] at hB
   have hM:=hM.mod (hP5.mod 0 (Nat.zero_le _)) (Nat.zero_le _) (by decide)
   have hF:=hF.one hP5.one (by decide)
   refine p1 (Ag rfl) ?_
   refine p1 (Ad Hm sz3 rfl) ?_
   refine Aw rfl (by conv=>lhs;whnf) rfl rfl sz3 hB (by simp) ?_
   intro w6 hP6
   have hX:=hX.put hP6 (⟨.inl hSg,by decide⟩)
   have hB:=hP6.blk
   try simp only[List.setIfInBounds_toArray,List.set_cons_zero,List.set_cons_succ] at hB
   have hM:=hM.mod (hP6.mod 0 (Nat.zero_le _)) (Nat.zero_le _) (by decide)
   have hF:=hF.one hP6.one (by decide)
   refine Ac (t_n (Ab (Aa ?_)))
   refine pA (Ac (t_n (Ao ?_)))
   refine eR1 ?_
   (rw[Ma hL0 (by(rw[hb6_1,hb6_3];rfl))]
    exact⟨rfl,Dsk.of hB hM hSg hSr hF (Po (Nat.le_refl _)),hX⟩)
  refine gM 35 ?_
  refine Eng.g1 35 rfl rfl (Ag rfl) ?_
  refine Eng.g1 35 rfl rfl (Ad X0 sz4 rfl) ?_
  refine Eng.g1 35 rfl rfl (Ae un4 rfl (hB.cell (rfl))) ?_
  refine Eng.g1 33 rfl rfl (Au rfl (by conv=>lhs;whnf)) ?_
  refine p1 (Ax rfl (by conv=>lhs;whnf)) ?_
  refine Ac (t_n ?_)
  refine Dm rfl (fun hc41=>?_) (fun hc41=>?_)
  ·refine Aa ?_
   refine pM ?_
   have hX0:Ext w w:=hXe
   refine Li (fs:=[]) (cs:=cs) rfl hf hn hb rfl rfl (hdo _ hX0) ?_
   rintro v7 w7 ⟨hD2,hM2⟩
   have hX:ModS S ED w w7:=(ModS.ofExt hX0).trans hM2 (fun _ _ h=>h)
   obtain⟨r,μ,hB,hM,hSg2,hSr,hF⟩:=hD2.ex
   have hB:Blk w7 g #[.int .i64 (D.most:Int),.int .i64 ((usedL act:Nat):Int),.map (some r),.int .i64 (D.steps:Int),.int .i64 D.left,.bool D.done,.bool D.down] tDisk:=hB
   have hF:Fls _ _ μ act:=hF
   skip
   refine Ac (t_n (Ab (Aa ?_)))
   refine pM (pM ?_)
   refine p1 (Ag rfl) ?_
   refine p1 (Ad Kf sz4 rfl) ?_
   refine Aw rfl (by conv=>lhs;whnf) rfl rfl sz4 hB (by simp) ?_
   intro w8 hP8
   have hX:=hX.put hP8 (⟨.inl hSg,by decide⟩)
   have hB:=hP8.blk
   try simp only[List.setIfInBounds_toArray,List.set_cons_zero,List.set_cons_succ] at hB
   have hM:=hM.mod (hP8.mod 0 (Nat.zero_le _)) (Nat.zero_le _) (by decide)
   have hF:=hF.one hP8.one (by decide)
   refine p1 (Ag rfl) ?_
   refine p1 (Ad Hm sz3 rfl) ?_
   refine Aw rfl (by conv=>lhs;whnf) rfl rfl sz3 hB (by simp) ?_
   intro w9 hP9
   have hX:=hX.put hP9 (⟨.inl hSg,by decide⟩)
   have hB:=hP9.blk
   try simp only[List.setIfInBounds_toArray,List.set_cons_zero,List.set_cons_succ] at hB
   have hM:=hM.mod (hP9.mod 0 (Nat.zero_le _)) (Nat.zero_le _) (by decide)
   have hF:=hF.one hP9.one (by decide)
   refine Ac (t_n (Ab (Aa ?_)))
   refine pA (Ac (t_n (Ao ?_)))
   refine eR1 ?_
   (rw[Ma hL0 (by simp_all)]
    exact⟨rfl,Dsk.of hB hM hSg hSr hF (Po (Nat.le_refl _)),hX⟩)
  refine Ak (t_n (Ab (Aa ?_)))
  refine pM (pM ?_)
  refine p1 (Ag rfl) ?_
  refine p1 (Ad Kf sz4 rfl) ?_
  refine Aw rfl (by conv=>lhs;whnf) rfl rfl sz4 hB (by simp) ?_
  intro w10 hP10
  have hX:=hX.put hP10 (⟨.inl hSg,by decide⟩)
  have hB:=hP10.blk
  try simp only[List.setIfInBounds_toArray,List.set_cons_zero,List.set_cons_succ] at hB
  have hM:=hM.mod (hP10.mod 0 (Nat.zero_le _)) (Nat.zero_le _) (by decide)
  have hF:=hF.one hP10.one (by decide)
  refine p1 (Ag rfl) ?_
  refine p1 (Ad Hm sz3 rfl) ?_
  refine Aw rfl (by conv=>lhs;whnf) rfl rfl sz3 hB (by simp) ?_
  intro w11 hP11
  have hX:=hX.put hP11 (⟨.inl hSg,by decide⟩)
  have hB:=hP11.blk
  try simp only[List.setIfInBounds_toArray,List.set_cons_zero,List.set_cons_succ] at hB
  have hM:=hM.mod (hP11.mod 0 (Nat.zero_le _)) (Nat.zero_le _) (by decide)
  have hF:=hF.one hP11.one (by decide)
  refine Ac (t_n (Ab (Aa ?_)))
  refine pA (Ac (t_n (Ao ?_)))
  refine eR1 ?_
  (rw[Ow hL0 (by simp_all)]
   exact⟨rfl,Dsk.of hB hM hSg hSr hF Ev,hX⟩)
 refine gF 33 (gF 33 (gF 35 (gF 35 (gF 35 (gF 35 (gF 33 ?_))))))
 refine p1 (Au rfl (by conv=>lhs;whnf)) ?_
 refine Ac (t_n ?_)
 refine c_f rfl ?_
 refine Ak (t_n (Ab (Aa ?_)))
 refine pM (pM ?_)
 refine p1 (Ag rfl) ?_
 refine p1 (Ad Kf sz4 rfl) ?_
 refine Aw rfl (by conv=>lhs;whnf) rfl rfl sz4 hB (by simp) ?_
 intro w12 hP12
 have hX:=hX.put hP12 (⟨.inl hSg,by decide⟩)
 have hB:=hP12.blk
 try simp only[List.setIfInBounds_toArray,List.set_cons_zero,List.set_cons_succ] at hB
 have hM:=hM.mod (hP12.mod 0 (Nat.zero_le _)) (Nat.zero_le _) (by decide)
 have hF:=hF.one hP12.one (by decide)
 refine p1 (Ag rfl) ?_
 refine p1 (Ad Hm sz3 rfl) ?_
 refine Aw rfl (by conv=>lhs;whnf) rfl rfl sz3 hB (by simp) ?_
 intro w13 hP13
 have hX:=hX.put hP13 (⟨.inl hSg,by decide⟩)
 have hB:=hP13.blk
 try simp only[List.setIfInBounds_toArray,List.set_cons_zero,List.set_cons_succ] at hB
 have hM:=hM.mod (hP13.mod 0 (Nat.zero_le _)) (Nat.zero_le _) (by decide)
 have hF:=hF.one hP13.one (by decide)
 refine Ac (t_n (Ab (Aa ?_)))
 refine pA (Ac (t_n (Ao ?_)))
 refine eR1 ?_
 (rw[Ow hL0 (by(rw[hb6_1];rfl))]
  exact⟨rfl,Dsk.of hB hM hSg hSr hF Ev,hX⟩)
end Go.Proofs.Eng
end
