import Derived.Test.YtlmfpocifkpggaaGreatDoorFu5
set_option linter.unusedVariables false
set_option linter.unusedSimpArgs false
set_option linter.unusedSectionVars false
section
namespace Go.Proofs.Eng
open Go.RowKit
structure Vu (D:DS) (M i:Nat) (V:ByteArray→Option Fb) (u n:Nat):Prop where
  up:UpD D M i
  v:∀ k,ascF D.l k=V k
  used:usedL D.l=u
  len:D.l.length=n
theorem Aal {o:Option Fb} {f:Fb} (h:o=some f):(o.map fun f=>f.1.length).getD 0=f.1.length:=by rw[h];rfl
section
variable {D : DS} {M i u n : Nat} {V : ByteArray → Option Fb} {k : ByteArray}
theorem Yv (h:Vu D M i V u n) (act:List Fl) (o:Option Fb) (ha:act=insA D.l k o) (hg:Good { D with l:=act,left:=-1,steps:=D.steps+1 } (i+1)) {u' n':Nat} (hu:u'+((V k).map fun f=>f.1.length).getD 0=u+(o.map fun f=>f.1.length).getD 0) (hn:n'+(if V k=none then 0 else 1)=n+(if o=none then 0 else 1)) :
    Vu { D with l:=act,left:=-1,steps:=D.steps+1 } M (i+1) (mset V k o) u' n':=by
  have hr:=h.up.good.ok.rise
  refine⟨Acx h.up hg,fun z=>?_,?_,?_⟩
  · show ascA act z = _
    rw[ha,← D2 hr]
    unfold mset
    split
    · rfl
    · exact h.v z
  · show usedL act = u'
    have:=Dn hr k o
    have hv:ascA D.l k=V k:=h.v k
    rw[hv] at this
    rw[ha];have:=h.used;omega
  · show act.length = n'
    have:=Gj hr k o
    have hv:ascA D.l k=V k:=h.v k
    rw[hv] at this
    rw[ha];have:=h.len;omega
theorem Pp (h:Vu D M i V u n) (hn:Ay k=true) (hk:V k=none) (hl:n<64):(Bh D k).2=0∧Vu (Bh D k).1 M (i+1) (mset V k (some ([],0))) u (n+1):=by
  have hg:=Gn h.up.good k
  unfold Bh at hg ⊢
  rw[Dr (by simp[hn]) h.up.down,if_neg (by simp),if_neg (by rw[h.v,hk];simp),if_neg (by rw[h.len];omega),V9 h.up] at hg ⊢
  exact⟨rfl,Yv h _ _ rfl hg (by rw[hk];rfl) (by rw[if_pos hk];rfl)⟩
theorem Pq (h:Vu D M i V u n) (hn:Ay k=true) {f:Fb} (hk:V k=some f) {p:By} (hr:u+p.length≤M):(A3 D k p).2=0∧Vu (A3 D k p).1 M (i+1) (mset V k (some (f.1++p,f.2))) (u+p.length) n:=by
  have hg:=Gq h.up.good k p
  have hgf:getF D k=f:=by unfold getF;rw[h.v,hk];rfl
  unfold A3 at hg ⊢
  rw[Dr (by simp[hn]) h.up.down,if_neg (by simp),if_neg (by rw[h.v,hk];simp),hgf,h.up.most,h.used,if_neg (by omega),V9 h.up] at hg ⊢
  exact⟨rfl,Yv h _ _ rfl hg (by rw[Aal hk];simp;omega) (by rw[if_neg (by rw[hk];simp),if_neg (by simp)])⟩
theorem V5 (h:Vu D M i V u n) (hn:Ay k=true) {f:Fb} (hk:V k=some f):(syncD D k).2=0∧Vu (syncD D k).1 M (i+1) (mset V k (some (f.1,f.1.length))) u n:=by
  have hg:=Lm h.up.good k
  have hgf:getF D k=f:=by unfold getF;rw[h.v,hk];rfl
  unfold syncD at hg ⊢
  rw[Dr (by simp[hn]) h.up.down,if_neg (by simp),if_neg (by rw[h.v,hk];simp),hgf,V9 h.up] at hg ⊢
  exact⟨rfl,Yv h _ _ rfl hg (by rw[Aal hk];rfl) (by rw[if_neg (by rw[hk];simp),if_neg (by simp)])⟩
theorem V6 (h:Vu D M i V u n) (hn:Ay k=true) {f:Fb} (hk:V k=some f):readD D k=(f.1,0):=Abf h.up hn (by rw[h.v,hk])
theorem Abe (h:Vu D M i V u n) (hn:Ay k=true) (hk:V k=none):readD D k=([],22):=by
  unfold readD
  rw[Dr (by simp[hn]) h.up.down,if_neg (by simp),if_pos (by rw[h.v,hk])]
theorem Ac7 (h:Vu D M i V u n) {old now:ByteArray} (hn:Ay old=true) (hn2:Ay now=true) (hne:old≠now) {f:Fb} (hk:V old=some f) :
    (Cf D old now).2=0∧∃ u' n',Vu (Cf D old now).1 M (i+1) (mset (mset V now (some f)) old none) u' n'∧u'+((V now).map fun f=>f.1.length).getD 0=u∧n'+(if V now=none then 0 else 1)=n:=by
  have hg:=H8 h.up.good old now
  have hgf:getF D old=f:=by unfold getF;rw[h.v,hk];rfl
  have hr:=h.up.good.ok.rise
  have ho:ascF D.l old≠none:=by rw[h.v,hk];simp
  unfold Cf at hg ⊢
  rw[Dr (by simp[hn,hn2]) h.up.down,if_neg (by simp),if_neg ho,hgf,V9 h.up] at hg ⊢
  have hl:renL D.l old now f=insA (insA D.l now (some f)) old none:=if_neg hne
  rw[hl] at hg ⊢
  have hr2:=Do hr now (some f)
  have h1:=Dn hr now (some f)
  have h2:=Dn hr2 old none
  have h3:=Gj hr now (some f)
  have h4:=Gj hr2 old none
  have hv:ascA D.l now=V now:=h.v now
  have hvo:ascA (insA D.l now (some f)) old=some f:=by rw[← D2 hr];unfold mset;rw[if_neg hne];exact(h.v old).trans hk
  rw[hv] at h1 h3
  rw[hvo] at h2 h4
  simp only[Option.map_some,Option.getD_some,Option.map_none,Option.getD_none,reduceCtorEq,if_false,if_true] at h1 h2 h3 h4
  refine⟨rfl,_,_,⟨Acx h.up hg,fun z=>?_,rfl,rfl⟩,?_,?_⟩
  · show ascA (insA (insA D.l now (some f)) old none) z = _
    rw[← D2 hr2]
    unfold mset
    split
    · rfl
    · rw [← D2 hr]
      unfold mset
      split
      · rfl
      · exact h.v z
  · have:=h.used;show usedL (insA (insA D.l now (some f)) old none)+_=_;omega
  · have:=h.len;show (insA (insA D.l now (some f)) old none).length+_=_;split at h3 <;> simp_all <;> omega
end
theorem Fz:Ay nMan=true:=by decide
theorem D6:Ay nNew=true:=by decide
theorem Dh:nMan≠nNew:=by decide
theorem N6 {k:Nat} (h1:1≤k) (h2:k≤999999):(nSeg k).size=10:=by
  unfold nSeg nameF
  rw[if_neg (by omega)]
  show (toStr (nameL _)).size=10
  unfold toStr
  simp[ByteArray.size,Pz]
theorem Cv {k:Nat} (h1:1≤k) (h2:k≤999999):Ay (nSeg k)=true:=by
  have hs:=N6 h1 h2
  unfold Ay
  rw[decide_eq_true (by omega),Bool.true_and,List.all_eq_true]
  intro c hc
  have e:(nSeg k).data.toList=nameL ((k:Int).toNat):=by unfold nSeg nameF toStr;rw[if_neg (by omega)]
  rw[e] at hc
  unfold nameL at hc
  rcases List.mem_append.1 hc with h | h
  · clear hc;revert h;revert c;decide
  · have := R7 6 _ c h
    exact decide_eq_true (by omega)
theorem C8 {k:Nat} (h1:1≤k) (h2:k≤999999):nSeg k≠nMan:=fun e=>by have:=N6 h1 h2;rw[e] at this;revert this;decide
theorem Dw {k:Nat} (h1:1≤k) (h2:k≤999999):nSeg k≠nNew:=fun e=>by have:=N6 h1 h2;rw[e] at this;revert this;decide
theorem L9:¬ SegN nMan:=fun ⟨k,h1,h2,e⟩=>C8 h1 h2 e.symm
theorem Zp {a b:Nat} (ha:1≤a) (ha2:a≤999999) (hb:1≤b) (hb2:b≤999999) (h:nSeg a=nSeg b):a=b:=by
  unfold nSeg nameF at h
  rw[if_neg (by omega),if_neg (by omega)] at h
  exact P0 ha2 hb2 (Xe.1 h)
theorem So {D:DS} {M i u n:Nat} {V:ByteArray→Option Fb} (h:Vu D M i V u n) (hk:V nNew=none) (hl:n<64) {b:By} (hr:u+b.length≤M) :
    (writeD D b).2=0∧∃ u' n',Vu (writeD D b).1 M (i+4) (mset V nMan (some (b,b.length))) u' n'∧u'+((V nMan).map fun f=>f.1.length).getD 0=u+b.length∧n'+(if V nMan=none then 0 else 1)=n+1:=by
  have hne:nNew≠nMan:=fun e=>Dh e.symm
  obtain⟨a1,a2⟩:=Pp h D6 hk hl
  have k1:mset V nNew (some ([],0)) nNew=some ([],0):=by unfold mset;rw[if_pos rfl]
  obtain⟨b1,b2⟩:=Pq a2 D6 k1 (p:=b) hr
  have k2:mset (mset V nNew (some ([],0))) nNew (some (([]:By)++b,0)) nNew=some (([]:By)++b,0):=by unfold mset;rw[if_pos rfl]
  obtain⟨c1,c2⟩:=V5 b2 D6 k2
  obtain⟨d1,u',n',d2,d3,d4⟩:=Ac7 c2 (old:=nNew) (now:=nMan) D6 Fz hne (f:=(([]:By)++b,(([]:By)++b).length)) (by unfold mset;rw[if_pos rfl])
  have e:writeD D b=Cf (syncD (A3 (Bh D nNew).1 nNew b).1 nNew).1 nNew nMan:=by
    unfold writeD
    rw[Ee a1,Ee b1,Ee c1]
  have hm:∀ x:Option Fb,mset (mset (mset V nNew (some ([],0))) nNew (some (([]:By)++b,0))) nNew x nMan=V nMan:=fun x=>by
    unfold mset;rw[if_neg Dh,if_neg Dh,if_neg Dh]
  rw[hm] at d3 d4
  refine⟨by rw[e];exact d1,u',n',?_,d3,d4⟩
  rw[e]
  have hv:mset (mset (mset (mset (mset V nNew (some ([],0))) nNew (some (([]:By)++b,0))) nNew (some (([]:By)++b,(([]:By)++b).length))) nMan (some (([]:By)++b,(([]:By)++b).length))) nNew none=mset V nMan (some (b,b.length)):=by
    funext z
    unfold mset
    simp only[List.nil_append]
    by_cases e1:z=nNew
    · subst e1;rw[if_pos rfl,if_neg hne,hk]
    · rw [if_neg e1]
      by_cases e2:z=nMan
      · rw[if_pos e2,if_pos e2]
      · rw[if_neg e2,if_neg e2,if_neg e1,if_neg e1,if_neg e1]
  rw[hv] at d2
  exact d2
theorem O3 {keep:ByteArray} {D:DS}:∀ {ns:List ByteArray},(∀ x∈ns,keepN x keep=true)→cleanL keep D ns=(D,0)
  | [],_=>rfl
  | x :: ns, h => by
    unfold cleanL
    rw[if_pos (h x (by simp))]
    exact O3 fun y hy=>h y (by simp[hy])
structure Rst (C:CS) (M i:Nat):Prop where
  ex:∃ V u,Vu C.D M i V u 2∧V nMan=some (manB ⟨C.seg,C.size,C.index⟩,(manB ⟨C.seg,C.size,C.index⟩).length)∧V (nSeg C.seg)=some (segB C.L,C.size)∧(∀ k,k≠nMan→k≠nSeg C.seg→V k=none)∧u=(manB ⟨C.seg,C.size,C.index⟩).length+C.size
  ok:(Mf.mk C.seg C.size C.index).Ok
  sz:(segB C.L).length=C.size
  cl:∀ c∈C.L,c.length≤1048576
  dead:C.dead=false
  next:C.next=none
theorem Ln {l:List By} (h:∀ c∈l,c.length≤1048576):getSg (segB l)=(l,0):=by
  unfold getSg
  have h1:Bu (segB l)=some l:=O4 l h
  rw[h1]
theorem Rst.open {C:CS} {M i:Nat} (h:Rst C M i):openC C.D=(C,0):=by
  obtain⟨V,u,hv,h1,h2,h3,h4⟩:=h.ex
  have hlo:=h.ok.lo
  have hhi:=h.ok.hi
  have hrm:=V6 hv Fz h1
  have hrs:=V6 hv (Cv hlo hhi) h2
  have hmo:ManOf (readD C.D nMan).1 ⟨C.seg,C.size,C.index⟩:=by rw[hrm];exact⟨h.ok,rfl⟩
  have hs:=h.sz
  have hfull:(segB C.L).take C.size=segB C.L:=List.take_of_length_le (by omega)
  rw[Ju (by rw[hrm]),Li hmo]
  simp only[]
  rw[hrs]
  simp only[]
  rw[hfull,Ln h.cl,if_neg (by simp;omega)]
  have hkeep:cleanD C.D (nSeg C.seg)=(C.D,0):=O3 fun x hx=>by
    rw[E5]
    have hx2:ascF C.D.l x≠none:=C0.2 hx
    rw[hv.v] at hx2
    by_cases e1:x=nMan
    · subst e1;exact⟨Dh,.inl L9⟩
    · by_cases e2 : x = nSeg C.seg
      · subst e2;exact⟨Dw hlo hhi,.inr rfl⟩
      · exact absurd (h3 x e1 e2) hx2
  have hlr:loadR C.D ⟨C.seg,C.size,C.index⟩=(C.D,0):=by
    unfold loadR
    simp only[]
    rw[hrs,if_neg (by simp only[];omega)]
    exact hkeep
  rw[hlr]
  have hL:(getSg ((readD C.D (nSeg C.seg)).1.take C.size)).1=C.L:=by rw[hrs];simp only[];rw[hfull,Ln h.cl]
  have:loadS C.D ⟨C.seg,C.size,C.index⟩=C:=by
    unfold loadS
    simp only[]
    rw[hL]
    have hd:=h.dead
    have hn:=h.next
    cases C;simp_all
  rw[this]
theorem Ac8 (most:Int):Vu (newD most) (max 0 (min most 16777216)).toNat 0 (fun _=>none) 0 0:=⟨⟨Tw most,rfl,rfl,rfl⟩,fun _=>rfl,rfl,rfl⟩
theorem Zo {most:Int} {M:Nat} (hm:M=(max 0 (min most 16777216)).toNat) (hr:(manB ⟨1,0,[]⟩).length≤M) :
    (openC (newD most)).2=0∧Rst (openC (newD most)).1 M 5∧(openC (newD most)).1.L=[]∧(openC (newD most)).1.size=0∧(openC (newD most)).1.index=[]∧(openC (newD most)).1.seg=1:=by
  subst hm
  have h0:=Ac8 most
  have hok:(Mf.mk 1 0 []).Ok:=⟨by show 1≤1;omega,by show 1≤999999;omega,by show 0≤_;omega,by show 0≤_;omega⟩
  have hrn:=Abe h0 Fz rfl
  have hcl:cleanD (newD most) (toStr [])=(newD most,0):=rfl
  obtain⟨a1,a2⟩:=Pp h0 (Cv (k:=1) (by omega) (by omega)) rfl (by omega)
  have hk:mset (fun _=>none:ByteArray→Option Fb) (nSeg 1) (some ([],0)) nNew=none:=by unfold mset;rw[if_neg (fun e=>Dw (k:=1) (by omega) (by omega) e.symm)]
  obtain⟨b1,u',n',b2,b3,b4⟩:=So a2 hk (by omega) (b:=manB ⟨1,0,[]⟩) (by omega)
  have hkm:mset (fun _=>none:ByteArray→Option Fb) (nSeg 1) (some ([],0)) nMan=none:=by unfold mset;rw[if_neg (fun e=>C8 (k:=1) (by omega) (by omega) e.symm)]
  rw[hkm] at b3 b4
  simp only[Option.map_none,Option.getD_none,if_true] at b3 b4
  have hn2:n'=2:=by omega
  subst hn2
  have hrun:runD openOps (newD most)=writeD (Bh (newD most) (nSeg 1)).1 (manB ⟨1,0,[]⟩):=by
    simp only[openOps,runD,Ed]
    rw[hcl,Ee (r:=(newD most,0)) rfl,Ee a1]
    unfold writeM
    rw[if_pos (M0.2 hok)]
  have ho:=Lc (D:=newD most) (by rw[hrn])
  rw[ho,hrun]
  refine⟨b1,⟨⟨_,u',b2,?_,?_,?_,(by show u'=(manB ⟨1,0,[]⟩).length+0;omega)⟩,hok,rfl,(by intro c hc;cases hc),rfl,rfl⟩,rfl,rfl,rfl,rfl⟩
  · unfold mset;rw[if_pos rfl]
  · show mset _ nMan _ (nSeg 1) = _
    unfold mset;rw[if_neg (C8 (k:=1) (by omega) (by omega)),if_pos rfl];rfl
  · intro k h1 h2
    unfold mset;rw[if_neg h1,if_neg h2]
theorem Rst.put {C:CS} {M i:Nat} (h:Rst C M i) {cs:List By} {ix:By} (hc:∀ c∈cs,c.length≤1048576) (hi:ix.length≤524288) (hM:M≤16777216)
    (hr:(manB ⟨C.seg,C.size,C.index⟩).length+C.size+(segB (Av C.L cs)).length+(manB ⟨C.seg,C.size+(segB (Av C.L cs)).length,ix⟩).length≤M) :
    (putC C cs ix).2=0∧Rst (putC C cs ix).1 M (i+6)∧(putC C cs ix).1.L=C.L++Av C.L cs∧(putC C cs ix).1.index=ix∧(putC C cs ix).1.seg=C.seg∧(putC C cs ix).1.size=C.size+(segB (Av C.L cs)).length:=by
  obtain⟨V,u,hv,h1,h2,h3,h4⟩:=h.ex
  have hlo:=h.ok.lo
  have hhi:=h.ok.hi
  simp only at hlo hhi
  have hns:=Cv hlo hhi
  have hmain:=K9 (C:=C) (cs:=cs) (ix:=ix) (by rw[h.dead];simp) (by rintro (e | ⟨c,hc1,hc2⟩);(· omega);(· have:=hc c hc1;omega))
  obtain⟨l,hl⟩:∃ l,l=Av C.L cs:=⟨_,rfl⟩
  rw[← hl] at hmain hr ⊢
  have hlc:∀ c∈l,c.length≤1048576:=fun c hcl=>hc c (by rw[hl] at hcl;exact(Dz cs C.L c hcl).2)
  have hok:(Mf.mk C.seg (C.size+(segB l).length) ix).Ok:=⟨hlo,hhi,by show C.size+_≤_;omega,hi⟩
  -- the first step
  have hp1:∃ D1 j,put1 C l=(D1,0)∧Vu D1 M j (mset V (nSeg C.seg) (some (segB (C.L++l),C.size+(segB l).length))) (u+(segB l).length) 2∧j≤i+2:=by
    have hsa:segB C.L++segB l=segB (C.L++l):=by unfold segB;rw[List.flatMap_append]
    by_cases he:l=[]
    · refine ⟨C.D, i, Nw he, ?_, by omega⟩
      have hV:mset V (nSeg C.seg) (some (segB (C.L++l),C.size+(segB l).length))=V:=by
        funext z;unfold mset
        split
        · rename_i e;subst e;rw[h2,he];simp[segB]
        · rfl
      rw[hV,he];exact hv
    · obtain ⟨a1, a2⟩ := Pq hv hns h2 (p := segB l) (by omega)
      obtain⟨b1,b2⟩:=V5 a2 hns (f:=(segB C.L++segB l,C.size)) (by unfold mset;rw[if_pos rfl])
      refine⟨(syncD (A3 C.D (nSeg C.seg) (segB l)).1 (nSeg C.seg)).1,i+2,?_,?_,Nat.le_refl _⟩
      · rw [Lb he]
        simp only[runD,Ed]
        rw[Ee a1]
        exact Prod.ext rfl b1
      · have hV : mset (mset V (nSeg C.seg) (some (segB C.L ++ segB l, C.size))) (nSeg C.seg) (some (segB C.L ++ segB l, (segB C.L ++ segB l).length)) = mset V (nSeg C.seg) (some (segB (C.L ++ l), C.size + (segB l).length)) := by
          funext z;unfold mset
          split
          · rw[List.length_append,h.sz,hsa]
          · rfl
        rw[← hV];exact b2
  obtain⟨D1,j,hp,hv1,hj⟩:=hp1
  have hnn:mset V (nSeg C.seg) (some (segB (C.L++l),C.size+(segB l).length)) nNew=none:=by
    unfold mset;rw[if_neg (fun e=>Dw hlo hhi e.symm)];exact h3 _ (fun e=>Dh e.symm) (fun e=>Dw hlo hhi e.symm)
  obtain⟨w1,u',n',w2,w3,w4⟩:=So hv1 hnn (by omega) (b:=manB ⟨C.seg,C.size+(segB l).length,ix⟩) (by omega)
  have hmm:mset V (nSeg C.seg) (some (segB (C.L++l),C.size+(segB l).length)) nMan=some (manB ⟨C.seg,C.size,C.index⟩,(manB ⟨C.seg,C.size,C.index⟩).length):=by
    unfold mset;rw[if_neg (fun e=>C8 hlo hhi e.symm)];exact h1
  rw[hmm] at w3 w4
  simp only[Option.map_some,Option.getD_some,reduceCtorEq,if_false] at w3 w4
  have hn2:n'=2:=by omega
  subst hn2
  have hR:putR C l ix=writeD D1 (manB ⟨C.seg,C.size+(segB l).length,ix⟩):=by
    unfold putR
    rw[hp]
    show writeM D1 _=_
    unfold writeM
    rw[if_pos (M0.2 hok)]
  rw[hmain,hR,if_neg (by rw[w1];simp)]
  have w2:Vu (writeD D1 (manB ⟨C.seg,C.size+(segB l).length,ix⟩)).1 M (i+6) _ u' 2:=⟨⟨w2.up.good.mono (by omega),w2.up.down,w2.up.left,w2.up.most⟩,w2.v,w2.used,w2.len⟩
  refine⟨rfl,⟨⟨_,u',w2,?_,?_,?_,(by show u'=(manB ⟨C.seg,C.size+(segB l).length,ix⟩).length+(C.size+(segB l).length);omega)⟩,hok,?_,?_,h.dead,h.next⟩,rfl,rfl,rfl,rfl⟩
  · unfold mset;rw[if_pos rfl]
  · show mset _ nMan _ (nSeg C.seg) = _
    unfold mset;rw[if_neg (C8 hlo hhi),if_pos rfl]
  · intro k e1 e2
    show mset _ nMan _ k=none
    unfold mset;rw[if_neg e1,if_neg e2];exact h3 k e1 e2
  · show (segB (C.L ++ l)).length = C.size + (segB l).length
    have e:segB (C.L++l)=segB C.L++segB l:=by unfold segB;rw[List.flatMap_append]
    rw[e,List.length_append,h.sz]
  · intro c hcl
    rcases List.mem_append.1 hcl with e | e
    · exact h.cl c e
    · exact hlc c e
theorem Rst.cn {C:CS} {M i:Nat} (h:Rst C M i) (hM:M≤16777216) (hl:C.L.length≤4194304):CN C i:=by
  obtain⟨V,u,hv,h1,h2,h3,h4⟩:=h.ex
  have:=h.ok.ix
  have:=h.ok.sz
  exact⟨hv.up.good,h.ok.hi,(by have:=h.ok.sz;simp only at this;omega),(by simp only at *;omega),(fun g z e=>by rw[h.next] at e;cases e),hl,h.cl⟩
theorem H3 {m:Mf} (h:m.Ok):(manB m).length≤m.index.length+35:=by
  have h1:=Dy (n:=m.seg) (by have:=h.hi;omega)
  have h2:=Dy (n:=m.size) (by have:=h.sz;omega)
  have h3:=S7 3 (Db m) (H2 h)
  have h4:(Db m).length=(lebU m.seg).length+((lebU m.size).length+m.index.length):=by simp[Db]
  unfold manB
  omega
theorem Zj:(Mf.mk 1 0 []).Ok:=⟨by show 1≤1;omega,by show 1≤999999;omega,by show 0≤_;omega,by show 0≤_;omega⟩
theorem P2:(manB ⟨1,0,[]⟩).length≤35:=H3 Zj
theorem Uk:(segB [[97]]).length=7:=by
  have h:=Acs
  unfold segB
  rw[h];exact Acr
theorem Aa0 {C:CS} (h:Rst C 1000 5) (hL:C.L=[]) (hz:C.size=0) (hi:C.index=[]) (hs:C.seg=1) :
    (putC C [[97]] [105]).2=0∧Rst (putC C [[97]] [105]).1 1000 11∧(putC C [[97]] [105]).1.L=[[97]]∧(putC C [[97]] [105]).1.index=[105]∧(putC C [[97]] [105]).1.size=7:=by
  have hok:(Mf.mk 1 7 [105]).Ok:=⟨by show 1≤1;omega,by show 1≤999999;omega,by show 7≤_;omega,by show 1≤_;omega⟩
  have hm:=H3 hok
  have hf:=P2
  have e:Av C.L [[97]]=[[97]]:=by rw[hL];rfl
  simp only[List.length_cons,List.length_nil] at hm
  obtain⟨a,b,c,d,_,f⟩:=h.put (cs:=[[97]]) (ix:=[105]) (by intro x hx;simp only[List.mem_singleton] at hx;subst hx;show 1≤_;omega) (by show 1≤_;omega) (by omega) (by rw[e,Uk,hz,hi,hs,show 0+7=7 from rfl];omega)
  rw[e] at c f
  exact⟨a,b,by rw[c,hL];rfl,d,by rw[f,hz,Uk]⟩
end Go.Proofs.Eng
end
section
set_option maxRecDepth 100000
set_option maxHeartbeats 4000000
namespace Go.Proofs.Eng
open Go.RowKit
open Extern.Stop (cell)
theorem Gh (w:World) (hg:Gt w) :
    Ret Tryz.prog 11 [] w (fun v w'=>v = .bool true∧Ext w w'):=by
 have hgs:=hg.size
 have hX:=Ext.refl w
 refine eN 65 Tryz.func11 ?_
 refine Ab (Aa ?_)
 refine pA (Ac (t_n (Ab (Aa ?_))))
 have hXs1:=hX.size
 refine Ag Tryz.func13 fn13 fb13 (T9 1000 _) rfl ?_
 rintro v1 w1 ⟨⟨gd,rfl,hD⟩,hE1⟩
 have hX:=hX.ext hE1
 have hg:=hg.ext hE1
 have hD:Dsk (since w) _ gd (newD 1000):=hD.mono (fun k _ h=>h.elim False.elim fun q=>Nat.le_trans hXs1 q.1)
 refine pA (Ac (t_n (Ab (Aa ?_))))
 refine pM ?_
 have hXs:=hX.size
 refine Ag Tryz.func12 fn12 fb12 (Fk gd (since w) (newD 1000) _ hD (Ri 1000) (by show 0<_;omega) (by show (-1:Int)≤_;omega) (fun x hx=>by cases hx) (fun k h=>Nat.le_trans hgs (show w.heap.size≤k from h)) hg) rfl ?_
 rintro v2 w2 ⟨⟨pv2,rfl,hor2⟩,hM2⟩
 obtain⟨hn1,hn2,hn3,hn4,hn5,hn6⟩:=Zo (most:=1000) (M:=1000) (by rfl) (by have:=P2;omega)
 obtain⟨ho2,g,rfl,hC⟩:=hor2.resolve_right (fun h=>h.1 hn1)
 rw[ho2]
 obtain⟨C1,hC1⟩:∃ c,c=(openC (newD 1000)).1:=⟨_,rfl⟩
 rw[← hC1] at hC hn2 hn3 hn4 hn5 hn6
 have hX:=hX.modS hM2 (Nm w)
 have hg:=hg.modS hM2 (fun k h=>Nat.le_trans hgs (show w.heap.size≤k from h))
 have hC:=hC.sub (w:=w) (fun j h=>h.elim (fun h=>h) fun q=>Nat.le_trans hXs q.1)
 obtain⟨Z,hZ⟩:∃ z,z=w2.heap.size:=⟨_,rfl⟩
 rw[← hZ] at hC
 have hXZ:=Ext.refl w2
 have hwZ:=hX.size
 obtain⟨hp1,hp2,hp3,hp4,hp5⟩:=Aa0 hn2 hn3 hn4 hn5 hn6
 refine pM ?_
 refine p1 (Ao rfl rfl) ?_
 refine p1 (Ao rfl rfl) ?_
 refine pA (pA (Ac (t_n (Ab (Ab (Aa ?_))))))
 refine pM ?_
 refine p1 ((A4 rfl rfl).cast (congrArg Value.bool (decide_eq_false (by simp)))) ?_
 refine pM (gM 13 ?_)
 refine g1 13 rfl rfl ((A9 u30 rfl rfl).cast (congrArg Value.bool (decide_eq_false (by simp)))) ?_
 refine p1 (Ap rfl (by conv=>lhs;whnf)) ?_
 refine pM (gM 17 ?_)
 refine Be 17 rfl rfl ?_
 refine Au u23 inf5 rfl (by decide) (fun base hb=>Ce (by rfl) base hb) ?_
 intro w3 g19 hN19
 have hN19:New _ _ g19 ([(97:UInt8)].map fun b=>[cell b]).flatten.toArray 5:=hN19
 have hg19:=hN19.g_eq
 have hZs:=hXZ.size
 have hO19:Own kByte 5 0 0 w3 (some ⟨g19,0,none⟩) 1 1 [(97:UInt8)]:=Cu (B0:=0) [(97:UInt8)] hN19 (Nat.zero_le _) (by simp)
 have hJ19:=hO19.sl
 have hE3:=hN19.ext
 have hX:=hX.ext hE3
 have hXZ:=hXZ.ext hE3
 refine Be 17 rfl rfl ?_
 refine Tm u23 u5 rfl hN19.blk ?_
 intro w4 hO4 hR4
 have hX:=hX.mod (hO4.mod (B:=w.heap.size) (by omega)) (Nat.le_refl _)
 have hXZ:=hXZ.mod (hO4.mod (B:=Z) (by omega)) (by omega)
 have hs19:=(slx hJ19 hR4).re (Nat.le_refl _) 5
 have ho19:=Wh (w:=w) (Z:=Z) hs19 rfl (by omega)
 refine Be 17 rfl rfl ?_
 refine Au u22 inf23 rfl (by decide) (fun base hb=>Ce (by rfl) base hb) ?_
 intro w5 g21 hN21
 have hB21:=hN21.blk
 have hE5:=hN21.ext
 have hs19:=hs19.ext hE5
 have hX:=hX.ext hE5
 have hXZ:=hXZ.ext hE5
 refine Be 17 rfl rfl ?_
 refine Au u23 inf5 rfl (by decide) (fun base hb=>Ce (by rfl) base hb) ?_
 intro w6 g22 hN22
 have hN22:New _ _ g22 ([(105:UInt8)].map fun b=>[cell b]).flatten.toArray 5:=hN22
 have hg22:=hN22.g_eq
 have hZs:=hXZ.size
 have hO22:Own kByte 5 0 0 w6 (some ⟨g22,0,none⟩) 1 1 [(105:UInt8)]:=Cu (B0:=0) [(105:UInt8)] hN22 (Nat.zero_le _) (by simp)
 have hJ22:=hO22.sl
 have hE6:=hN22.ext
 have hX:=hX.ext hE6
 have hXZ:=hXZ.ext hE6
 have hB21:=hB21.ext hE6
 refine Be 17 rfl rfl ?_
 refine Tm u23 u5 rfl hN22.blk ?_
 intro w7 hO7 hR7
 have hX:=hX.mod (hO7.mod (B:=w.heap.size) (by omega)) (Nat.le_refl _)
 have hXZ:=hXZ.mod (hO7.mod (B:=Z) (by omega)) (by omega)
 have hs22:=(slx hJ22 hR7).re (Nat.le_refl _) 5
 have ho22:=Wh (w:=w) (Z:=Z) hs22 rfl (by omega)
 have hs19:=(slx (hs19.ext hN22.ext) hR7).re (Nat.le_refl _) 5
 have hB21:=hB21.one hO7 (by decide)
 have hkl:=Abk hB21 hs19
 refine Be 17 rfl rfl ?_
 obtain⟨Sd,r,μ,pi,ni,ci,nx,hCX⟩:=hC.ext hXZ
 refine Ag Tryz.func14 fn14 fb14 (Pv g gd r (sub w Z) Sd μ pi nx ni ci C1 5 _ hCX (hn2.cn (by omega) (by rw[hn3];simp)) (fun j h=>Nat.le_trans hgs h.1) (hg.ext hXZ) (by omega) [[97]] _ _ _ _ hkl (Nat.le_refl _) (by omega) [105] _ _ _ ho22) rfl ?_
 rintro v8 w8 ⟨rfl,hC,hM8⟩
 rw[hp1]
 have hX:=hX.modS hM8 (fun k h=>h.1)
 have hg:=(hg.ext hXZ).modS hM8 (fun j h=>Nat.le_trans hgs h.1)
 obtain⟨C2,hC2⟩:∃ c,c=(putC C1 [[97]] [105]).1:=⟨_,rfl⟩
 rw[← hC2] at hC hp2 hp3 hp4 hp5
 obtain⟨Sd,r,μ,pi,ni,ci,nx,hCX⟩:=hC
 have hXs3:=hXZ.size
 have hD:Dsk (since w) _ gd C2.D:=hCX.d.mono (fun j _ h=>(hCX.sub j h).elim (fun h=>h.1) fun q=>by show w.heap.size≤j;have:=q.1;omega)
 have hU:=hp2.cn (by omega) (by rw[hp3];simp)
 refine g1 17 rfl rfl ((A4 rfl rfl).cast (congrArg Value.bool (decide_eq_false (by simp)))) ?_
 refine p1 (Ap rfl (by conv=>lhs;whnf)) ?_
 refine Ac (t_n ?_)
 refine c_f rfl ?_
 refine Ah (t_n (Ab (Aa ?_)))
 refine pM ?_
 have hXs:=hX.size
 refine Ag Tryz.func12 fn12 fb12 (Fk gd (since w) C2.D _ hD hU.good.ok (Nat.lt_of_le_of_lt hU.good.steps (by omega)) hU.good.left hU.good.names (fun k h=>Nat.le_trans hgs (show w.heap.size≤k from h)) hg) rfl ?_
 rintro v9 w9 ⟨⟨pv9,rfl,hor9⟩,hM9⟩
 obtain⟨ho3,g2,rfl,hC⟩:=hor9.resolve_right (fun h=>h.1 (by rw[hp2.open]))
 rw[ho3]
 rw[hp2.open] at hC
 have hX:=hX.modS hM9 (Nm w)
 obtain⟨Se,r2,μ2,pi2,ni2,ci2,nx2,hCX⟩:=hC
 refine pM ?_
 refine p1 (Ao rfl rfl) ?_
 refine p1 (Ao rfl rfl) ?_
 refine pA (pA (Ac (t_n (Ab (Aa ?_)))))
 refine pM ?_
 refine p1 ((Bs rfl rfl).cast (congrArg Value.bool (decide_eq_true (rfl)))) ?_
 refine pM (gM 34 ?_)
 refine g1 34 rfl rfl ((Ql u30 rfl rfl).cast (congrArg Value.bool (decide_eq_true (by simp)))) ?_
 refine p1 (Ar rfl (by conv=>lhs;whnf)) ?_
 refine pM (gM 38 ?_)
 refine Be 38 rfl rfl ?_
 refine Ag Tryz.func31 fn31 fb31 (El g2 gd r2 _ Se μ2 pi2 nx2 ni2 ci2 C2 11 _ hCX hU) rfl ?_
 rintro v10 w10 ⟨⟨qi,mi,cj,rfl,hO⟩,hE10⟩
 have hX:=hX.ext hE10
 have hCX:=hCX.ext hE10
 rw[hp4] at hO
 refine g1 38 rfl rfl (A6 u23 u5 u9 rfl hO.sl) ?_
 refine g1 38 rfl rfl ((Is rfl (show _=Value.string (toStr [105]) from rfl)).cast (congrArg Value.bool (decide_eq_true (rfl)))) ?_
 refine p1 (Ar rfl (by conv=>lhs;whnf)) ?_
 refine pM (gM 44 ?_)
 refine Be 44 rfl rfl ?_
 refine Ag Tryz.func15 fn15 fb15 (Ez g2 gd r2 _ Se μ2 pi2 nx2 ni2 ci2 C2 11 _ hCX hU) rfl ?_
 rintro v11 w11 ⟨rfl,hE11⟩
 have hX:=hX.ext hE11
 have hCX:=hCX.ext hE11
 refine g1 44 rfl rfl ((Bs rfl rfl).cast (congrArg Value.bool (decide_eq_true (by rw[hp5];rfl)))) ?_
 refine p1 (Ar rfl (by conv=>lhs;whnf)) ?_
 refine pM (gM 49 ?_)
 refine Be 49 rfl rfl ?_
 refine Ag Tryz.func30 fn30 fb30 (E0 g2 gd r2 _ Se μ2 pi2 nx2 ni2 ci2 C2 11 _ hCX hU) rfl ?_
 rintro v12 w12 ⟨⟨qk,mk,ck,rfl,hK⟩,hE12⟩
 have hX:=hX.ext hE12
 have hkl:=hK.len
 rw[hp3] at hkl
 have hk1:mk=1:=hkl.symm
 refine g1 49 rfl rfl (Ak u54 rfl) ?_
 refine g1 49 rfl rfl ((Bs rfl rfl).cast (congrArg Value.bool (decide_eq_true (by rw[hk1];rfl)))) ?_
 refine p1 (Ar rfl (by conv=>lhs;whnf)) ?_
 refine pM ?_
 refine p1 (Ar rfl (by conv=>lhs;whnf)) ?_
 refine pM ?_
 refine p1 (Ar rfl (by conv=>lhs;whnf)) ?_
 refine pM ?_
 refine p1 (Ar rfl (by conv=>lhs;whnf)) ?_
 refine pM ?_
 refine p1 (Ar rfl (by conv=>lhs;whnf)) ?_
 refine pM ?_
 refine p1 (Ar rfl (by conv=>lhs;whnf)) ?_
 refine pA (Ac (t_n (Al ?_)))
 refine eR1 ?_
 exact⟨rfl,hX⟩
end Go.Proofs.Eng
end
section
set_option maxRecDepth 100000
set_option maxHeartbeats 4000000
namespace Go.Proofs.Eng
open Go.RowKit
open Extern.Stop (cell)
theorem Xo (xss:List By) (B:Nat) (p:Option Addr) (n c:Nat) (w:World) (hl:Sl kLo 23 B w p n c xss) (acts:List CAct) (B2:Nat) (q:Option Addr) (m c2:Nat) (ha:Sl kCA 26 B2 w q m c2 acts) :
    Ret Tryz.prog 9 [.slice p n c,.slice q m c2] w (fun v w'=>(∃ b:Bool,v = .bool b∧(b=true→xss.length≤20∧acts.length≤60∧msum xss+msum (acts.map CAct.index)≤4000))∧Ext w w'):=by
 have hX:=Ext.refl w
 refine eN 47 Tryz.func9 ?_
 refine Ab (Aa ?_)
 refine pA (Ac (t_n (Ab (Ab ?_))))
 have hWr1:=Ext.refl w
 refine Gv (ι:=Unit) [8,9,10,11,12,13,14,15] (fun _=>[(15,.bool (decide (20<n∨60<m)))]) (fun _ w'=>Ext w w') ?_ ?_
 ·skip
  refine Aa ?_
  refine pM ?_
  refine p1 (Ak u22 rfl) ?_
  refine p1 (Da rfl rfl) ?_
  refine p1b (Ai (by conv=>lhs;whnf)) (fun hb1_3=>?_) (fun hb1_3=>?_)
  ·try simp only[dA,dB,dC,dD,dE,dF,dG,Int.not_lt,Int.not_le] at hb1_3
   refine gF 11 (gF 11 (gF 11 ?_))
   refine p1 (Ar rfl (by conv=>lhs;whnf)) ?_
   refine Ac ?_
   refine t_n (aK () ⟨congrArg Value.bool (by exact(decide_eq_true (by omega)).symm),trivial⟩ hWr1)
  try simp only[dA,dB,dC,dD,dE,dF,dG,Int.not_lt,Int.not_le] at hb1_3
  refine gM 11 ?_
  refine g1 11 rfl rfl (Ak u27 rfl) ?_
  refine g1 11 rfl rfl (Da rfl rfl) ?_
  refine p1 (Ap rfl (by conv=>lhs;whnf)) ?_
  refine Ac ?_
  refine t_n (aK () ⟨congrArg Value.bool (by exact decide_eq_decide.2 (by omega)),trivial⟩ hWr1)
 rintro _ Gr1 w1 hE1
 have hX:=hX.ext hE1
 refine t_n ?_
 refine As rfl (fun hc15=>?_) (fun hc15=>?_)
 ·try simp only[dA,dB,dC,dD,dE,dF,dG,Int.not_lt,Int.not_le] at hc15
  refine Ab (Aa ?_)
  refine pA (Ac (t_n (Al (t_r ?_))))
  refine eR1 ?_
  exact⟨⟨false,rfl,fun h=>by cases h⟩,hX⟩
 try simp only[dA,dB,dC,dD,dE,dF,dG,Int.not_lt,Int.not_le] at hc15
 refine Ah (t_n (Ab (Aa ?_)))
 refine pA (Ac (t_n (Ab (Ab ?_))))
 have hln:=hl.len
 have hlc:=hl.cap
 have hlf:=hl.fit
 have han:=ha.len
 have hac:=ha.cap
 have haf:=ha.fit
 refine Aa ?_
 refine pA (Ac (t_n (Am ?_)))
 have hWL0:=Ext.refl w1
 refine Bi (ι:=Nat) [5,6,16,17,18,19,20,21,22,23,24,25,26,27,28,29] (fun k=>[(5,.int .i64 ((msum (xss.take k):Nat):Int)),(6,.int .i64 (k:Int))]) (fun k w'=>Ext w1 w'∧(k≤n)) (fun k=>n - k) (0) ⟨rfl,rfl,trivial⟩ ⟨Ext.refl _,by omega⟩ ?_
 rintro k GL0 w2 ⟨hE2,hk⟩
 have hX:=hX.ext hE2
 have hWL0:=hE2
 have hms:=Tn (xss.take k)
 rw[List.length_take] at hms
 refine Ab (Ab (Aa ?_))
 refine pM (pM ?_)
 refine p1 (Ak u22 rfl) ?_
 refine p1 (Bv rfl rfl) ?_
 refine Ac (t_n ?_)
 refine As rfl (fun hc19=>?_) (fun hc19=>?_)
 ·try simp only[dA,dB,dC,dD,dE,dF,dG,Int.not_lt,Int.not_le] at hc19
  refine Ah (t_n (Ab (Am ?_)))
  obtain⟨qk,mk,ck,hck,hrow⟩:=hl.loAt k (by omega)
  have hrl:=hrow.len
  have hst:=P1 (l:=xss) (k:=k) (by omega)
  refine Aa ?_
  refine pM (pM (pM ?_))
  refine p1 (Dc (i:=k) u22 sz23 rfl rfl ((hl.ext hX).adr Gi (by omega)) (by omega)) ?_
  refine p1 (Ae un23 rfl (hX.cell hck)) ?_
  refine p1 (Ak u23 rfl) ?_
  refine p1 (V0 rfl rfl) ?_
  refine p1 ((A1 rfl rfl (Aj (by omega) (by omega))).cast (congrArg (Value.int .i64) (by rw[hst,hrl];omega:_=((msum (xss.take (k+1)):Nat):Int)))) ?_
  refine pA (Ac (b_n (t_n (Aa ?_))))
  refine pM ?_
  refine p1 (A1 rfl rfl (Aj (by omega) (by omega))) ?_
  refine pA (Ac ?_)
  refine t_n (aK (k+1) ⟨rfl,rfl,trivial⟩ ?_)
  exact⟨⟨hWL0,(by omega)⟩,by((show _<_);omega)⟩
 try simp only[dA,dB,dC,dD,dE,dF,dG,Int.not_lt,Int.not_le] at hc19
 have hkk:xss.take k=xss:=List.take_of_length_le (by omega)
 refine Ba (t_e (t_e (Bq (t_n (Ab (Ab (Aa ?_)))))))
 refine pA (Ac (t_n (Am ?_)))
 have hWL2:=Ext.refl w2
 refine Bi (ι:=Nat) [5,7,30,31,32,33,34,35,36,37,38,39,40,41,42,43,44] (fun j=>[(5,.int .i64 ((msum (xss.take k)+msum ((acts.map CAct.index).take j):Nat):Int)),(7,.int .i64 (j:Int))]) (fun j w'=>Ext w2 w'∧(j≤m)) (fun j=>m - j) (0) ⟨rfl,rfl,trivial⟩ ⟨Ext.refl _,by omega⟩ ?_
 rintro j GL2 w3 ⟨hE3,hj⟩
 have hX:=hX.ext hE3
 have hWL2:=hE3
 have hms2:=Tn ((acts.map CAct.index).take j)
 rw[List.length_take] at hms2
 refine Ab (Ab (Aa ?_))
 refine pM (pM ?_)
 refine p1 (Ak u27 rfl) ?_
 refine p1 (Bv rfl rfl) ?_
 refine Ac (t_n ?_)
 refine As rfl (fun hc33=>?_) (fun hc33=>?_)
 ·try simp only[dA,dB,dC,dD,dE,dF,dG,Int.not_lt,Int.not_le] at hc33
  refine Ah (t_n (Ab (Am ?_)))
  obtain⟨pa1,na1,ca1,pa2,na2,ca2,pa3,na3,ca3,hra,hr1,hr2,hr3,hb1,hb2⟩:=ha.caAt j (by omega)
  have hrl2:=hr2.len
  have hst2:=P1 (l:=acts.map CAct.index) (k:=j) (by rw[List.length_map];omega)
  have hge:(acts.map CAct.index).getD j []=(acts.getD j default).index:=by rw[List.getD_eq_getElem?_getD,List.getD_eq_getElem?_getD,List.getElem?_map,List.getElem?_eq_getElem (by omega)];rfl
  rw[hge] at hst2
  refine Aa ?_
  refine pM (pM (pM ?_))
  refine p1 (Ev u27 sz26 rfl rfl ((ha.ext hX).adr Mx (by omega)) (by omega) (by omega)) ?_
  refine p1 (Ad Aag sz23 rfl) ?_
  refine p1 (Ae un23 rfl (hX.cell (hra 2 _ rfl))) ?_
  refine p1 (Ak u23 rfl) ?_
  refine p1 (V0 rfl rfl) ?_
  refine p1 ((A1 rfl rfl (Aj (by omega) (by omega))).cast (congrArg (Value.int .i64) (by rw[hst2,hrl2];omega:_=((msum (xss.take k)+msum ((acts.map CAct.index).take (j+1)):Nat):Int)))) ?_
  refine pA (Ac (b_n (t_n (Aa ?_))))
  refine pM ?_
  refine p1 (A1 rfl rfl (Aj (by omega) (by omega))) ?_
  refine pA (Ac ?_)
  refine t_n (aK (j+1) ⟨rfl,rfl,trivial⟩ ?_)
  exact⟨⟨hWL2,(by omega)⟩,by((show _<_);omega)⟩
 try simp only[dA,dB,dC,dD,dE,dF,dG,Int.not_lt,Int.not_le] at hc33
 have hkj:(acts.map CAct.index).take j=acts.map CAct.index:=List.take_of_length_le (by rw[List.length_map];omega)
 refine Ba (t_e (t_e (Bq (t_n (Ab (Aa ?_))))))
 refine pM ?_
 refine p1 (Acw rfl rfl) ?_
 refine pA (Ac (t_n (Al ?_)))
 refine eR1 ?_
 exact⟨⟨_,rfl,fun h=>⟨by omega,by omega,by have:=of_decide_eq_true h;rw[hkk,hkj] at this;omega⟩⟩,hX⟩
theorem Yi {l:List By} (h:∀ a b,a<l.length→b<a→shaF (l.getD a [])=shaF (l.getD b [])→l.getD a []=l.getD b []):∀ x∈l,∀ y∈l,shaF x=shaF y→x=y:=fun x hx y hy e=>by
  obtain⟨a,ha,ea⟩:=List.mem_iff_getElem.1 hx
  obtain⟨b,hb,eb⟩:=List.mem_iff_getElem.1 hy
  have ea:l.getD a []=x:=by rw[List.getD_eq_getElem?_getD,List.getElem?_eq_getElem ha,← ea];rfl
  have eb:l.getD b []=y:=by rw[List.getD_eq_getElem?_getD,List.getElem?_eq_getElem hb,← eb];rfl
  rw[← ea,← eb] at e ⊢
  rcases Nat.lt_trichotomy a b with q | q | q
  · exact(h b a hb q e.symm).symm
  · rw[q]
  · exact h a b ha q e
theorem Tp (xss:List By) (B:Nat) (p:Option Addr) (n c:Nat) (w:World) (hl:Sl kLo 23 B w p n c xss) (hg:Gt w) (hBw:B≤w.heap.size) (hle:∀ x∈xss,x.length≤4000) :
    Ret Tryz.prog 10 [.slice p n c] w (fun v w'=>(∃ b:Bool,v = .bool b∧(b=true→∀ x∈xss,∀ y∈xss,shaF x=shaF y→x=y))∧Ext w w'):=by
 have hX:=Ext.refl w
 refine eN 40 Tryz.func10 ?_
 refine Ab (Aa ?_)
 refine pA (Ac (t_n (Ab (Ab ?_))))
 have hln:=hl.len
 have hlc:=hl.cap
 have hlf:=hl.fit
 have hle:∀ x,xss.getD x []∈xss→(xss.getD x []).length≤4000:=fun x hx=>hle _ hx
 have hmm:∀ i,i<n→xss.getD i []∈xss:=fun i hi=>C6 (z:=[]) (i:=i) (by omega) rfl
 refine Aa ?_
 refine pA (Ac (t_n (Am ?_)))
 have hWL0:=Ext.refl w
 refine Bi (ι:=Nat) [2,3,4,5,6,7,8,9,10,11,12,13,14,15,16,17,18,19,20,21,22,23,24,25,26,27,28,29,30,31,32,33,34,35,36,37,38,39] (fun i=>[(3,.int .i64 (i:Int))]) (fun i w'=>Ext w w'∧(i≤n∧∀ a b,a<i→b<a→shaF (xss.getD a [])=shaF (xss.getD b [])→xss.getD a []=xss.getD b [])) (fun i=>n - i) (0) ⟨rfl,trivial⟩ ⟨Ext.refl _,⟨by omega,fun a b h=>by omega⟩⟩ ?_
 rintro i GL0 w1 ⟨hE1,hi,hA⟩
 have hX:=hX.ext hE1
 have hWL0:=hE1
 refine Ab (Ab (Aa ?_))
 refine pM (pM ?_)
 refine p1 (Ak u22 rfl) ?_
 refine p1 (Bv rfl rfl) ?_
 refine Ac (t_n ?_)
 refine As rfl (fun hc8=>?_) (fun hc8=>?_)
 ·refine Ah (t_n (Ab (Am (Ab (Aa ?_)))))
  refine pA (Ac (t_n (Am ?_)))
  have hWL2:=Ext.refl w1
  refine Bi (ι:=Nat) [2,4,11,12,13,14,15,16,17,18,19,20,21,22,23,24,25,26,27,28,29,30,31,32,33,34,35,36,37,38,39] (fun k=>[(4,.int .i64 (k:Int))]) (fun k w'=>Ext w1 w'∧(k≤i∧∀ b,b<k→shaF (xss.getD i [])=shaF (xss.getD b [])→xss.getD i []=xss.getD b [])) (fun k=>i - k) (0) ⟨rfl,trivial⟩ ⟨Ext.refl _,⟨by omega,fun b h=>by omega⟩⟩ ?_
  rintro k GL2 w2 ⟨hE2,hk,hK⟩
  have hX:=hX.ext hE2
  have hWL0:=hWL0.ext hE2
  have hWL2:=hE2
  refine Ab (Ab (Aa ?_))
  refine pM (pM ?_)
  refine p1 (Bv rfl rfl) ?_
  refine Ac (t_n ?_)
  refine As rfl (fun hc13=>?_) (fun hc13=>?_)
  ·refine Ah (t_n (Ab (Am (Ab ?_))))
   obtain⟨q1,m1,c1,hc1,hr1⟩:=hl.loAt i (by omega)
   obtain⟨q2,m2,c2,hc2,hr2⟩:=hl.loAt k (by omega)
   have hl1:=hle i (hmm i (by omega))
   have hl2:=hle k (hmm k (by omega))
   have hn1:=hr1.len
   have hn2:=hr2.len
   refine Bx (fun w1 w2=>Ext w1 w2) mixed ?_
   intro w3 hE3
   have hX:=hX.ext hE3
   have hWL2:=hWL2.ext hE3
   have hSr7:(fun w1 w2=>Ext w1 w2) w3 w3:=Ext.refl w3
   refine hT 0 rfl hSr7 (fun wS hSS=>by(exact(Ai (by conv=>lhs;whnf)))) ?_
   refine hT 1 rfl hSr7 (fun wS hSS=>by(exact(Ai (by conv=>lhs;whnf)))) ?_
   refine hT 2 rfl hSr7 (fun wS hSS=>by(have hX:=hX.ext hSS;exact(Dc (i:=i) u22 sz23 rfl rfl ((hl.ext hX).adr Gi (by omega)) (by omega)))) ?_
   refine hT 3 rfl hSr7 (fun wS hSS=>by(have hX:=hX.ext hSS;exact(Ae un23 rfl (hX.cell hc1)))) ?_
   refine hT 5 rfl hSr7 (fun wS hSS=>by(exact(Ai (by conv=>lhs;whnf)))) ?_
   refine hT 6 rfl hSr7 (fun wS hSS=>by(exact(Ai (by conv=>lhs;whnf)))) ?_
   refine hT 7 rfl hSr7 (fun wS hSS=>by(have hX:=hX.ext hSS;exact(Dc (i:=k) u22 sz23 rfl rfl ((hl.ext hX).adr Gi (by omega)) (by omega)))) ?_
   refine hT 8 rfl hSr7 (fun wS hSS=>by(have hX:=hX.ext hSS;exact(Ae un23 rfl (hX.cell hc2)))) ?_
   refine h1L 4 (fun Q4 hQ4=>?_)
   refine Ag Tryz.func34 fn34 fb34 (Ms (xss.getD i []) _ _ _ _ _ (hr1.ext hX).sl5 (by omega) (Nat.le_trans hBw hX.size) (hg.ext hX).r (hg.ext hX).b (by have:=(hg.ext hX).size;omega)) rfl ?_
   rintro v4 w4 ⟨rfl,hE4⟩
   have hX:=hX.ext hE4
   have hWL2:=hWL2.ext hE4
   have hSr7:=hSr7.ext hE4
   refine An hQ4 ⟨hSr7,?_⟩
   refine h1L 9 (fun Q9 hQ9=>?_)
   refine Ag Tryz.func34 fn34 fb34 (Ms (xss.getD k []) _ _ _ _ _ (hr2.ext hX).sl5 (by omega) (Nat.le_trans hBw hX.size) (hg.ext hX).r (hg.ext hX).b (by have:=(hg.ext hX).size;omega)) rfl ?_
   rintro v5 w5 ⟨rfl,hE5⟩
   have hX:=hX.ext hE5
   have hWL2:=hWL2.ext hE5
   have hSr7:=hSr7.ext hE5
   refine An hQ9 ⟨hSr7,?_⟩
   refine hT 10 rfl hSr7 (fun wS hSS=>by(exact(Fg u64 u5 sz5 eg64 rfl rfl (shaF (xss.getD i [])).2 (shaF (xss.getD k [])).2))) ?_
   refine Acd 11 rfl (by kernel_rfl) (by kernel_rfl) (by kernel_rfl) hSr7 (fun wS hSS=>by( exact(Ai (by conv=>lhs;whnf)))) (fun hb7_11=>?_) (fun hb7_11=>?_)
   ·refine Aw 12 27 rfl rfl rfl (by kernel_rfl) (by kernel_rfl) (by kernel_rfl) hSr7 (fun wS hSS=>by( exact(Ai (by conv=>lhs;whnf)))) ?_
    refine Aw 13 27 rfl rfl rfl (by kernel_rfl) (by kernel_rfl) (by kernel_rfl) hSr7 (fun wS hSS=>by( exact(Ai (by conv=>lhs;whnf)))) ?_
    refine Aw 14 27 rfl rfl rfl (by kernel_rfl) (by kernel_rfl) (by kernel_rfl) hSr7 (fun wS hSS=>by( exact(Dc (i:=i) u22 sz23 rfl rfl ((hl.ext hX).adr Gi (by omega)) (by omega)))) ?_
    refine Aw 17 27 rfl rfl rfl (by kernel_rfl) (by kernel_rfl) (by kernel_rfl) hSr7 (fun wS hSS=>by( exact(Ai (by conv=>lhs;whnf)))) ?_
    refine Aw 18 27 rfl rfl rfl (by kernel_rfl) (by kernel_rfl) (by kernel_rfl) hSr7 (fun wS hSS=>by( exact(Ai (by conv=>lhs;whnf)))) ?_
    refine Aw 19 27 rfl rfl rfl (by kernel_rfl) (by kernel_rfl) (by kernel_rfl) hSr7 (fun wS hSS=>by( exact(Dc (i:=k) u22 sz23 rfl rfl ((hl.ext hX).adr Gi (by omega)) (by omega)))) ?_
    refine Qa 15 20 _ _ rfl rfl (by kernel_rfl) (Cd (fun Q15 hQ15=>?_)) (Cd (fun Q20 hQ20=>?_))
    ·skip
     refine g1 27 rfl rfl (Ae un23 rfl (hX.cell hc1)) ?_
     refine An hQ15 ⟨hSr7,?_⟩
     refine Qa 16 20 _ _ rfl rfl (by kernel_rfl) (Cd (fun Q16 hQ16=>?_)) (Cd (fun Q20 hQ20=>?_))
     ·skip
      refine g1 27 rfl rfl (A6 u23 u5 u9 rfl (hr1.ext hX).sl5) ?_
      refine An hQ16 ⟨hSr7,?_⟩
      refine h1L 20 (fun Q20 hQ20=>?_)
      refine g1 27 rfl rfl (Ae un23 rfl (hX.cell hc2)) ?_
      refine An hQ20 ⟨hSr7,?_⟩
      refine h1L 21 (fun Q21 hQ21=>?_)
      refine g1 27 rfl rfl (A6 u23 u5 u9 rfl (hr2.ext hX).sl5) ?_
      refine An hQ21 ⟨hSr7,?_⟩
      refine Aw 22 27 rfl rfl rfl (by kernel_rfl) (by kernel_rfl) (by kernel_rfl) hSr7 (fun wS hSS=>by( exact(Cz rfl rfl))) ?_
      refine hT 23 rfl hSr7 (fun wS hSS=>by(exact(Ar rfl (by conv=>lhs;whnf)))) ?_
      refine Bo (by kernel_rfl) ?_
      refine t_n ?_
      refine As rfl (fun hc39=>?_) (fun hc39=>?_)
      ·refine Ab (Aa ?_)
       refine pA (Ac (t_n (Al (b_r (t_r (t_r (b_r (b_r (t_r (t_r (b_r (t_r ?_))))))))))))
       refine eR1 ?_
       exact⟨⟨false,rfl,fun h=>by cases h⟩,hX⟩
      have hik:shaF (xss.getD i [])=shaF (xss.getD k [])→xss.getD i []=xss.getD k []:=fun e=>by
        exact D3 (Classical.byContradiction hc39)
      refine Ah (b_n (t_n (Aa ?_)))
      refine pM ?_
      refine p1 (A1 rfl rfl (Aj (by omega) (by omega))) ?_
      refine pA (Ac ?_)
      refine t_n (aK (k+1) ⟨rfl,trivial⟩ ?_)
      exact⟨⟨hWL2,⟨by omega,fun b h=>if h2:b<k then hK b h2 else by rw[show b=k from by omega];exact hik⟩⟩,by((show _<_);omega)⟩
     skip
     refine g1 27 rfl rfl (Ae un23 rfl (hX.cell hc2)) ?_
     refine An hQ20 ⟨hSr7,?_⟩
     refine Qa 16 21 _ _ rfl rfl (by kernel_rfl) (Cd (fun Q16 hQ16=>?_)) (Cd (fun Q21 hQ21=>?_))
     ·skip
      refine g1 27 rfl rfl (A6 u23 u5 u9 rfl (hr1.ext hX).sl5) ?_
      refine An hQ16 ⟨hSr7,?_⟩
      refine h1L 21 (fun Q21 hQ21=>?_)
      refine g1 27 rfl rfl (A6 u23 u5 u9 rfl (hr2.ext hX).sl5) ?_
      refine An hQ21 ⟨hSr7,?_⟩
      refine Aw 22 27 rfl rfl rfl (by kernel_rfl) (by kernel_rfl) (by kernel_rfl) hSr7 (fun wS hSS=>by( exact(Cz rfl rfl))) ?_
      refine hT 23 rfl hSr7 (fun wS hSS=>by(exact(Ar rfl (by conv=>lhs;whnf)))) ?_
      refine Bo (by kernel_rfl) ?_
      refine t_n ?_
      refine As rfl (fun hc39=>?_) (fun hc39=>?_)
      ·refine Ab (Aa ?_)
       refine pA (Ac (t_n (Al (b_r (t_r (t_r (b_r (b_r (t_r (t_r (b_r (t_r ?_))))))))))))
       refine eR1 ?_
       exact⟨⟨false,rfl,fun h=>by cases h⟩,hX⟩
      have hik:shaF (xss.getD i [])=shaF (xss.getD k [])→xss.getD i []=xss.getD k []:=fun e=>by
        exact D3 (Classical.byContradiction hc39)
      refine Ah (b_n (t_n (Aa ?_)))
      refine pM ?_
      refine p1 (A1 rfl rfl (Aj (by omega) (by omega))) ?_
      refine pA (Ac ?_)
      refine t_n (aK (k+1) ⟨rfl,trivial⟩ ?_)
      exact⟨⟨hWL2,⟨by omega,fun b h=>if h2:b<k then hK b h2 else by rw[show b=k from by omega];exact hik⟩⟩,by((show _<_);omega)⟩
     skip
     refine g1 27 rfl rfl (A6 u23 u5 u9 rfl (hr2.ext hX).sl5) ?_
     refine An hQ21 ⟨hSr7,?_⟩
     refine h1L 16 (fun Q16 hQ16=>?_)
     refine g1 27 rfl rfl (A6 u23 u5 u9 rfl (hr1.ext hX).sl5) ?_
     refine An hQ16 ⟨hSr7,?_⟩
     refine Aw 22 27 rfl rfl rfl (by kernel_rfl) (by kernel_rfl) (by kernel_rfl) hSr7 (fun wS hSS=>by( exact(Cz rfl rfl))) ?_
     refine hT 23 rfl hSr7 (fun wS hSS=>by(exact(Ar rfl (by conv=>lhs;whnf)))) ?_
     refine Bo (by kernel_rfl) ?_
     refine t_n ?_
     refine As rfl (fun hc39=>?_) (fun hc39=>?_)
     ·refine Ab (Aa ?_)
      refine pA (Ac (t_n (Al (b_r (t_r (t_r (b_r (b_r (t_r (t_r (b_r (t_r ?_))))))))))))
      refine eR1 ?_
      exact⟨⟨false,rfl,fun h=>by cases h⟩,hX⟩
     have hik:shaF (xss.getD i [])=shaF (xss.getD k [])→xss.getD i []=xss.getD k []:=fun e=>by
       exact D3 (Classical.byContradiction hc39)
     refine Ah (b_n (t_n (Aa ?_)))
     refine pM ?_
     refine p1 (A1 rfl rfl (Aj (by omega) (by omega))) ?_
     refine pA (Ac ?_)
     refine t_n (aK (k+1) ⟨rfl,trivial⟩ ?_)
     exact⟨⟨hWL2,⟨by omega,fun b h=>if h2:b<k then hK b h2 else by rw[show b=k from by omega];exact hik⟩⟩,by((show _<_);omega)⟩
    skip
    refine g1 27 rfl rfl (Ae un23 rfl (hX.cell hc2)) ?_
    refine An hQ20 ⟨hSr7,?_⟩
    refine Qa 15 21 _ _ rfl rfl (by kernel_rfl) (Cd (fun Q15 hQ15=>?_)) (Cd (fun Q21 hQ21=>?_))
    ·skip
     refine g1 27 rfl rfl (Ae un23 rfl (hX.cell hc1)) ?_
     refine An hQ15 ⟨hSr7,?_⟩
     refine Qa 16 21 _ _ rfl rfl (by kernel_rfl) (Cd (fun Q16 hQ16=>?_)) (Cd (fun Q21 hQ21=>?_))
     ·skip
      refine g1 27 rfl rfl (A6 u23 u5 u9 rfl (hr1.ext hX).sl5) ?_
      refine An hQ16 ⟨hSr7,?_⟩
      refine h1L 21 (fun Q21 hQ21=>?_)
      refine g1 27 rfl rfl (A6 u23 u5 u9 rfl (hr2.ext hX).sl5) ?_
      refine An hQ21 ⟨hSr7,?_⟩
      refine Aw 22 27 rfl rfl rfl (by kernel_rfl) (by kernel_rfl) (by kernel_rfl) hSr7 (fun wS hSS=>by( exact(Cz rfl rfl))) ?_
      refine hT 23 rfl hSr7 (fun wS hSS=>by(exact(Ar rfl (by conv=>lhs;whnf)))) ?_
      refine Bo (by kernel_rfl) ?_
      refine t_n ?_
      refine As rfl (fun hc39=>?_) (fun hc39=>?_)
      ·refine Ab (Aa ?_)
       refine pA (Ac (t_n (Al (b_r (t_r (t_r (b_r (b_r (t_r (t_r (b_r (t_r ?_))))))))))))
       refine eR1 ?_
       exact⟨⟨false,rfl,fun h=>by cases h⟩,hX⟩
      have hik:shaF (xss.getD i [])=shaF (xss.getD k [])→xss.getD i []=xss.getD k []:=fun e=>by
        exact D3 (Classical.byContradiction hc39)
      refine Ah (b_n (t_n (Aa ?_)))
      refine pM ?_
      refine p1 (A1 rfl rfl (Aj (by omega) (by omega))) ?_
      refine pA (Ac ?_)
      refine t_n (aK (k+1) ⟨rfl,trivial⟩ ?_)
      exact⟨⟨hWL2,⟨by omega,fun b h=>if h2:b<k then hK b h2 else by rw[show b=k from by omega];exact hik⟩⟩,by((show _<_);omega)⟩
     skip
     refine g1 27 rfl rfl (A6 u23 u5 u9 rfl (hr2.ext hX).sl5) ?_
     refine An hQ21 ⟨hSr7,?_⟩
     refine h1L 16 (fun Q16 hQ16=>?_)
     refine g1 27 rfl rfl (A6 u23 u5 u9 rfl (hr1.ext hX).sl5) ?_
     refine An hQ16 ⟨hSr7,?_⟩
     refine Aw 22 27 rfl rfl rfl (by kernel_rfl) (by kernel_rfl) (by kernel_rfl) hSr7 (fun wS hSS=>by( exact(Cz rfl rfl))) ?_
     refine hT 23 rfl hSr7 (fun wS hSS=>by(exact(Ar rfl (by conv=>lhs;whnf)))) ?_
     refine Bo (by kernel_rfl) ?_
     refine t_n ?_
     refine As rfl (fun hc39=>?_) (fun hc39=>?_)
     ·refine Ab (Aa ?_)
      refine pA (Ac (t_n (Al (b_r (t_r (t_r (b_r (b_r (t_r (t_r (b_r (t_r ?_))))))))))))
      refine eR1 ?_
      exact⟨⟨false,rfl,fun h=>by cases h⟩,hX⟩
     have hik:shaF (xss.getD i [])=shaF (xss.getD k [])→xss.getD i []=xss.getD k []:=fun e=>by
       exact D3 (Classical.byContradiction hc39)
     refine Ah (b_n (t_n (Aa ?_)))
     refine pM ?_
     refine p1 (A1 rfl rfl (Aj (by omega) (by omega))) ?_
     refine pA (Ac ?_)
     refine t_n (aK (k+1) ⟨rfl,trivial⟩ ?_)
     exact⟨⟨hWL2,⟨by omega,fun b h=>if h2:b<k then hK b h2 else by rw[show b=k from by omega];exact hik⟩⟩,by((show _<_);omega)⟩
    skip
    refine g1 27 rfl rfl (A6 u23 u5 u9 rfl (hr2.ext hX).sl5) ?_
    refine An hQ21 ⟨hSr7,?_⟩
    refine h1L 15 (fun Q15 hQ15=>?_)
    refine g1 27 rfl rfl (Ae un23 rfl (hX.cell hc1)) ?_
    refine An hQ15 ⟨hSr7,?_⟩
    refine h1L 16 (fun Q16 hQ16=>?_)
    refine g1 27 rfl rfl (A6 u23 u5 u9 rfl (hr1.ext hX).sl5) ?_
    refine An hQ16 ⟨hSr7,?_⟩
    refine Aw 22 27 rfl rfl rfl (by kernel_rfl) (by kernel_rfl) (by kernel_rfl) hSr7 (fun wS hSS=>by( exact(Cz rfl rfl))) ?_
    refine hT 23 rfl hSr7 (fun wS hSS=>by(exact(Ar rfl (by conv=>lhs;whnf)))) ?_
    refine Bo (by kernel_rfl) ?_
    refine t_n ?_
    refine As rfl (fun hc39=>?_) (fun hc39=>?_)
    ·refine Ab (Aa ?_)
     refine pA (Ac (t_n (Al (b_r (t_r (t_r (b_r (b_r (t_r (t_r (b_r (t_r ?_))))))))))))
     refine eR1 ?_
     exact⟨⟨false,rfl,fun h=>by cases h⟩,hX⟩
    have hik:shaF (xss.getD i [])=shaF (xss.getD k [])→xss.getD i []=xss.getD k []:=fun e=>by
      exact D3 (Classical.byContradiction hc39)
    refine Ah (b_n (t_n (Aa ?_)))
    refine pM ?_
    refine p1 (A1 rfl rfl (Aj (by omega) (by omega))) ?_
    refine pA (Ac ?_)
    refine t_n (aK (k+1) ⟨rfl,trivial⟩ ?_)
    exact⟨⟨hWL2,⟨by omega,fun b h=>if h2:b<k then hK b h2 else by rw[show b=k from by omega];exact hik⟩⟩,by((show _<_);omega)⟩
   refine Gc 12 27 rfl (by exact .inl rfl) rfl (by kernel_rfl) (by kernel_rfl) (by kernel_rfl) hSr7 ?_
   refine Gc 13 27 rfl (by exact .inl rfl) rfl (by kernel_rfl) (by kernel_rfl) (by kernel_rfl) hSr7 ?_
   refine Gc 14 27 rfl (by exact .inl rfl) rfl (by kernel_rfl) (by kernel_rfl) (by kernel_rfl) hSr7 ?_
   refine Gc 15 27 rfl (by exact .inl rfl) rfl (by kernel_rfl) (by kernel_rfl) (by kernel_rfl) hSr7 ?_
   refine Gc 16 27 rfl (by exact .inl rfl) rfl (by kernel_rfl) (by kernel_rfl) (by kernel_rfl) hSr7 ?_
   refine Gc 17 27 rfl (by exact .inl rfl) rfl (by kernel_rfl) (by kernel_rfl) (by kernel_rfl) hSr7 ?_
   refine Gc 18 27 rfl (by exact .inl rfl) rfl (by kernel_rfl) (by kernel_rfl) (by kernel_rfl) hSr7 ?_
   refine Gc 19 27 rfl (by exact .inl rfl) rfl (by kernel_rfl) (by kernel_rfl) (by kernel_rfl) hSr7 ?_
   refine Gc 20 27 rfl (by exact .inl rfl) rfl (by kernel_rfl) (by kernel_rfl) (by kernel_rfl) hSr7 ?_
   refine Gc 21 27 rfl (by exact .inl rfl) rfl (by kernel_rfl) (by kernel_rfl) (by kernel_rfl) hSr7 ?_
   refine Gc 22 27 rfl (by exact .inl rfl) rfl (by kernel_rfl) (by kernel_rfl) (by kernel_rfl) hSr7 ?_
   refine hT 23 rfl hSr7 (fun wS hSS=>by(exact(Ap rfl (by conv=>lhs;whnf)))) ?_
   refine Bo (by kernel_rfl) ?_
   refine t_n ?_
   refine c_f rfl ?_
   have hik:shaF (xss.getD i [])=shaF (xss.getD k [])→xss.getD i []=xss.getD k []:=fun e=>by
     exact absurd (congrArg Subtype.val e) (by simpa using hb7_11)
   refine Ah (b_n (t_n (Aa ?_)))
   refine pM ?_
   refine p1 (A1 rfl rfl (Aj (by omega) (by omega))) ?_
   refine pA (Ac ?_)
   refine t_n (aK (k+1) ⟨rfl,trivial⟩ ?_)
   exact⟨⟨hWL2,⟨by omega,fun b h=>if h2:b<k then hK b h2 else by rw[show b=k from by omega];exact hik⟩⟩,by((show _<_);omega)⟩
  have hki:k=i:=by omega
  refine Ba (t_e (t_e (Bq (b_n (t_n (Aa ?_))))))
  refine pM ?_
  refine p1 (A1 rfl rfl (Aj (by omega) (by omega))) ?_
  refine pA (Ac ?_)
  refine t_n (aK (i+1) ⟨rfl,trivial⟩ ?_)
  exact⟨⟨hWL0,⟨by omega,fun a b h1 h2=>if h:a<i then hA a b h h2 else by rw[show a=i from by omega];exact hK b (by omega)⟩⟩,by((show _<_);omega)⟩
 refine Ba (t_e (t_e (Bq (t_n (Ab (Aa ?_))))))
 refine pA (Ac (t_n (Al ?_)))
 refine eR1 ?_
 exact⟨⟨true,rfl,fun _=>Yi fun a b h1 h2=>hA a b (by omega) h2⟩,hX⟩
end Go.Proofs.Eng
end
section
namespace Go.Proofs.Eng
open Go.RowKit
structure Vw (D:DS) (M i:Nat) (V:ByteArray→Option Fb):Prop where
  good:Good D i
  most:D.most=M
  v:∀ k,ascF D.l k=V k
def Up0 (D:DS):Prop:=D.down=false∧D.left=-1
def Oc (D:DS) (r:DS×Int) (M i:Nat) (V V':ByteArray→Option Fb):Prop :=
  (r.2=0∧Vw r.1 M i V'∧r.1.down=false∧(Up0 D→Up0 r.1))∨(r.2=20∧¬ Up0 D∧r.1.down=true∧(Vw r.1 M i V∨Vw r.1 M i V'))
theorem Vw.mono {D:DS} {M i j:Nat} {V:ByteArray→Option Fb} (h:Vw D M i V) (hj:i≤j):Vw D M j V:=⟨h.good.mono hj,h.most,h.v⟩
theorem Jc {D:DS} {ns:List ByteArray} (hn:ns.all Ay=true) (hd:D.down=true):lookD D ns=20:=by unfold lookD;rw[hn,hd];rfl
section
variable {D : DS} {M i : Nat} {V V' : ByteArray → Option Fb} {k : ByteArray}
theorem I6 {r:DS×Int} (h:Vw D M i V) (hd:D.down=true) (hr:r=(D,20)):Oc D r M (i+1) V V':=by
  subst hr;exact .inr ⟨rfl,(fun hu=>by rw[hu.1] at hd;cases hd),hd,.inl (h.mono (by omega))⟩
theorem I5 (h:Vw D M i V) (hd:D.down=false) {act:List Fl} {fa al:Bool} (hg:Good (stepD D act fa al).1 (i+1)) (ha:∀ z,ascA act z=V' z):Oc D (stepD D act fa al) M (i+1) V V':=by
  by_cases hl:D.left≠0
  · rw [J7 hl] at hg ⊢
    exact .inl ⟨rfl,⟨hg,h.most,ha⟩,hd,fun hu=>⟨hd,by show max (-1) (D.left - 1)=-1;rw[hu.2];rfl⟩⟩
  · have hz : ¬ Up0 D := fun hu => hl (by rw [hu.2]; decide)
    cases hb:(fa && (al || D.done)) with
    | true=>rw[Iw hl hb] at hg ⊢;exact .inr ⟨rfl,hz,rfl,.inr ⟨hg,h.most,ha⟩⟩
    | false=>rw[J6 hl hb] at hg ⊢;exact .inr ⟨rfl,hz,rfl,.inl ⟨hg,h.most,h.v⟩⟩
theorem Vw.ins (h:Vw D M i V) (k:ByteArray) (o:Option Fb):∀ z,ascA (insA D.l k o) z=mset V k o z:=fun z=>by
  rw[← D2 h.good.ok.rise];unfold mset;split
  · rfl
  · exact h.v z
theorem Vw.getF (h:Vw D M i V) {f:Fb} (hk:V k=some f):Eng.getF D k=f:=by unfold Eng.getF;rw[h.v,hk];rfl
theorem K4 (h:Vw D M i V) (hn:Ay k=true) (hk:V k=none) (hl:D.l.length<64):Oc D (Bh D k) M (i+1) V (mset V k (some ([],0))):=by
  cases hd:D.down with
  | true=>exact I6 h hd (by unfold Bh;rw[Jc (by simp[hn]) hd,if_pos (by decide)])
  | false =>
    have hg:=Gn h.good k
    unfold Bh at hg ⊢
    rw[Dr (by simp[hn]) hd,if_neg (by simp),if_neg (by rw[h.v,hk];simp),if_neg (by omega)] at hg ⊢
    exact I5 h hd hg (h.ins _ _)
theorem Xc (h:Vw D M i V) (hn:Ay k=true) {f:Fb} (hk:V k=some f) (p:By) :
    Oc D (A3 D k p) M (i+1) V (mset V k (some (f.1++p,f.2)))∨(A3 D k p=(D,21)∧D.down=false∧M<usedL D.l+p.length):=by
  cases hd:D.down with
  | true=>exact .inl (I6 h hd (by unfold A3;rw[Jc (by simp[hn]) hd,if_pos (by decide)]))
  | false =>
    have hg:=Gq h.good k p
    unfold A3 at hg ⊢
    rw[Dr (by simp[hn]) hd,if_neg (by simp),if_neg (by rw[h.v,hk];simp),h.getF hk,h.most] at hg ⊢
    by_cases hr:(M:Int) - usedL D.l<p.length
    · rw[if_pos hr];exact .inr ⟨rfl,rfl,by omega⟩
    · rw[if_neg hr] at hg ⊢;exact .inl (I5 h hd hg (h.ins _ _))
theorem Qn (h:Vw D M i V) (hn:Ay k=true) {f:Fb} (hk:V k=some f):Oc D (syncD D k) M (i+1) V (mset V k (some (f.1,f.1.length))):=by
  cases hd:D.down with
  | true=>exact I6 h hd (by unfold syncD;rw[Jc (by simp[hn]) hd,if_pos (by decide)])
  | false =>
    have hg:=Lm h.good k
    unfold syncD at hg ⊢
    rw[Dr (by simp[hn]) hd,if_neg (by simp),if_neg (by rw[h.v,hk];simp),h.getF hk] at hg ⊢
    exact I5 h hd hg (h.ins _ _)
theorem G0 (h:Vw D M i V) (hn:Ay k=true) {f:Fb} (hk:V k=some f):Oc D (Bf D k) M (i+1) V (mset V k none):=by
  cases hd:D.down with
  | true=>exact I6 h hd (by unfold Bf;rw[Jc (by simp[hn]) hd,if_pos (by decide)])
  | false =>
    have hg:=Ch h.good k
    unfold Bf at hg ⊢
    rw[Dr (by simp[hn]) hd,if_neg (by simp),if_neg (by rw[h.v,hk];simp)] at hg ⊢
    exact I5 h hd hg (h.ins _ _)
theorem Ac6 (h:Vw D M i V) {old now:ByteArray} (hn:Ay old=true) (hn2:Ay now=true) (hne:old≠now) {f:Fb} (hk:V old=some f):Oc D (Cf D old now) M (i+1) V (mset (mset V now (some f)) old none):=by
  cases hd:D.down with
  | true=>exact I6 h hd (by unfold Cf;rw[Jc (by simp[hn,hn2]) hd,if_pos (by decide)])
  | false =>
    have hg:=H8 h.good old now
    unfold Cf at hg ⊢
    rw[Dr (by simp[hn,hn2]) hd,if_neg (by simp),if_neg (by rw[h.v,hk];simp),h.getF hk] at hg ⊢
    refine I5 h hd hg fun z=>?_
    unfold renL
    rw[if_neg hne,← D2 (Do h.good.ok.rise _ _)]
    unfold mset
    split
    · rfl
    · have:=h.ins now (some f) z;unfold mset at this;exact this
theorem Yu (h:Vw D M i V) (hn:Ay k=true) {f:Fb} (hk:V k=some f) {n:Nat} (hl:n≤f.1.length):Oc D (cutD D k n) M (i+1) V (mset V k (some (f.1.take n,n))):=by
  cases hd:D.down with
  | true=>exact I6 h hd (by unfold cutD;rw[Jc (by simp[hn]) hd,if_pos (by decide)])
  | false =>
    have hg:=H9 h.good k n
    unfold cutD at hg ⊢
    rw[Dr (by simp[hn]) hd,if_neg (by simp),if_neg (by rw[h.v,hk];simp),h.getF hk,if_neg (by omega)] at hg ⊢
    exact I5 h hd hg (h.ins _ _)
theorem Qo (h:Vw D M i V) (hd:D.down=false) (hn:Ay k=true) {f:Fb} (hk:V k=some f):readD D k=(f.1,0):=by
  unfold readD
  rw[Dr (by simp[hn]) hd,if_neg (by simp),if_neg (by rw[h.v,hk];simp),h.getF hk]
theorem Yt (h:Vw D M i V) (hd:D.down=false) (hn:Ay k=true) (hk:V k=none):readD D k=([],22):=by
  unfold readD
  rw[Dr (by simp[hn]) hd,if_neg (by simp),if_pos (by rw[h.v,hk])]
end
def flen (V:ByteArray→Option Fb) (k:ByteArray):Nat:=((V k).map fun f=>f.1.length).getD 0
theorem Sx {V:ByteArray→Option Fb}:∀ (l:List Fl) (ks:List ByteArray),(l.map (·.1)).Nodup→(∀ x∈l,x.1∈ks∧V x.1=some x.2)→usedL l≤(ks.map (flen V)).sum∧l.length≤ks.length
  | [],ks,_,_=>⟨Nat.zero_le _,Nat.zero_le _⟩
  | x :: l, ks, hn, h => by
    obtain⟨h1,h2⟩:=h x (by simp)
    rw[List.map_cons,List.nodup_cons] at hn
    obtain⟨a,b,hab⟩:=List.append_of_mem h1
    subst hab
    have ih:=Sx l (a++b) hn.2 fun y hy=>by
      obtain⟨c,d⟩:=h y (by simp[hy])
      refine⟨?_,d⟩
      have hne:y.1≠x.1:=fun e=>hn.1 (by rw[← e];exact List.mem_map.2 ⟨y,hy,rfl⟩)
      simp only[List.mem_append,List.mem_cons] at c ⊢
      rcases c with c | c | c
      · exact .inl c
      · exact absurd c hne
      · exact .inr c
    have e3:flen V x.1=x.2.1.length:=by unfold flen;rw[h2];rfl
    rw[F5,List.length_cons]
    simp only[List.map_append,List.sum_append,List.length_append,List.map_cons,List.sum_cons,List.length_cons] at ih ⊢
    omega
theorem Vw.used {D:DS} {M i:Nat} {V:ByteArray→Option Fb} (h:Vw D M i V) {ks:List ByteArray} (hk:∀ k,V k≠none→k∈ks):usedL D.l≤(ks.map (flen V)).sum∧D.l.length≤ks.length :=
  Sx D.l ks h.good.ok.rise.nodup fun x hx=>by
    have hv:V x.1=some x.2:=(h.v x.1).symm.trans (Ul h.good.ok.rise hx)
    exact⟨hk _ (by rw[hv];simp),hv⟩
theorem Vw.flen {D:DS} {M i:Nat} {V:ByteArray→Option Fb} (h:Vw D M i V) {k:ByteArray} {f:Fb} (hk:V k=some f):f.1.length≤M∧f.2≤f.1.length:=by
  have hm:=Um ((h.v k).trans hk)
  have h1:=h.good.ok.room
  rw[h.most] at h1
  refine⟨Nat.le_trans ?_ h1,h.good.ok.safe _ hm⟩
  obtain⟨a,b,e⟩:=List.append_of_mem hm
  rw[e,Hb,F5]
  show f.1.length≤_+(f.1.length+_);omega
end Go.Proofs.Eng
end
section
namespace Go.Proofs.Eng
open Go.RowKit
def Sq (D:DS) (r:DS×Int) (M i:Nat) (Ok Mid Ful:(ByteArray→Option Fb)→Prop):Prop :=
  (r.2=0∧r.1.down=false∧(Up0 D→Up0 r.1)∧∃ V,Vw r.1 M i V∧Ok V) ∨
  (r.2=20∧¬ Up0 D∧r.1.down=true∧∃ V,Vw r.1 M i V∧Mid V) ∨
  (r.2=21∧r.1.down=false∧(Up0 D→Up0 r.1)∧∃ V,Vw r.1 M i V∧Ful V)
section
variable {D : DS} {r : DS × Int} {M i j : Nat} {V V' : ByteArray → Option Fb} {Ok Ok2 Mid Mid2 Ful Ful2 : (ByteArray → Option Fb) → Prop} {k : ByteArray}
theorem Sq.of (h:Oc D r M i V V') (h0:Ok V') (h1:Mid V) (h2:Mid V'):Sq D r M i Ok Mid Ful:=by
  rcases h with ⟨a,b,c,d⟩ | ⟨a,b,c,d⟩
  · exact .inl ⟨a,c,d,V',b,h0⟩
  · exact .inr (.inl ⟨a,b,c,d.elim (fun d=>⟨V,d,h1⟩) fun d=>⟨V',d,h2⟩⟩)
theorem Sq.and {f:DS→DS×Int} (h:Sq D r M i Ok Mid Ful) (hf:∀ D' V,D'.down=false→Vw D' M i V→Ok V→Sq D' (f D') M j Ok2 Mid Ful) (hij:i≤j):Sq D (andD r f) M j Ok2 Mid Ful:=by
  rcases h with ⟨a,b,c,V,d,e⟩ | ⟨a,b,c,V,d,e⟩ | ⟨a,b,c,V,d,e⟩
  · rw [Ee a]
    rcases hf _ V b d e with ⟨a',b',c',x⟩ | ⟨a',b',c',x⟩ | ⟨a',b',c',x⟩
    · exact .inl ⟨a',b',fun u=>c' (c u),x⟩
    · exact .inr (.inl ⟨a',fun u=>b' (c u),c',x⟩)
    · exact .inr (.inr ⟨a',b',fun u=>c' (c u),x⟩)
  · rw[Jj (by rw[a];decide)];exact .inr (.inl ⟨a,b,c,V,d.mono hij,e⟩)
  · rw[Jj (by rw[a];decide)];exact .inr (.inr ⟨a,b,c,V,d.mono hij,e⟩)
theorem Sq.imp (h:Sq D r M i Ok Mid Ful) (h1:∀ V,Ok V→Ok2 V) (h2:∀ V,Mid V→Mid2 V) (h3:∀ V,Ful V→Ful2 V) (hij:i≤j):Sq D r M j Ok2 Mid2 Ful2:=by
  rcases h with ⟨a,b,c,V,d,e⟩ | ⟨a,b,c,V,d,e⟩ | ⟨a,b,c,V,d,e⟩
  · exact .inl ⟨a,b,c,V,d.mono hij,h1 V e⟩
  · exact .inr (.inl ⟨a,b,c,V,d.mono hij,h2 V e⟩)
  · exact .inr (.inr ⟨a,b,c,V,d.mono hij,h3 V e⟩)
theorem Sq.done (hd:D.down=false) (hV:Vw D M i V) (h:Ok V):Sq D (D,0) M i Ok Mid Ful := .inl ⟨rfl,hd,id,V,hV,h⟩
theorem K7 (h:Vw D M i V) (hn:Ay k=true) {f:Fb} (hk:V k=some f) {p:By} (h0:Ok (mset V k (some (f.1++p,f.2)))) (h1:Mid V) (h2:Mid (mset V k (some (f.1++p,f.2)))) (hf:M<usedL D.l+p.length→Ful V):Sq D (A3 D k p) M (i+1) Ok Mid Ful:=by
  rcases Xc h hn hk p with a | ⟨a,b,c⟩
  · exact .of a h0 h1 h2
  · rw[a];exact .inr (.inr ⟨rfl,b,id,V,h.mono (by omega),hf c⟩)
end
def shp (s:Nat) (A B N X:Option Fb):ByteArray→Option Fb:=fun k=>if k=nMan then A else if k=nSeg s then B else if k=nNew then N else if k=nSeg (s+1) then X else none
def ol (o:Option Fb):Nat:=(o.map fun f=>f.1.length).getD 0
section
variable {s : Nat} {A B N X o : Option Fb} (h1 : 1 ≤ s) (h2 : s + 1 ≤ 999999)
theorem I1:shp s A B N X nMan=A:=if_pos rfl
include h1 h2
theorem E9:shp s A B N X (nSeg s)=B:=by unfold shp;rw[if_neg (C8 h1 (by omega)),if_pos rfl]
theorem Fo:shp s A B N X nNew=N:=by unfold shp;rw[if_neg (fun e=>Dh e.symm),if_neg (fun e=>Dw h1 (by omega) e.symm),if_pos rfl]
theorem Nr:nSeg (s+1)≠nSeg s:=fun e=>by have:=Zp (by omega) h2 h1 (by omega) e;omega
theorem E2:shp s A B N X (nSeg (s+1))=X:=by unfold shp;rw[if_neg (C8 (by omega) h2),if_neg (Nr h1 h2),if_neg (Dw (by omega) h2),if_pos rfl]
theorem Abn:mset (shp s A B N X) nMan o=shp s o B N X:=by
  funext k;unfold mset shp
  by_cases e:k=nMan
  · rw[if_pos e,if_pos e]
  · rw[if_neg e,if_neg e,if_neg e]
theorem He:mset (shp s A B N X) (nSeg s) o=shp s A o N X:=by
  funext k;unfold mset
  by_cases e:k=nSeg s
  · rw[if_pos e,e,E9 h1 h2]
  · rw[if_neg e];unfold shp;simp only[e,if_false]
theorem Fp:mset (shp s A B N X) nNew o=shp s A B o X:=by
  funext k;unfold mset
  by_cases e:k=nNew
  · rw[if_pos e,e,Fo h1 h2]
  · rw[if_neg e];unfold shp;simp only[e,if_false]
theorem Hy:mset (shp s A B N X) (nSeg (s+1)) o=shp s A B N o:=by
  funext k;unfold mset
  by_cases e:k=nSeg (s+1)
  · rw[if_pos e,e,E2 h1 h2]
  · rw[if_neg e];unfold shp;simp only[e,if_false]
theorem Adf:shp s A none none X=shp (s+1) A X none none:=by
  funext k
  unfold shp
  by_cases e:k=nMan
  · rw[if_pos e,if_pos e]
  · rw [if_neg e, if_neg e]
    by_cases e2:k=nSeg (s+1)
    · rw[if_pos e2,if_neg (by rw[e2];exact Nr h1 h2),if_neg (by rw[e2];exact Dw (by omega) h2),if_pos e2]
    · rw[if_neg e2,if_neg e2];simp
theorem Hx {D:DS} {M i:Nat} (h:Vw D M i (shp s A B N X)):usedL D.l≤ol A+ol B+ol N+ol X∧D.l.length<64:=by
  obtain⟨a,b⟩:=h.used (ks:=[nMan,nSeg s,nNew,nSeg (s+1)]) fun k hk=>by
    unfold shp at hk
    simp only[List.mem_cons,List.not_mem_nil,or_false]
    by_cases e1:k=nMan
    · exact .inl e1
    · by_cases e2 : k = nSeg s
      · exact .inr (.inl e2)
      · by_cases e3 : k = nNew
        · exact .inr (.inr (.inl e3))
        · by_cases e4 : k = nSeg (s + 1)
          · exact .inr (.inr (.inr e4))
          · simp[e1,e2,e3,e4] at hk
  simp only[List.map_cons,List.map_nil,List.sum_cons,List.sum_nil,flen,I1,E9 h1 h2,Fo h1 h2,E2 h1 h2] at a
  simp only[List.length_cons,List.length_nil] at b
  exact⟨by unfold ol;omega,by omega⟩
theorem Nk {D:DS} {M i:Nat} {m:Mf} {Ok Mid Ful:(ByteArray→Option Fb)→Prop} (h:Vw D M i (shp s A B none X)) (hok:m.Ok) (hO:Ok (shp s (some (manB m,(manB m).length)) B none X)) (hm:∀ N,Mid (shp s A B N X)) (hm2:Mid (shp s (some (manB m,(manB m).length)) B none X))
    (hf:M<ol A+ol B+ol X+(manB m).length→Ful (shp s A B (some ([],0)) X)):Sq D (writeM D m) M (i+4) Ok Mid Ful:=by
  unfold writeM
  rw[if_pos (M0.2 hok)]
  unfold writeD
  have hr:=(Hx h1 h2 h).2
  refine Sq.and (Ok:=fun V=>V=shp s A B (some ([],0)) X) (i:=i+1) (.of (K4 h D6 (Fo h1 h2) hr) (Fp h1 h2) (hm _) (by rw[Fp h1 h2];exact hm _)) (fun D V _ hV e=>?_) (by omega)
  subst e
  have hr:=(Hx h1 h2 hV).1
  refine Sq.and (Ok:=fun V=>V=shp s A B (some (manB m,0)) X) (i:=i+2) (K7 hV D6 (Fo h1 h2) (Fp h1 h2) (hm _) (by rw[Fp h1 h2];exact hm _) (fun q=>hf (by unfold ol at hr ⊢;simp only[Option.map_some,Option.getD_some,List.length_nil] at hr;omega))) (fun D V _ hV e=>?_) (by omega)
  subst e
  refine Sq.and (Ok:=fun V=>V=shp s A B (some (manB m,(manB m).length)) X) (i:=i+3) (.of (Qn hV D6 (Fo h1 h2)) (Fp h1 h2) (hm _) (by rw[Fp h1 h2];exact hm _)) (fun D V _ hV e=>?_) (by omega)
  subst e
  have e:mset (mset (shp s A B (some (manB m,(manB m).length)) X) nMan (some (manB m,(manB m).length))) nNew none=shp s (some (manB m,(manB m).length)) B none X:=by rw[Abn h1 h2,Fp h1 h2]
  exact .of (Ac6 hV D6 Fz (fun e=>Dh e.symm) (Fo h1 h2)) (by rw[e];exact hO) (hm _) (by rw[e];exact hm2)
theorem We {D:DS} {M i z s2:Nat} {b t:By} {Mid:(ByteArray→Option Fb)→Prop} (h:Vw D M i (shp s A (some (b++t,s2)) N X)) (hd:D.down=false) (hb:b.length=z) (ht:t=[]→s2=z) (hz:z≤s2) (st:Bool)
    (hm:∀ t s2 N X',z≤s2→Mid (shp s A (some (b++t,s2)) N X')):Sq D (undoD D s z st) M (i+3) (fun V=>V=shp s A (some (b,z)) none (if st=true then none else X)) Mid (fun _=>False):=by
  have hns:=Cv h1 (by omega:s≤999999)
  rw[J5]
  refine Sq.and (Ok:=fun V=>V=shp s A (some (b,z)) N X) (i:=i+1) ?_ (fun D V hd hV e=>?_) (by omega)
  · unfold undo1
    rw[Qo h hd hns (E9 h1 h2)]
    by_cases ht0:t=[]
    · subst ht0
      rw[if_neg (by simp;omega)]
      have:=ht rfl
      subst this
      exact Sq.done hd (h.mono (by omega)) (by simp)
    · have : 0 < t.length := by cases t with | nil => exact absurd rfl ht0 | cons _ _ => simp
      rw[if_pos (by simp;omega)]
      have e:(b++t).take z=b:=by rw[← hb];simp
      have hc:=Yu h hns (E9 h1 h2) (n:=z) (by simp;omega)
      rw[He h1 h2,e] at hc
      exact .of hc rfl (hm _ _ _ _ hz) (by have:=hm [] z N X (Nat.le_refl _);rwa [List.append_nil] at this)
  · subst e
    have hmm:∀ N X',Mid (shp s A (some (b,z)) N X'):=fun N X'=>by have:=hm [] z N X' (Nat.le_refl _);rwa [List.append_nil] at this
    refine Sq.and (Ok:=fun V=>V=shp s A (some (b,z)) none X) (i:=i+2) ?_ (fun D V hd hV e=>?_) (by omega)
    · unfold undo2
      cases hN:N with
      | none =>
        subst hN
        rw[if_neg (fun q=>q ((hV.v _).trans (Fo h1 h2)))]
        exact Sq.done hd (hV.mono (by omega)) rfl
      | some f =>
        subst hN
        rw[if_pos (by show ascF D.l nNew≠none;rw[hV.v,Fo h1 h2];simp)]
        exact .of (G0 hV D6 (Fo h1 h2)) (Fp h1 h2) (hmm _ _) (by rw[Fp h1 h2];exact hmm _ _)
    · subst e
      cases st with
      | false=>rw[Wa];exact Sq.done hd (hV.mono (by omega)) (by simp)
      | true =>
        cases hX:X with
        | none =>
          subst hX
          rw[Ss (fun q=>q ((hV.v _).trans (E2 h1 h2)))]
          exact Sq.done hd (hV.mono (by omega)) (by simp)
        | some f =>
          subst hX
          rw[Ps (by show ascF D.l (nSeg (s+1))≠none;rw[hV.v,E2 h1 h2];simp)]
          exact .of (G0 hV (Cv (by omega) h2) (E2 h1 h2)) (by rw[Hy h1 h2];simp) (hmm _ _) (by rw[Hy h1 h2];exact hmm _ _)
end
end Go.Proofs.Eng
end
section
namespace Go.Proofs.Eng
open Go.RowKit
theorem Jv {L cs:List By} {c:By} (h:findF L (shaF c)=none):Av L (c :: cs)=c :: Av (L++[c]) cs:=by rw[Av];exact if_pos h
theorem Jw {L cs:List By} {c:By} (h:¬ findF L (shaF c)=none):Av L (c :: cs)=Av L cs:=by rw[Av];exact if_neg h
end Go.Proofs.Eng
end
section
namespace Go.Proofs.Eng
open Go.RowKit
structure Rec (V:ByteArray→Option Fb) (m:Mf) (F:List By):Prop where
  man:V nMan=some (manB m,(manB m).length)
  seg:∃ t s2,V (nSeg m.seg)=some (segB F++t,s2)∧m.size≤s2
  ok:m.Ok
  sz:(segB F).length=m.size
  cl:∀ c∈F,c.length≤1048576
  nm:∀ k,V k≠none→k=nMan∨k=nNew∨SegN k
def nxL (L:List By):Option (List Hash×Nat)→Nat
  | none=>0
  | some gz=>(segB (Az L gz.1)).length
def Nx (L:List By) (X:Option Fb):Option (List Hash×Nat)→Prop
  | none=>X=none
  | some gz=>(∃ s2,X=some (segB (Az L gz.1),s2))∧gz.2=(segB (Az L gz.1)).length∧(∀ h∈gz.1,findF L h≠none)∧gz.1.Nodup
structure Bst (C:CS) (M i:Nat) (F:List By):Prop where
  vw:∃ X,Vw C.D M i (shp C.seg (some (manB ⟨C.seg,C.size,C.index⟩,(manB ⟨C.seg,C.size,C.index⟩).length)) (some (segB F,C.size)) none X)∧Nx C.L X C.next
  up:C.D.down=false
  ok:(Mf.mk C.seg C.size C.index).Ok
  hi:C.seg+1≤999999
  sz:(segB F).length=C.size
  cl:∀ c∈F,c.length≤1048576
  eq:∀ h,findF C.L h=findF F h
  nF:(F.map shaF).Nodup
  nL:(C.L.map shaF).Nodup
  cL:∀ c∈C.L,c.length≤1048576
  dead:C.dead=false
def Ded (C:CS) (M i:Nat) (P:Mf→List By→Prop):Prop:=C.dead=true∧C.D.down=true∧∃ V m G,Vw C.D M i V∧Rec V m G∧P m G
theorem Nx.ol {L:List By} {X:Option Fb} {o:Option (List Hash×Nat)} (h:Nx L X o):Eng.ol X=nxL L o:=by
  cases o with
  | none=>have h:X=none:=h;subst h;rfl
  | some gz=>obtain⟨⟨s2,e⟩,_⟩:=h;subst e;rfl
theorem Qw {s:Nat} {A B N X:Option Fb} (h1:1≤s) (h2:s+1≤999999):∀ k,shp s A B N X k≠none→k=nMan∨k=nNew∨SegN k:=fun k hk=>by
  unfold shp at hk
  by_cases e1:k=nMan
  · exact .inl e1
  · by_cases e2 : k = nSeg s
    · exact .inr (.inr ⟨s,h1,by omega,e2⟩)
    · by_cases e3 : k = nNew
      · exact .inr (.inl e3)
      · by_cases e4 : k = nSeg (s + 1)
        · exact .inr (.inr ⟨s+1,by omega,h2,e4⟩)
        · simp[e1,e2,e3,e4] at hk
theorem Mu {m:Mf} {F:List By} {t:By} {s2:Nat} {N X:Option Fb} (hok:m.Ok) (h2:m.seg+1≤999999) (hsz:(segB F).length=m.size) (hcl:∀ c∈F,c.length≤1048576) (hs:m.size≤s2):Rec (shp m.seg (some (manB m,(manB m).length)) (some (segB F++t,s2)) N X) m F :=
  ⟨I1,⟨t,s2,E9 hok.lo h2,hs⟩,hok,hsz,hcl,Qw hok.lo h2⟩
theorem Ke (a b:List By):segB (a++b)=segB a++segB b:=by unfold segB;rw[List.flatMap_append]
theorem Kw {L l:List By} {h:Hash} (hn:findF L h≠none):findF (L++l) h=findF L h:=by
  rw[Bm];cases e:findF L h with
  | none=>exact absurd e hn
  | some c=>rfl
theorem Mh {L l:List By} {got:List Hash} (hg:∀ h∈got,findF L h≠none):Az (L++l) got=Az L got:=by
  unfold Az
  exact List.map_congr_left fun h hh=>by rw[Kw (hg h hh)]
theorem Nx.app {L l:List By} {X:Option Fb} {o:Option (List Hash×Nat)} (h:Nx L X o):Nx (L++l) X o:=by
  cases o with
  | none=>exact h
  | some gz =>
    obtain⟨⟨s2,e⟩,h2,h3,h4⟩:=h
    exact⟨⟨s2,by rw[Mh h3];exact e⟩,by rw[Mh h3];exact h2,fun h hh=>by rw[Kw (h3 h hh)];exact h3 h hh,h4⟩
theorem Mb (cs:List By):∀ L:List By,(L.map shaF).Nodup→((L++Av L cs).map shaF).Nodup:=by
  induction cs with
  | nil=>intro L h;simpa [Av] using h
  | cons c cs ih =>
    intro L h
    by_cases hc:findF L (shaF c)=none
    · rw [Jv hc, show L ++ c :: Av (L ++ [c]) cs = L ++ [c] ++ Av (L ++ [c]) cs by simp]
      refine ih _ ?_
      rw[List.map_append,List.nodup_append]
      refine⟨h,by simp,?_⟩
      intro x hx y hy e
      obtain⟨d,hd,rfl⟩:=List.mem_map.1 hx
      simp only[List.map_cons,List.map_nil,List.mem_singleton] at hy
      exact Ig.1 hc d hd (e.trans hy)
    · rw[Jw hc];exact ih L h
theorem Ya (cs:List By):∀ L F:List By,(∀ h,findF L h=findF F h)→Av L cs=Av F cs:=by
  induction cs with
  | nil=>intro L F _;rfl
  | cons c cs ih =>
    intro L F h
    have e:∀ z,findF (L++[c]) z=findF (F++[c]) z:=fun z=>by rw[Bm,Bm,h z]
    by_cases hc:findF L (shaF c)=none
    · rw[Jv hc,Jv (by rw[← h];exact hc),ih _ _ e]
    · rw[Jw hc,Jw (by rw[← h];exact hc),ih _ _ h]
section
variable {C : CS} {M i : Nat} {F : List By}
theorem Bst.rest (h:Bst C M i F) {j:Nat} (hj:i≤j):Bst C M j F:=by
  obtain⟨X,hV,hN⟩:=h.vw
  exact⟨⟨X,hV.mono hj,hN⟩,h.up,h.ok,h.hi,h.sz,h.cl,h.eq,h.nF,h.nL,h.cL,h.dead⟩
theorem Bst.rec_ (h:Bst C M i F):∃ V,Vw C.D M i V∧Rec V ⟨C.seg,C.size,C.index⟩ F:=by
  obtain⟨X,hV,_⟩:=h.vw
  have:=Mu (t:=[]) (s2:=C.size) (N:=none) (X:=X) h.ok h.hi h.sz h.cl (Nat.le_refl _)
  rw[List.append_nil] at this
  exact⟨_,hV,this⟩
theorem Acq (h:Bst C M i F) {cs:List By} {ix:By} (hc:∀ c∈cs,c.length≤1048576) (hi:ix.length≤524288) (hM:M≤16777216) :
    ((putC C cs ix).2=0∧Bst (putC C cs ix).1 M (i+9) (F++Av C.L cs)∧(putC C cs ix).1.L=C.L++Av C.L cs∧(putC C cs ix).1.index=ix∧(putC C cs ix).1.seg=C.seg∧(Up0 C.D→Up0 (putC C cs ix).1.D)) ∨
    ((putC C cs ix).2 = 21 ∧ Bst (putC C cs ix).1 M (i + 9) F ∧ (putC C cs ix).1 = { C with D := (putC C cs ix).1.D } ∧ (Up0 C.D → Up0 (putC C cs ix).1.D) ∧
      M<(manB ⟨C.seg,C.size,C.index⟩).length+C.size+(segB (Av C.L cs)).length+(manB ⟨C.seg,C.size+(segB (Av C.L cs)).length,ix⟩).length+nxL C.L C.next) ∨
    ((putC C cs ix).2=20∧¬ Up0 C.D∧Ded (putC C cs ix).1 M (i+9) (fun m G=>m.seg=C.seg∧((G=F∧m.index=C.index)∨(G=F++Av C.L cs∧m.index=ix)))):=by
  obtain⟨X,hV,hN⟩:=h.vw
  have hlo:=h.ok.lo
  have hhi:=h.hi
  have hns:=Cv hlo (by omega:C.seg≤999999)
  have hmain:=K9 (C:=C) (cs:=cs) (ix:=ix) (by rw[h.dead];simp) (by rintro (e | ⟨c,hc1,hc2⟩);(· omega);(· have:=hc c hc1;omega))
  have hlc:∀ c∈Av C.L cs,c.length≤1048576:=fun c hcl=>hc c (Dz cs C.L c hcl).2
  have hfn:=Mb cs C.L h.nL
  have hfF:=Mb cs F h.nF
  rw[← Ya cs C.L F h.eq] at hfF
  have heq:∀ z,findF (C.L++Av C.L cs) z=findF (F++Av C.L cs) z:=fun z=>by rw[Bm,Bm,h.eq]
  obtain⟨l,hl⟩:∃ l,l=Av C.L cs:=⟨_,rfl⟩
  rw[← hl] at hmain hlc hfn hfF heq ⊢
  obtain⟨m0,hm0⟩:∃ m:Mf,m=⟨C.seg,C.size,C.index⟩:=⟨_,rfl⟩
  obtain⟨m1,hm1⟩:∃ m:Mf,m=⟨C.seg,C.size+(segB l).length,ix⟩:=⟨_,rfl⟩
  have hok0:m0.Ok:=by rw[hm0];exact h.ok
  rw[← hm0,← hm1]
  rw[← hm0] at hV
  have hs0:m0.seg=C.seg:=by rw[hm0]
  have hz0:m0.size=C.size:=by rw[hm0]
  have hi0:m0.index=C.index:=by rw[hm0]
  have hs1:m1.seg=C.seg:=by rw[hm1]
  have hz1:m1.size=C.size+(segB l).length:=by rw[hm1]
  have hi1:m1.index=ix:=by rw[hm1]
  have hcl1:∀ c∈F++l,c.length≤1048576:=fun c hcm=>(List.mem_append.1 hcm).elim (h.cl c) (hlc c)
  have hsz1:(segB (F++l)).length=m1.size:=by rw[Ke,List.length_append,h.sz,hz1]
  have hold:∀ t s2 N X',C.size≤s2→Rec (shp C.seg (some (manB m0,(manB m0).length)) (some (segB F++t,s2)) N X') m0 F:=fun t s2 N X' q=>by
    rw[← hs0];exact Mu hok0 (by rw[hs0];exact hhi) (by rw[hz0];exact h.sz) h.cl (by rw[hz0];exact q)
  obtain⟨Mid,hMid⟩:∃ P:(ByteArray→Option Fb)→Prop,P=fun V=>∃ m G,Rec V m G∧m.seg=C.seg∧((G=F∧m.index=C.index)∨(G=F++l∧m.index=ix)):=⟨_,rfl⟩
  have hmo:∀ t s2 N X',C.size≤s2→Mid (shp C.seg (some (manB m0,(manB m0).length)) (some (segB F++t,s2)) N X'):=fun t s2 N X' q=>by
    rw[hMid];exact⟨m0,F,hold t s2 N X' q,hs0,.inl ⟨rfl,hi0⟩⟩
  have hmn:m1.Ok→∀ s2 N X',m1.size≤s2→Mid (shp C.seg (some (manB m1,(manB m1).length)) (some (segB (F++l),s2)) N X'):=fun hok1 s2 N X' q=>by
    have:=Mu (t:=[]) (N:=N) (X:=X') hok1 (by rw[hs1];exact hhi) hsz1 hcl1 q
    rw[List.append_nil,hs1] at this
    rw[hMid];exact⟨m1,F++l,this,hs1,.inr ⟨rfl,hi1⟩⟩
  obtain⟨Ful,hFul⟩:∃ P:(ByteArray→Option Fb)→Prop,P=fun V=>∃ t s2 N,V=shp C.seg (some (manB m0,(manB m0).length)) (some (segB F++t,s2)) N X∧(t=[]→s2=C.size)∧C.size≤s2∧M<(manB m0).length+C.size+(segB l).length+(manB m1).length+nxL C.L C.next:=⟨_,rfl⟩
  have hXo:=hN.ol
  have hsF:=h.sz
  -- the calls
  have hsq:Sq C.D (putR C l ix) M (i+6) (fun V=>m1.Ok∧V=shp C.seg (some (manB m1,(manB m1).length)) (some (segB (F++l),C.size+(segB l).length)) none X) Mid Ful:=by
    unfold putR
    rw[← hm1]
    refine Sq.and (Ok:=fun V=>m1.Ok∧V=shp C.seg (some (manB m0,(manB m0).length)) (some (segB F++segB l,C.size+(segB l).length)) none X) (i:=i+2) ?_ (fun D V hd hV2 e=>?_) (by omega)
    · by_cases he : l = []
      · rw [Nw he]
        refine Sq.done h.up (hV.mono (by omega)) ⟨?_,by rw[he];simp[segB]⟩
        rw[hm1,he];exact⟨hlo,by show C.seg≤_;omega,by have:=h.ok.sz;exact this,hi⟩
      · rw [Lb he]
        simp only[runD,Ed]
        refine Sq.and (Ok:=fun V=>V=shp C.seg (some (manB m0,(manB m0).length)) (some (segB F++segB l,C.size)) none X) (i:=i+1) (K7 hV hns (E9 hlo hhi) (He hlo hhi) ?_ ?_ fun q=>?_) (fun D V hd hV2 e=>?_) (by omega)
        · have:=hmo [] C.size none X (Nat.le_refl _);rwa [List.append_nil] at this
        · rw[He hlo hhi];exact hmo _ _ _ _ (Nat.le_refl _)
        · have hr := (Hx hlo hhi hV).1
          rw[hFul]
          refine⟨[],C.size,none,by rw[List.append_nil],fun _=>rfl,Nat.le_refl _,?_⟩
          simp only[Eng.ol,Option.map_some,Option.getD_some,Option.map_none,Option.getD_none] at hr hXo
          omega
        · subst e
          have hfl:=(hV2.flen (E9 hlo hhi)).1
          simp only[List.length_append] at hfl
          have hlen:(segB F++segB l).length=C.size+(segB l).length:=by rw[List.length_append,hsF]
          have hok1:m1.Ok:=by rw[hm1];exact⟨hlo,by show C.seg≤_;omega,by show C.size+_≤_;omega,hi⟩
          refine .of (Qn hV2 hns (E9 hlo hhi)) ⟨hok1,by rw[He hlo hhi,hlen]⟩ (hmo _ _ _ _ (Nat.le_refl _)) (by rw[He hlo hhi];exact hmo _ _ _ _ (by simp only[List.length_append];omega))
    · obtain ⟨hok1, e⟩ := e
      subst e
      refine Nk hlo hhi hV2 hok1 ⟨hok1,by rw[Ke]⟩ (fun N=>hmo _ _ _ _ (by omega)) (by have:=hmn hok1 (C.size+(segB l).length) none X (by omega);rwa [Ke] at this) fun q=>?_
      rw[hFul]
      refine⟨segB l,C.size+(segB l).length,some ([],0),rfl,fun e=>by rw[e];rfl,by omega,?_⟩
      simp only[Eng.ol,Option.map_some,Option.getD_some,List.length_append] at q hXo
      omega
  rcases hsq with ⟨a,b,c,V,d,⟨hok1,e⟩⟩ | ⟨a,b,c,V,d,e⟩ | ⟨a,b,c,V,d,e⟩
  · refine .inl ?_
    rw[hmain,if_neg (by rw[a];simp)]
    subst e
    refine⟨rfl,⟨⟨X,?_,hN.app⟩,b,?_,hhi,?_,hcl1,heq,hfF,hfn,fun x hx=>(List.mem_append.1 hx).elim (h.cL x) (hlc x),h.dead⟩,rfl,rfl,rfl,c⟩
    · rw[hm1] at d;exact d.mono (by omega)
    · rw[hm1] at hok1;exact hok1
    · show (segB (F++l)).length=C.size+_;rw[hsz1,hz1]
  · refine .inr (.inr ?_)
    rw[hmain,if_pos (by rw[a];decide),a,Jq]
    rw[hMid] at e
    obtain⟨m,G,e1,e2⟩:=e
    exact⟨rfl,b,rfl,c,V,m,G,d.mono (by omega),e1,e2⟩
  · rw [hFul] at e
    obtain⟨t,s2,N,e,ht,hz,hroom⟩:=e
    subst e
    rw[hmain,if_pos (by rw[a];decide),a]
    have hu:=We hlo hhi d b hsF ht hz false (Mid:=Mid) (fun t s2 N X' q=>hmo t s2 N X' q)
    rcases hu with ⟨a',b',c',V',d',e'⟩ | ⟨a',b',c',V',d',e'⟩ | ⟨_,_,_,V',_,e'⟩
    · rw [A5 (by decide) rfl a']
      subst e'
      refine .inr (.inl ⟨rfl,⟨⟨X,?_,hN⟩,b',h.ok,hhi,hsF,h.cl,h.eq,h.nF,h.nL,h.cL,h.dead⟩,rfl,fun u=>c' (c u),hroom⟩)
      rw[hm0] at d';exact d'
    · rw [Cq (by decide) rfl (by rw [a']; decide)]
      rw[hMid] at e'
      obtain⟨m,G,e1,e2⟩:=e'
      exact .inr (.inr ⟨rfl,fun u=>b' (c u),rfl,c',V',m,G,d',e1,e2⟩)
    · exact e'.elim
end
end Go.Proofs.Eng
end
section
namespace Go.Proofs.Eng
open Go.RowKit
theorem P7 (keep:ByteArray):keepN nMan keep=true:=E5.2 ⟨Dh,.inl L9⟩
theorem Oa {s:Nat} (h1:1≤s) (h2:s≤999999):keepN (nSeg s) (nSeg s)=true:=E5.2 ⟨Dw h1 h2,.inr rfl⟩
theorem Rec.rem {V:ByteArray→Option Fb} {m:Mf} {F:List By} (h:Rec V m F) {x:ByteArray} (h1:x≠nMan) (h2:x≠nSeg m.seg):Rec (mset V x none) m F:=by
  obtain⟨t,s2,a,b⟩:=h.seg
  refine⟨?_,⟨t,s2,?_,b⟩,h.ok,h.sz,h.cl,fun k hk=>h.nm k ?_⟩
  · unfold mset;rw[if_neg (fun e=>h1 e.symm)];exact h.man
  · unfold mset;rw[if_neg (fun e=>h2 e.symm)];exact a
  · unfold mset at hk; split at hk
    · exact absurd rfl hk
    · exact hk
theorem Nl {M:Nat} {m:Mf} {F:List By}:∀ (ns:List ByteArray) {D:DS} {i:Nat} {V:ByteArray→Option Fb},ns.Nodup→(∀ x∈ns,V x≠none∧Ay x=true)→Vw D M i V→D.down=false→Rec V m F →
    Sq D (cleanL (nSeg m.seg) D ns) M (i+ns.length) (fun V'=>∀ k,(k∈ns∧keepN k (nSeg m.seg)=false→V' k=none)∧(¬ (k∈ns∧keepN k (nSeg m.seg)=false)→V' k=V k)) (fun V'=>Rec V' m F) (fun _=>False)
  | [],D,i,V,_,_,hV,hd,_=>Sq.done hd hV fun k=>⟨fun h=>by simp at h,fun _=>rfl⟩
  | x :: ns, D, i, V, hn, hx, hV, hd, hR => by
    rw[List.nodup_cons] at hn
    unfold cleanL
    by_cases hk:keepN x (nSeg m.seg)=true
    · rw [if_pos hk]
      refine (Nl ns hn.2 (fun y hy=>hx y (by simp[hy])) hV hd hR).imp (fun V' hv k=>?_) (fun _ h=>h) (fun _ h=>h) (by rw[List.length_cons];omega)
      obtain⟨v1,v2⟩:=hv k
      by_cases e:k=x
      · subst e;exact⟨fun h=>by rw[hk] at h;exact absurd h.2 (by simp),fun _=>v2 fun h=>hn.1 h.1⟩
      · exact⟨fun h=>v1 ⟨(List.mem_cons.1 h.1).resolve_left e,h.2⟩,fun h=>v2 fun q=>h ⟨List.mem_cons_of_mem _ q.1,q.2⟩⟩
    · rw [if_neg hk]
      have hkf:keepN x (nSeg m.seg)=false:=by simpa using hk
      have hxm:x≠nMan:=fun e=>hk (by rw[e];exact P7 _)
      have hxs:x≠nSeg m.seg:=fun e=>hk (by rw[e];exact Oa hR.ok.lo hR.ok.hi)
      obtain⟨hx1,hx2⟩:=hx x (by simp)
      obtain⟨f,hf⟩:=Option.ne_none_iff_exists'.1 hx1
      have hR1:=hR.rem hxm hxs
      refine Sq.and (Ok:=fun V'=>V'=mset V x none) (i:=i+1) (.of (G0 hV hx2 hf) rfl hR hR1) (fun D' V' hd' hV' e=>?_) (by rw[List.length_cons];omega)
      subst e
      have hne:∀ y∈ns,y≠x:=fun y hy e=>hn.1 (by rw[← e];exact hy)
      refine (Nl ns hn.2 (fun y hy=>⟨by unfold mset;rw[if_neg (hne y hy)];exact(hx y (by simp[hy])).1,(hx y (by simp[hy])).2⟩) hV' hd' hR1).imp (fun V' hv k=>?_) (fun _ h=>h) (fun _ h=>h) (by rw[List.length_cons];omega)
      obtain⟨v1,v2⟩:=hv k
      have hm:mset V x none k=if k=x then none else V k:=rfl
      rw[hm] at v2
      by_cases e:k=x
      · subst e
        refine⟨fun h=>?_,fun h=>absurd ⟨by simp,hkf⟩ h⟩
        rw[v2 (fun q=>hn.1 q.1),if_pos rfl]
      · rw [if_neg e] at v2
        exact⟨fun h=>v1 ⟨(List.mem_cons.1 h.1).resolve_left e,h.2⟩,fun h=>v2 fun q=>h ⟨List.mem_cons_of_mem _ q.1,q.2⟩⟩
theorem Za {D:DS} {M i:Nat} {V:ByteArray→Option Fb} {m:Mf} {F:List By} (hV:Vw D M i V) (hd:D.down=false) (hR:Rec V m F) (hhi:m.seg+1≤999999) (hF:(F.map shaF).Nodup) :
    ((openC D).2=0∧Bst (openC D).1 M (i+65) F∧(openC D).1.L=F∧(openC D).1.index=m.index∧(openC D).1.seg=m.seg∧(openC D).1.size=m.size∧(openC D).1.next=none∧(Up0 D→Up0 (openC D).1.D)) ∨
    ((openC D).2=20∧¬ Up0 D∧(openC D).1.D.down=true∧∃ V',Vw (openC D).1.D M (i+65) V'∧Rec V' m F):=by
  obtain⟨t,s2,hseg,hs2⟩:=hR.seg
  have hlo:=hR.ok.lo
  have hns:=Cv hlo hR.ok.hi
  have hfl:s2≤(segB F++t).length:=(hV.flen hseg).2
  have hrm:=Qo hV hd Fz hR.man
  have hrs:=Qo hV hd hns hseg
  have hsz:=hR.sz
  have htake:(segB F++t).take m.size=segB F:=by rw[← hsz];simp
  have hmo:ManOf (readD D nMan).1 m:=by rw[hrm];exact⟨hR.ok,rfl⟩
  have hsg:=Ln hR.cl
  have hso:loadS D m=⟨D,m.seg,m.size,m.index,F,none,false⟩:=by unfold loadS;rw[hrs,htake,hsg]
  rw[Ju (by rw[hrm]),Li hmo]
  rw[if_neg (by rw[hrs,htake,hsg];simp only[List.length_append];rintro (h | h | h) <;> first | exact h rfl | omega),hso]
  have hsq:Sq D (loadR D m) M (i+65) (fun V'=>V'=shp m.seg (some (manB m,(manB m).length)) (some (segB F,m.size)) none none) (fun V'=>Rec V' m F) (fun _=>False):=by
    unfold loadR
    rw[hrs]
    refine Sq.and (Ok:=fun V'=>V'=mset V (nSeg m.seg) (some (segB F,m.size))) (i:=i+1) ?_ (fun D' V' hd' hV' e=>?_) (by omega)
    · by_cases ht : t = []
      · subst ht
        rw[List.append_nil] at hseg hfl ⊢
        rw[if_neg (by simp only;omega)]
        refine Sq.done hd (hV.mono (by omega)) ?_
        funext k;unfold mset
        by_cases e:k=nSeg m.seg
        · rw[if_pos e,e,hseg,show s2=m.size by omega]
        · rw[if_neg e]
      · have : 0 < t.length := by cases t with | nil => exact absurd rfl ht | cons _ _ => simp
        rw[if_pos (by simp only[List.length_append];omega)]
        have hc:=Yu hV hns hseg (n:=m.size) (by simp only[List.length_append];omega)
        rw[htake] at hc
        refine .of hc rfl hR ⟨?_,⟨[],m.size,?_,Nat.le_refl _⟩,hR.ok,hR.sz,hR.cl,fun k hk=>hR.nm k ?_⟩
        · unfold mset;rw[if_neg (fun e=>C8 hlo hR.ok.hi e.symm)];exact hR.man
        · unfold mset;rw[if_pos rfl,List.append_nil]
        · unfold mset at hk; split at hk
          · rename_i e;rw[e,hseg];simp
          · exact hk
    · subst e
      have hR':Rec (mset V (nSeg m.seg) (some (segB F,m.size))) m F:=by
        refine⟨?_,⟨[],m.size,?_,Nat.le_refl _⟩,hR.ok,hR.sz,hR.cl,fun k hk=>hR.nm k ?_⟩
        · unfold mset;rw[if_neg (fun e=>C8 hlo hR.ok.hi e.symm)];exact hR.man
        · unfold mset;rw[if_pos rfl,List.append_nil]
        · unfold mset at hk; split at hk
          · rename_i e;rw[e,hseg];simp
          · exact hk
      have hmem:∀ x∈D'.l.map (·.1),mset V (nSeg m.seg) (some (segB F,m.size)) x≠none:=fun x hx=>by rw[← hV'.v];exact C0.2 hx
      unfold cleanD
      refine (Nl (D'.l.map (·.1)) hV'.good.ok.rise.nodup (fun x hx=>⟨hmem x hx,?_⟩) hV' hd' hR').imp (fun V2 hv=>?_) (fun _ h=>h) (fun _ h=>h) (j:=i+65) (by have:=hV'.good.ok.few;rw[List.length_map];omega)
      · obtain⟨y,hy,rfl⟩:=List.mem_map.1 hx;exact hV'.good.names y hy
      · funext k
        obtain⟨v1,v2⟩:=hv k
        by_cases e1:k=nMan
        · rw[v2 (by rw[e1,P7];simp),e1,hR'.man,I1]
        · by_cases e2 : k = nSeg m.seg
          · rw[v2 (by rw[e2,Oa hlo hR.ok.hi];simp),e2,E9 hlo hhi];unfold mset;rw[if_pos rfl]
          · have hr : shp m.seg (some (manB m, (manB m).length)) (some (segB F, m.size)) none none k = none := by
              unfold shp;rw[if_neg e1,if_neg e2];simp
            rw[hr]
            by_cases e3:mset V (nSeg m.seg) (some (segB F,m.size)) k=none
            · by_cases e4 : k ∈ D'.l.map (·.1) ∧ keepN k (nSeg m.seg) = false
              · exact v1 e4
              · rw[v2 e4,e3]
            · refine v1 ⟨C0.1 (by rw [← hV'.v] at e3; exact e3), ?_⟩
              have hkk:=(hR'.nm k e3).resolve_left e1
              cases hq:keepN k (nSeg m.seg) with
              | false=>rfl
              | true =>
                obtain⟨a,b⟩:=E5.1 hq
                rcases hkk with c | c
                · exact absurd c a
                · exact absurd c (b.resolve_right e2)
  rcases hsq with ⟨a,b,c,V',d,e⟩ | ⟨a,b,c,V',d,e⟩ | ⟨_,_,_,V',_,e⟩
  · subst e
    exact .inl ⟨a,⟨⟨none,d,rfl⟩,b,hR.ok,hhi,hsz,hR.cl,fun _=>rfl,hF,hF,hR.cl,rfl⟩,rfl,rfl,rfl,rfl,rfl,c⟩
  · exact .inr ⟨a,b,c,V',d,e⟩
  · exact e.elim
end Go.Proofs.Eng
end
section
namespace Go.Proofs.Eng
open Go.RowKit
theorem Hf {xs ys:List Hash} {x:Hash}:x∈sel ys false xs↔x∈xs∧x∉ys:=by unfold sel;simp
theorem Ni {l:List Hash}:srt l=[]↔l=[]:=by
  constructor
  · intro h
    cases l with
    | nil=>rfl
    | cons x l=>have:x∈srt (x :: l):=mem_srt.2 (by simp);rw[h] at this;cases this
  · intro h;rw[h];rfl
theorem Ue {L:List By} {got:List Hash} (hg:∀ h∈got,findF L h≠none):(Az L got).map shaF=got:=by
  unfold Az
  rw[List.map_map]
  conv=>rhs;rw[← List.map_id got]
  refine List.map_congr_left fun h hh=>?_
  obtain⟨c,hc⟩:=Option.ne_none_iff_exists'.1 (hg h hh)
  show shaF ((findF L h).getD [])=h
  rw[hc];exact(Ec hc).1
theorem Pj {L:List By} {got:List Hash} (hg:∀ h∈got,findF L h≠none) (z:Hash):findF (Az L got) z=if z∈got then findF L z else none:=by
  induction got with
  | nil=>rfl
  | cons x got ih =>
    obtain⟨c,hc⟩:=Option.ne_none_iff_exists'.1 (hg x (by simp))
    have hs:=(Ec hc).1
    have e:Az L (x :: got)=c :: Az L got:=by unfold Az;rw[List.map_cons,hc];rfl
    have ih:=ih fun h hh=>hg h (by simp[hh])
    rw[e]
    unfold findF at ih ⊢
    rw[List.find?_cons]
    by_cases q:x=z
    · rw [decide_eq_true (hs.trans q)]
      have:List.find? (fun c=>decide (shaF c=z)) L=some c:=by rw[← q];exact hc
      simp[q,this]
    · rw [decide_eq_false (by rw [hs]; exact q)]
      simp only[List.mem_cons,Ne.symm q,false_or]
      exact ih
def rankS (live:List Hash):Option (List Hash×Nat)→Nat
  | none=>11
  | some gz=>if srt (sel live false (srt gz.1))=[] then (srt (sel (srt gz.1) false live)).length else 12
theorem Sw {l:List Hash}:∀ x∈l.take 4,x∈l:=fun x hx=>List.mem_of_mem_take hx
theorem U1 {live got:List Hash} (h1:srt (sel live false (srt got))=[]) (h2:srt (sel (srt got) false live)≠[]):rankS live (some (got++(srt (sel (srt got) false live)).take 4,0))<(srt (sel (srt got) false live)).length:=by
  obtain⟨l,hl⟩:∃ l,l=srt (sel (srt got) false live):=⟨_,rfl⟩
  have hml:∀ x,x∈l↔x∈live∧x∉got:=fun x=>by rw[hl,mem_srt,Hf,mem_srt]
  have hgl:∀ x∈got,x∈live:=fun x hx=>Classical.byContradiction fun hn=>by
    have:x∈srt (sel live false (srt got)):=mem_srt.2 (Hf.2 ⟨mem_srt.2 hx,hn⟩)
    rw[h1] at this;cases this
  rw[← hl] at h2 ⊢
  have e1:srt (sel live false (srt (got++l.take 4)))=[]:=by
    rw[Ni]
    refine List.eq_nil_iff_forall_not_mem.2 fun x hx=>?_
    obtain⟨a,b⟩:=Hf.1 hx
    rcases List.mem_append.1 (mem_srt.1 a) with c | c
    · exact b (hgl x c)
    · exact b ((hml x).1 (Sw x c)).1
  show (if srt (sel live false (srt (got++l.take 4)))=[] then (srt (sel (srt (got++l.take 4)) false live)).length else 12)<_
  rw[if_pos e1]
  have hnd:(srt (sel (srt (got++l.take 4)) false live)).Nodup:=(Fh _).nodup
  have hle:(srt (sel (srt (got++l.take 4)) false live)).length≤(l.drop 4).length:=by
    refine Fi hnd fun x hx=>?_
    obtain⟨a,b⟩:=Hf.1 (mem_srt.1 hx)
    rw[mem_srt,List.mem_append,not_or] at b
    have hx2:x∈l:=(hml x).2 ⟨a,b.1⟩
    rw[← List.take_append_drop 4 l] at hx2
    exact(List.mem_append.1 hx2).resolve_left b.2
  have:0<l.length:=by cases l with | nil=>exact absurd rfl h2 | cons _ _=>simp
  rw[List.length_drop] at hle
  omega
section
variable {C : CS} {M i : Nat} {F : List By}
def LiveP (C:CS) (live:List Hash) (G:List By):Prop:=(∀ h,findF G h=if h∈live then findF C.L h else none)∧(G.map shaF).Nodup∧∀ c∈G,c∈C.L
theorem Aaz (h:Bst C M i F) (hM:M≤16777216) {live:List Hash} (hl:∀ h∈live,findF C.L h≠none) (hseg:C.seg+2≤999999) :
    ((stepF C live).2=(false,0)∧Bst (stepF C live).1 M (i+12) F∧(stepF C live).1={ C with D:=(stepF C live).1.D,next:=(stepF C live).1.next }∧(Up0 C.D→Up0 (stepF C live).1.D)∧((srt (srt live)).length≤10→rankS (srt live) (stepF C live).1.next<rankS (srt live) C.next)) ∨
    ((stepF C live).2=(true,0)∧(∃ G,Bst (stepF C live).1 M (i+12) G∧LiveP C live G)∧LiveP C live (stepF C live).1.L∧(stepF C live).1.index=C.index∧(stepF C live).1.seg=C.seg+1∧(stepF C live).1.next=none∧(Up0 C.D→Up0 (stepF C live).1.D)) ∨
    ((stepF C live).2=(false,21)∧Bst (stepF C live).1 M (i+12) F∧(stepF C live).1={ C with D:=(stepF C live).1.D,next:=none }∧(Up0 C.D→Up0 (stepF C live).1.D)∧∃ Z,(∃ l:List Hash,Z=(segB (Az C.L l)).length∧l.Nodup∧∀ h∈l,findF C.L h≠none)∧M<(manB ⟨C.seg,C.size,C.index⟩).length+C.size+Z+(C.index.length+35)) ∨
    ((stepF C live).2=(false,20)∧¬ Up0 C.D∧Ded (stepF C live).1 M (i+12) (fun m G=>m.index=C.index∧((m.seg=C.seg∧G=F)∨(m.seg=C.seg+1∧LiveP C live G)))):=by
  obtain⟨X,hV,hN⟩:=h.vw
  have hlo:=h.ok.lo
  have hhi:=h.hi
  have hsF:=h.sz
  have hmain:=Ng (C:=C) (live:=live) (by rw[h.dead];simp) hl (by omega)
  obtain⟨m0,hm0⟩:∃ m:Mf,m=⟨C.seg,C.size,C.index⟩:=⟨_,rfl⟩
  have hok0:m0.Ok:=by rw[hm0];exact h.ok
  rw[← hm0] at hV ⊢
  have hs0:m0.seg=C.seg:=by rw[hm0]
  have hz0:m0.size=C.size:=by rw[hm0]
  have hi0:m0.index=C.index:=by rw[hm0]
  obtain⟨Mid,hMid⟩:∃ P:(ByteArray→Option Fb)→Prop,P=fun V=>∃ m G,Rec V m G∧m.index=C.index∧((m.seg=C.seg∧G=F)∨(m.seg=C.seg+1∧LiveP C live G)):=⟨_,rfl⟩
  have hmo:∀ t s2 N X',C.size≤s2→Mid (shp C.seg (some (manB m0,(manB m0).length)) (some (segB F++t,s2)) N X'):=fun t s2 N X' q=>by
    have:=Mu (t:=t) (N:=N) (X:=X') hok0 (by rw[hs0];exact hhi) (by rw[hz0];exact hsF) h.cl (by rw[hz0];exact q)
    rw[hs0] at this
    rw[hMid];exact⟨m0,F,this,hi0,.inl ⟨hs0,rfl⟩⟩
  have hmo0:∀ N X',Mid (shp C.seg (some (manB m0,(manB m0).length)) (some (segB F,C.size)) N X'):=fun N X'=>by have:=hmo [] C.size N X' (Nat.le_refl _);rwa [List.append_nil] at this
  have hlm:=H3 hok0
  -- what becomes of a call that failed
  have hdead:∀ {r:CS×Bool×Int},stepS C (srt live)=r→r.1={ C with D:=r.1.D }→r.2.2=20→¬ Up0 C.D→r.1.D.down=true→(∃ V,Vw r.1.D M (i+9) V∧Mid V) →
      ((stepF C live).2=(false,20)∧¬ Up0 C.D∧Ded (stepF C live).1 M (i+12) (fun m G=>m.index=C.index∧((m.seg=C.seg∧G=F)∨(m.seg=C.seg+1∧LiveP C live G)))):=by
    intro r hr h1 h2 h3 h4 ⟨V,hV',hm'⟩
    rw[hmain,hr,if_pos (by rw[h2];decide),h2,Jq]
    rw[hMid] at hm'
    obtain⟨m,G,e1,e2⟩:=hm'
    exact⟨rfl,h3,rfl,h4,V,m,G,hV'.mono (by omega),e1,e2⟩
  have hfull:∀ {r:CS×Bool×Int} {N X':Option Fb},stepS C (srt live)=r→r.1={ C with D:=r.1.D }→r.2.2=21→(Up0 C.D→Up0 r.1.D)→r.1.D.down=false→Vw r.1.D M (i+9) (shp C.seg (some (manB m0,(manB m0).length)) (some (segB F,C.size)) N X') →
      (∃ Z,(∃ l:List Hash,Z=(segB (Az C.L l)).length∧l.Nodup∧∀ h∈l,findF C.L h≠none)∧M<(manB m0).length+C.size+Z+(C.index.length+35)) →
      ((stepF C live).2=(false,21)∧Bst (stepF C live).1 M (i+12) F∧(stepF C live).1={ C with D:=(stepF C live).1.D,next:=none }∧(Up0 C.D→Up0 (stepF C live).1.D)∧∃ Z,(∃ l:List Hash,Z=(segB (Az C.L l)).length∧l.Nodup∧∀ h∈l,findF C.L h≠none)∧M<(manB m0).length+C.size+Z+(C.index.length+35)) ∨
      ((stepF C live).2=(false,20)∧¬ Up0 C.D∧Ded (stepF C live).1 M (i+12) (fun m G=>m.index=C.index∧((m.seg=C.seg∧G=F)∨(m.seg=C.seg+1∧LiveP C live G)))):=by
    intro r N X' hr h1 h2 h3 h4 hV' hroom
    have hV'':Vw r.1.D M (i+9) (shp C.seg (some (manB m0,(manB m0).length)) (some (segB F++[],C.size)) N X'):=by rw[List.append_nil];exact hV'
    have hu:=We hlo hhi hV'' h4 hsF (fun _=>rfl) (Nat.le_refl _) true (Mid:=Mid) (fun t s2 N X' q=>hmo t s2 N X' q)
    rw[hmain,hr,if_pos (by rw[h2];decide),h2]
    have e1:r.1.seg=C.seg:=by rw[h1]
    have e2:r.1.size=C.size:=by rw[h1]
    rcases hu with ⟨a',b',c',V',d',e'⟩ | ⟨a',b',c',V',d',e'⟩ | ⟨_,_,_,V',_,e'⟩
    · rw [A5 (by decide) rfl (by rw [e1, e2]; exact a'), e1, e2]
      subst e'
      refine .inl ⟨rfl,?_,by rw[h1];rfl,fun u=>c' (h3 u),hroom⟩
      rw[if_pos rfl] at d'
      rw[hm0] at d'
      rw[h1]
      exact⟨⟨none,d',rfl⟩,b',h.ok,hhi,hsF,h.cl,h.eq,h.nF,h.nL,h.cL,h.dead⟩
    · rw [Cq (by decide) rfl (by rw [e1, e2, a']; decide), e1, e2]
      rw[hMid] at e'
      obtain⟨m,G,e3,e4⟩:=e'
      exact .inr ⟨rfl,fun u=>b' (h3 u),rfl,c',V',m,G,d',e3,e4⟩
    · exact e'.elim
  have hgood:∀ {r:CS×Bool×Int},stepS C (srt live)=r→r.2.2=0→stepF C live=r:=fun hr h2=>by rw[hmain,hr,if_neg (by rw[h2];simp)]
  cases hnx:C.next with
  | none =>
    rw[hnx] at hN
    have hX:X=none:=hN
    subst hX
    have hst:=F7 (live:=srt live) hnx
    have ho:=K4 hV (Cv (by omega) hhi) (E2 hlo hhi) (Hx hlo hhi hV).2
    rw[Hy hlo hhi] at ho
    rcases ho with ⟨a,b,c,d⟩ | ⟨a,b,c,d⟩
    · rw [if_pos a] at hst
      refine .inl ?_
      rw[hgood hst a]
      refine⟨by rw[a],⟨⟨some ([],0),?_,⟨0,rfl⟩,rfl,(fun h hh=>by cases hh),List.nodup_nil⟩,c,h.ok,hhi,hsF,h.cl,h.eq,h.nF,h.nL,h.cL,h.dead⟩,rfl,d,fun q=>?_⟩
      · rw[hm0] at b;exact b.mono (by omega)
      · have e0 : srt (sel (srt live) false (srt ([] : List Hash))) = [] := by rw [Ni]; rfl
        have e2:(srt (sel (srt ([]:List Hash)) false (srt live)))=srt (srt live):=congrArg srt (List.filter_eq_self.2 fun x _=>by simp[show srt ([]:List Hash)=[] from rfl])
        have e3:rankS (srt live) (some ([],0))=(srt (srt live)).length:=by unfold rankS;simp only[];rw[if_pos e0,e2]
        show rankS (srt live) (some ([],0))<11
        rw[e3];omega
    · rw [if_neg (by rw [a]; decide)] at hst
      exact .inr (.inr (.inr (hdead hst (by rw[← hnx]) a b c (d.elim (fun d=>⟨_,d.mono (by omega),hmo0 _ _⟩) fun d=>⟨_,d.mono (by omega),hmo0 _ _⟩))))
  | some gz =>
    obtain⟨got,z⟩:=gz
    rw[hnx] at hN
    obtain⟨⟨s2,hX⟩,hz,hgin,hgnd⟩:=hN
    simp only at hz hgin hgnd
    subst hX
    by_cases h1:srt (sel (srt live) false (srt got))=[]
    · by_cases h2 : srt (sel (srt got) false (srt live)) = []
      · -- the end
        have hst:=E1 (live:=srt live) hnx h1 h2
        have hgl:∀ x,x∈got↔x∈live:=fun x=>by
          constructor
          · intro hx
            refine Classical.byContradiction fun hn=>?_
            have:x∈srt (sel (srt live) false (srt got)):=mem_srt.2 (Hf.2 ⟨mem_srt.2 hx,fun q=>hn (mem_srt.1 q)⟩)
            rw[h1] at this;cases this
          · intro hx
            refine Classical.byContradiction fun hn=>?_
            have:x∈srt (sel (srt got) false (srt live)):=mem_srt.2 (Hf.2 ⟨mem_srt.2 hx,fun q=>hn (mem_srt.1 q)⟩)
            rw[h2] at this;cases this
        obtain⟨G,hG⟩:∃ G,G=Az C.L got:=⟨_,rfl⟩
        have hGs:G.map shaF=got:=by rw[hG];exact Ue hgin
        have hGf:∀ z,findF G z=if z∈live then findF C.L z else none:=fun z=>by
          rw[hG,Pj hgin];simp only[hgl z]
        have hGm:∀ c∈G,c∈C.L:=fun c hc=>by
          rw[hG] at hc
          obtain⟨y,hy,rfl⟩:=List.mem_map.1 hc
          obtain⟨d,hd⟩:=Option.ne_none_iff_exists'.1 (hgin y hy)
          rw[hd];exact(Ec hd).2
        have hGP:LiveP C live G:=⟨hGf,by rw[hGs];exact hgnd,hGm⟩
        obtain⟨m1,hm1⟩:∃ m:Mf,m=⟨C.seg+1,z,C.index⟩:=⟨_,rfl⟩
        have hs1:m1.seg=C.seg+1:=by rw[hm1]
        have hz1:m1.size=z:=by rw[hm1]
        have hfl:=(hV.flen (E2 hlo hhi)).1
        simp only at hfl
        have hok1:m1.Ok:=by rw[hm1];exact⟨by show 1≤C.seg+1;omega,by show C.seg+1≤_;omega,by show z≤_;omega,h.ok.ix⟩
        rw[← hG] at hV hz
        have hzG:(segB G).length=m1.size:=by rw[hz1,hz]
        have hclG:∀ c∈G,c.length≤1048576:=fun c hc=>h.cL c (hGm c hc)
        have hnew:∀ {V},V nMan=some (manB m1,(manB m1).length)→V (nSeg (C.seg+1))=some (segB G,(segB G).length)→(∀ k,V k≠none→k=nMan∨k=nNew∨SegN k)→Mid V:=fun {V} a b c=>by
          rw[hMid]
          exact⟨m1,G,⟨a,⟨[],(segB G).length,by rw[hs1,List.append_nil];exact b,by rw[hzG];exact Nat.le_refl _⟩,hok1,hzG,hclG,c⟩,by rw[hm1],.inr ⟨hs1,hGP⟩⟩
        have hsq:Sq C.D (runD (lastOps C z) C.D) M (i+6) (fun V=>V=shp (C.seg+1) (some (manB m1,(manB m1).length)) (some (segB G,(segB G).length)) none none) Mid (fun V=>V=shp C.seg (some (manB m0,(manB m0).length)) (some (segB F,C.size)) (some ([],0)) (some (segB G,(segB G).length))∧M<(manB m0).length+C.size+(segB G).length+(C.index.length+35)):=by
          simp only[lastOps,runD,Ed]
          rw[← hm1]
          refine Sq.and (Ok:=fun V=>V=shp C.seg (some (manB m0,(manB m0).length)) (some (segB F,C.size)) none (some (segB G,(segB G).length))) (i:=i+1) (.of (Qn hV (Cv (by omega) hhi) (E2 hlo hhi)) (Hy hlo hhi) (hmo0 _ _) (by rw[Hy hlo hhi];exact hmo0 _ _)) (fun D V hd hV e=>?_) (by omega)
          subst e
          refine Sq.and (Ok:=fun V=>V=shp C.seg (some (manB m1,(manB m1).length)) (some (segB F,C.size)) none (some (segB G,(segB G).length))) (i:=i+5) (Nk hlo hhi hV hok1 rfl (fun N=>hmo0 _ _) (hnew I1 (E2 hlo hhi) (Qw hlo hhi)) fun q=>⟨rfl,?_⟩) (fun D V hd hV e=>?_) (by omega)
          · have hl1 := H3 hok1
            have e5:m1.index.length=C.index.length:=by rw[hm1]
            simp only[Eng.ol,Option.map_some,Option.getD_some] at q
            omega
          · subst e
            refine .of (G0 hV (Cv hlo (by omega)) (E9 hlo hhi)) ?_ (hnew I1 (E2 hlo hhi) (Qw hlo hhi)) ?_
            · rw[He hlo hhi,Adf hlo hhi]
            · rw[He hlo hhi];exact hnew I1 (E2 hlo hhi) (Qw hlo hhi)
        rcases hsq with ⟨a,b,c,V,d,e⟩ | ⟨a,b,c,V,d,e⟩ | ⟨a,b,c,V,d,e,hroom⟩
        · rw [if_neg (by rw [a]; simp)] at hst
          subst e
          refine .inr (.inl ?_)
          rw[hgood hst rfl]
          have hLf:∀ y,findF (C.L.filter fun c=>decide (shaF c∈got)) y=if y∈live then findF C.L y else none:=fun y=>by
            have:=Hq C.L (fun x=>decide (x∈got)) y
            rw[this]
            simp only[decide_eq_true_eq,hgl y]
          have hLn:((C.L.filter fun c=>decide (shaF c∈got)).map shaF).Nodup:=(List.filter_sublist.map shaF).nodup h.nL
          have hLm:∀ c∈C.L.filter fun c=>decide (shaF c∈got),c∈C.L:=fun c hc=>(List.mem_filter.1 hc).1
          have hd2:Vw (runD (lastOps C z) C.D).1 M (i+12) (shp (C.seg+1) (some (manB ⟨C.seg+1,z,C.index⟩,(manB ⟨C.seg+1,z,C.index⟩).length)) (some (segB G,z)) none none):=by
            rw[hm1,show (segB G).length=z from hz.symm] at d;exact d.mono (by omega)
          rw[hm1] at hok1
          exact⟨rfl,⟨G,⟨⟨none,hd2,rfl⟩,b,hok1,by show C.seg+1+1≤_;omega,hz.symm,hclG,fun y=>by rw[hGf];exact hLf y,hGP.2.1,hLn,fun c hc=>h.cL c (hLm c hc),h.dead⟩,hGP⟩,⟨hLf,hLn,hLm⟩,rfl,rfl,rfl,c⟩
        · rw [if_pos (by rw [a]; decide)] at hst
          exact .inr (.inr (.inr (hdead hst rfl a b c ⟨V,d.mono (by omega),e⟩)))
        · rw [if_pos (by rw [a]; decide)] at hst
          subst e
          rcases hfull hst rfl a c b (d.mono (by omega)) ⟨_,⟨got,by rw[← hG],hgnd,hgin⟩,hroom⟩ with q | q
          · exact .inr (.inr (.inl q))
          · exact .inr (.inr (.inr q))
      · -- some are brought
        have hst:=Gg (live:=srt live) hnx h1 h2
        have hrk:=U1 h1 h2
        have hml0:∀ x∈(srt (sel (srt got) false (srt live))).take 4,x∈live∧x∉got:=fun x hx=>by
          have:=Sw x hx
          rw[mem_srt,Hf,mem_srt,mem_srt] at this;exact this
        have hlnd:((srt (sel (srt got) false (srt live))).take 4).Nodup:=(List.take_sublist _ _).nodup ((Fh _).nodup)
        obtain⟨left,hleft⟩:∃ l,l=(srt (sel (srt got) false (srt live))).take 4:=⟨_,rfl⟩
        rw[← hleft] at hst hrk hml0 hlnd
        have hall:∀ y∈got++left,findF C.L y≠none:=fun y hy=>(List.mem_append.1 hy).elim (hgin y) fun q=>hl y (hml0 y q).1
        have hand:(got++left).Nodup:=List.nodup_append.2 ⟨hgnd,hlnd,fun a ha b hb e=>(hml0 b hb).2 (by rw[← e];exact ha)⟩
        have happ:segB (Az C.L (got++left))=segB (Az C.L got)++segB (Az C.L left):=by unfold Az;rw[List.map_append,Ke]
        have hsq:Sq C.D (A3 C.D (nSeg (C.seg+1)) (segB (Az C.L left))) M (i+1) (fun V=>V=shp C.seg (some (manB m0,(manB m0).length)) (some (segB F,C.size)) none (some (segB (Az C.L (got++left)),s2))) Mid (fun V=>V=shp C.seg (some (manB m0,(manB m0).length)) (some (segB F,C.size)) none (some (segB (Az C.L got),s2))∧M<(manB m0).length+C.size+(segB (Az C.L (got++left))).length+(C.index.length+35)):=by
          refine K7 hV (Cv (by omega) hhi) (E2 hlo hhi) (by rw[Hy hlo hhi,happ]) (hmo0 _ _) (by rw[Hy hlo hhi];exact hmo0 _ _) fun q=>⟨rfl,?_⟩
          have hr:=(Hx hlo hhi hV).1
          simp only[Eng.ol,Option.map_some,Option.getD_some,Option.map_none,Option.getD_none] at hr
          rw[happ,List.length_append];omega
        rcases hsq with ⟨a,b,c,V,d,e⟩ | ⟨a,b,c,V,d,e⟩ | ⟨a,b,c,V,d,e,hroom⟩
        · subst e
          have hbr:D9 C got z (nSeg (C.seg+1)) left=({ C with D:=(A3 C.D (nSeg (C.seg+1)) (segB (Az C.L left))).1,next:=some (got++left,z+(segB (Az C.L left)).length) },0):=by unfold D9;rw[if_pos a,a]
          rw[hbr] at hst
          refine .inl ?_
          rw[hgood hst rfl]
          refine⟨rfl,⟨⟨some (segB (Az C.L (got++left)),s2),?_,⟨s2,rfl⟩,?_,hall,hand⟩,b,h.ok,hhi,hsF,h.cl,h.eq,h.nF,h.nL,h.cL,h.dead⟩,rfl,c,fun _=>?_⟩
          · rw[hm0] at d;exact d.mono (by omega)
          · show z+_=_;rw[happ,List.length_append,hz]
          · show rankS (srt live) (some (got ++ left, _)) < (if srt (sel (srt live) false (srt got)) = [] then _ else 12)
            rw[if_pos h1];exact hrk
        · have hbr : D9 C got z (nSeg (C.seg + 1)) left = ({ C with D := (A3 C.D (nSeg (C.seg + 1)) (segB (Az C.L left))).1, next := some (got, z) }, 20) := by unfold D9; rw [if_neg (by rw [a]; decide), a]
          rw[hbr] at hst
          exact .inr (.inr (.inr (hdead hst (by rw[← hnx]) rfl b c ⟨V,d.mono (by omega),e⟩)))
        · subst e
          have hbr:D9 C got z (nSeg (C.seg+1)) left=({ C with D:=(A3 C.D (nSeg (C.seg+1)) (segB (Az C.L left))).1,next:=some (got,z) },21):=by unfold D9;rw[if_neg (by rw[a];decide),a]
          rw[hbr] at hst
          rcases hfull hst (by rw[← hnx]) rfl c b (d.mono (by omega)) ⟨_,⟨got++left,rfl,hand,hall⟩,hroom⟩ with q | q
          · exact .inr (.inr (.inl q))
          · exact .inr (.inr (.inr q))
    · -- begun anew
      have hst:=G2 (live:=srt live) hnx h1
      have ho:=G0 hV (Cv (by omega) hhi) (E2 hlo hhi)
      rw[Hy hlo hhi] at ho
      rcases ho with ⟨a,b,c,d⟩ | ⟨a,b,c,d⟩
      · rw [if_pos a] at hst
        refine .inl ?_
        rw[hgood hst a]
        refine⟨by rw[a],⟨⟨none,?_,rfl⟩,c,h.ok,hhi,hsF,h.cl,h.eq,h.nF,h.nL,h.cL,h.dead⟩,rfl,d,fun q=>?_⟩
        · rw[hm0] at b;exact b.mono (by omega)
        · show 11 < (if srt (sel (srt live) false (srt got)) = [] then _ else 12)
          rw[if_neg h1];omega
      · rw [if_neg (by rw [a]; decide)] at hst
        exact .inr (.inr (.inr (hdead hst (by rw[← hnx]) a b c (d.elim (fun d=>⟨_,d.mono (by omega),hmo0 _ _⟩) fun d=>⟨_,d.mono (by omega),hmo0 _ _⟩))))
end
end Go.Proofs.Eng
end
section
namespace Go.Proofs.Eng
open Go.RowKit
theorem Adl (most:Int) (M:Nat) (hm:M=(max 0 (min most 16777216)).toNat) :
    ((openC (newD most)).2=0∧Bst (openC (newD most)).1 M 5 []∧(openC (newD most)).1.L=[]∧(openC (newD most)).1.index=[]∧(openC (newD most)).1.seg=1∧(openC (newD most)).1.size=0∧(openC (newD most)).1.next=none∧Up0 (openC (newD most)).1.D)∨((openC (newD most)).2=21∧M<64):=by
  have hV:Vw (newD most) M 0 (fun _=>none):=⟨Tw most,hm.symm,fun _=>rfl⟩
  have hu:Up0 (newD most):=⟨rfl,rfl⟩
  have hok:(Mf.mk 1 0 []).Ok:=⟨by show 1≤1;omega,by show 1≤999999;omega,by show 0≤_;omega,by show 0≤_;omega⟩
  have hlm:=H3 hok
  have hcl:cleanD (newD most) (toStr [])=(newD most,0):=rfl
  have hsq:Sq (newD most) (runD openOps (newD most)) M 5 (fun V=>V=shp 1 (some (manB ⟨1,0,[]⟩,(manB ⟨1,0,[]⟩).length)) (some ([],0)) none none) (fun _=>True) (fun _=>M<64):=by
    simp only[openOps,runD,Ed]
    rw[hcl,Ee (r:=(newD most,0)) rfl]
    refine Sq.and (Ok:=fun V=>V=shp 1 none (some ([],0)) none none) (i:=1) (.of (K4 hV (Cv (k:=1) (by omega) (by omega)) rfl (by show 0<64;omega)) ?_ trivial trivial) (fun D V hd hV e=>?_) (by omega)
    · funext k; unfold mset shp
      by_cases e:k=nSeg 1
      · rw[if_pos e,if_neg (by rw[e];exact C8 (by omega) (by omega)),if_pos e]
      · rw[if_neg e];simp[e]
    · subst e
      refine Nk (by omega) (by omega) hV hok rfl (fun _=>trivial) trivial fun q=>?_
      simp only[Eng.ol,Option.map_some,Option.getD_some,Option.map_none,Option.getD_none,List.length_nil] at q hlm
      omega
  have ho:=Lc (D:=newD most) (by rw[Yt hV rfl Fz rfl])
  rcases hsq with ⟨a,b,c,V,d,e⟩ | ⟨_,b,_⟩ | ⟨a,_,_,V,_,e⟩
  · rw [ho]
    subst e
    exact .inl ⟨a,⟨⟨none,d,rfl⟩,b,hok,by show 1+1≤999999;omega,rfl,(fun c hc=>by cases hc),fun _=>rfl,List.nodup_nil,List.nodup_nil,(fun c hc=>by cases hc),rfl⟩,rfl,rfl,rfl,rfl,rfl,c hu⟩
  · exact absurd hu b
  · rw[ho];exact .inr ⟨a,e⟩
theorem Bst.cn {C:CS} {M i:Nat} {F:List By} (h:Bst C M i F) (hl:C.L.length≤100000):CN C i:=by
  obtain⟨X,hV,hN⟩:=h.vw
  have hz:=h.ok.sz
  have hx:=h.ok.ix
  have hh:=h.hi
  refine⟨hV.good,by omega,by have:C.size≤16777216:=hz;omega,by have:C.index.length≤524288:=hx;omega,fun g z e=>?_,by omega,h.cL⟩
  rw[e] at hN
  obtain⟨_,h2,h3,h4⟩:=hN
  simp only at h2 h3 h4
  have hk:=Oi h3 g h4 (fun z hz=>by unfold gotS;rw[if_pos hz];simp)
  have hc:∀ x∈Az C.L g,x.length≤1048576:=fun x hx=>by
    obtain⟨y,_,rfl⟩:=List.mem_map.1 hx
    cases e:findF C.L y with
    | none=>simp
    | some c=>exact h.cL c (Ec e).2
  have:=Kd hc
  rw[Ip] at this
  omega
theorem Bst.gn {C:CS} {M i:Nat} {F:List By} (h:Bst C M i F):∀ got z,C.next=some (got,z)→∀ x∈got,findF C.L x≠none:=fun got z e=>by
  obtain⟨X,hV,hN⟩:=h.vw
  rw[e] at hN;exact hN.2.2.1
theorem R4 {L all:List By} (hn:(L.map shaF).Nodup) (hs:∀ c∈L,c∈all):L.length≤all.length:=by
  have:=Fi hn (ks:=all.map shaF) fun z hz=>by
    obtain⟨c,hc,rfl⟩:=List.mem_map.1 hz;exact List.mem_map.2 ⟨c,hs c hc,rfl⟩
  simpa using this
theorem Ab7 {L F:List By} (h:∀ z,findF L z=findF F z):srt (L.map shaF)=srt (F.map shaF) :=
  Nj (Fh _) fun z=>by
    have hk:∀ G:List By,z∈G.map shaF↔findF G z≠none:=fun G=>by
      constructor
      · intro hz hn
        obtain⟨c,hc,e⟩:=List.mem_map.1 hz
        exact Ig.1 hn c hc e
      · intro hz
        obtain⟨c,hc⟩:=Option.ne_none_iff_exists'.1 hz
        obtain⟨e,hm⟩:=Ec hc
        exact List.mem_map.2 ⟨c,hm,e⟩
    rw[mem_srt,hk L,h z,← hk F]
theorem Zv {L:List By}:∀ h∈srt (L.map shaF),findF L h≠none:=fun h hh hn=>by
  obtain⟨c,hc,e⟩:=List.mem_map.1 (mem_srt.1 hh)
  exact Ig.1 hn c hc e
def pickL (xss:List By) (ps:By):List By:=if xss=[] then [] else (ps.take 10).map fun b=>xss.getD (b.toNat % xss.length) []
theorem Zf {xss:List By} {ps:By}:∀ x∈pickL xss ps,x∈xss:=fun x hx=>by
  unfold pickL at hx
  split at hx
  · cases hx
  · rename_i hn
    obtain⟨b,_,rfl⟩:=List.mem_map.1 hx
    exact C6 (z:=[]) (i:=b.toNat % xss.length) (Nat.mod_lt _ (by cases xss with | nil=>exact absurd rfl hn | cons _ _=>simp)) rfl
theorem Zg {xss:List By} {ps:By}:(pickL xss ps).length≤10:=by
  unfold pickL;split
  · simp
  · simp;omega
theorem Zq {l:List By} (h:msum l≤4000):∀ x∈l,x.length≤4000:=(Rk h).1
end Go.Proofs.Eng
end
section
set_option maxRecDepth 100000
set_option maxHeartbeats 4000000
namespace Go.Proofs.Eng
open Go.RowKit
open Extern.Stop (cell)
theorem fb33:Tryz.f33.body.isNone=false:=by kernel_rfl
theorem fb40:Tryz.f40.body.isNone=false:=by kernel_rfl
theorem fn33 : ngB Tryz.f33 = false := by kernel_rfl
theorem fn40 : ngB Tryz.f40 = false := by kernel_rfl
theorem Adr:Bg Tryz.prog 26 0=some (5,0):=by kernel_rfl
theorem Adq:Bg Tryz.prog 26 1=some (23,1):=by kernel_rfl
theorem us82:(Tryz.prog.underlying 82).isSome=true:=by kernel_rfl
end Go.Proofs.Eng
end
section
set_option maxRecDepth 100000
set_option maxHeartbeats 4000000
namespace Go.Proofs.Eng
open Go.RowKit
open Extern.Stop (cell)
theorem Q1 (xss:List By) (B:Nat) (p:Option Addr) (n c:Nat) (w:World) (hl:Sl kLo 23 B w p n c xss) (hBw:B≤w.heap.size) (ps:By) (e2 B2:Nat) (q:Option Addr) (m c2:Nat) (hp:Sl kByte e2 B2 w q m c2 ps) :
    Ret Tryz.prog 33 [.slice p n c,.slice q m c2] w (fun v w'=>(∃ q1 m1 c1,v = .slice q1 m1 c1∧Own kLo 23 B w.heap.size w' q1 m1 c1 (pickL xss ps))∧Ext w w'):=by
 have hX:=Ext.refl w
 refine eN 37 Tryz.func33 ?_
 refine Ab (Aa ?_)
 refine pA ?_
 refine Ac (t_n (Ab ?_))
 have hln:=hl.len
 have hlc:=hl.cap
 have hlf:=hl.fit
 have hpn:=hp.len
 have hpc:=hp.cap
 have hpf:=hp.fit
 refine Aa ?_
 refine pA ?_
 refine Ac (t_n (Ab (Ab (Aa ?_))))
 refine pA ?_
 refine Ac (t_n (Am ?_))
 refine Bi (ι:=Nat×Option Addr×Nat×Nat) [5,6,7,8,9,10,11,12,13,14,15,16,17,18,19,20,21,22,23,24,25,26,27,28,29,30,31,32,33,34,35] (fun (k,ql,ml,cl)=>[(5,.slice ql ml cl),(6,.int .i64 (k:Int))]) (fun (k,ql,ml,cl) w'=>Ext w w'∧(k≤m∧k≤10∧(n=0→k=0)∧Own kLo 23 B w.heap.size w' ql ml cl ((ps.take k).map fun b:UInt8=>xss.getD (b.toNat % xss.length) []))) (fun (k,ql,ml,cl)=>10 - k) ((0,none,0,0)) ⟨rfl,rfl,trivial⟩ ⟨hX,Nat.zero_le _,Nat.zero_le _,fun _=>rfl,by rw[List.take_zero];exact Own.nil _ _ _ _ _⟩ ?_
 rintro⟨k,ql,ml,cl⟩ GL0 w1 ⟨hE1,hk,hk2,hk3,hO⟩
 have hX:=hE1
 have hol:=hO.len
 rw[List.length_map,List.length_take] at hol
 refine Ab (Ab (Aa ?_))
 refine pM ?_
 refine pM ?_
 refine p1 (Ak u23 rfl) ?_
 refine p1 (Bv rfl rfl) ?_
 refine p1b (Ai (by conv=>lhs;whnf)) (fun hb3_4=>?_) (fun hb3_4=>?_)
 ·try simp only[dA,dB,dC,dD,dE,dF,dG,Int.not_lt,Int.not_le] at hb3_4
  refine gM 11 ?_
  refine g1 11 rfl rfl (Bv rfl rfl) ?_
  refine p1 (Ar rfl (by conv=>lhs;whnf)) ?_
  refine p1b (Ai (by conv=>lhs;whnf)) (fun hb3_8=>?_) (fun hb3_8=>?_)
  ·try simp only[dA,dB,dC,dD,dE,dF,dG,Int.not_lt,Int.not_le] at hb3_8
   refine gM 15 ?_
   refine g1 15 rfl rfl (Ak u22 rfl) ?_
   refine g1 15 rfl rfl (Da rfl rfl) ?_
   refine p1 (Ar rfl (by conv=>lhs;whnf)) ?_
   refine Ac (t_n ?_)
   refine As rfl (fun hc19=>?_) (fun hc19=>?_)
   ·try simp only[dA,dB,dC,dD,dE,dF,dG,Int.not_lt,Int.not_le] at hc19
    refine Ah (t_n (Ab (Am ?_)))
    obtain⟨q1,m1,c1,hck,hrow⟩:=hl.loAt ((ps.getD k 0).toNat % n) (Nat.mod_lt _ (by omega))
    refine Aa ?_
    refine pM ?_
    refine pM ?_
    refine pM ?_
    refine pM ?_
    refine p1 (Ev u23 sz5 rfl rfl ((hp.ext hX).adr Bz (by omega)) (by omega) (by omega)) ?_
    refine p1 (Ae un5 rfl ((hp.ext hX).byteAtI (k:Int) (by omega) (by omega))) ?_
    refine p1 (Cs u3 us5 rfl (Aj (by have:=(ps.getD ((k:Int)).toNat 0).toNat_lt;omega) (by have:=(ps.getD ((k:Int)).toNat 0).toNat_lt;omega))) ?_
    refine pM ?_
    refine p1 (Ak u22 rfl) ?_
    refine p1 ((Yl rfl rfl (by omega) (by omega)).cast (congrArg (Value.int .i64) (by simp:_=(((ps.getD k 0).toNat % n:Nat):Int)))) ?_
    refine p1 (Dc (i:=(ps.getD k 0).toNat % n) u22 sz23 rfl rfl ((hl.ext hX).adr Gi (by omega)) (Nat.mod_lt _ (by omega))) ?_
    refine p1 (Ae un23 rfl (hX.cell hck)) ?_
    have hXp:=hX.size
    refine Au u22 inf23 rfl (by decide) (fun base hb=>Ce (by rfl) base hb) ?_
    intro w2 g34 hN34
    have hE2:=hN34.ext
    have hX:=hX.ext hE2
    have hO:=hO.ext hE2
    have hJ:=Ab4 hN34 (hrow.ext hX) (Nat.le_trans hBw hXp)
    obtain⟨cssJ,hAJ,hsrJ⟩:=Ka u22 hJ Gi
    have hB1:=hX.size
    refine Cr (d:=kLo) ([xss.getD ((ps.getD k 0).toNat % n) []]) u22 inf23 rfl Gi rfl rfl hO (hsrJ) rfl (hAJ) (rfl) (by omega) (by omega) (by omega) (by omega) (by simp[kLo]) ?_
    intro p35 c35 w3 hO hM3
    have hX:=hX.mod hM3 (Nat.le_refl _)
    refine pA ?_
    refine Ac (b_n (t_n (Aa ?_)))
    refine pM ?_
    refine p1 (A1 rfl rfl (Aj (by omega) (by omega))) ?_
    refine pA ?_
    refine Ac ?_
    refine t_n (aK ((k+1,p35,ml+1,c35)) ⟨rfl,rfl,trivial⟩ ?_)
    exact⟨⟨hX,by omega,by omega,by omega,by rw[List.take_succ_eq_append_getElem (by omega),List.map_append,List.map_cons,List.map_nil];have e:=hO;rw[← hln,List.getD_eq_getElem?_getD (l:=ps),List.getElem?_eq_getElem (by omega)] at e;exact e⟩,by(dsimp only;omega)⟩
   try simp only[dA,dB,dC,dD,dE,dF,dG,Int.not_lt,Int.not_le] at hc19
   have hex:n=0∨k=m∨k=10:=by omega
   have hfin:(ps.take k).map (fun b:UInt8=>xss.getD (b.toNat % xss.length) [])=pickL xss ps:=by
     unfold pickL
     split
     · rename_i e;rw[hk3 (by rw[← hln,e];rfl)];rfl
     · rename_i e
       have hn0:n≠0:=fun q=>e (List.length_eq_zero_iff.1 (by omega))
       rcases hex with q | q | q
       · exact absurd q hn0
       · rw[List.take_of_length_le (by omega:ps.length≤k),List.take_of_length_le (by omega)]
       · rw[q]
   rw[hfin] at hO
   refine Ba (t_e (t_e (Bq (t_n (Ab (Aa ?_))))))
   refine pM ?_
   refine pA ?_
   refine Ac (t_n (Al ?_))
   refine eR1 ?_
   exact⟨⟨_,_,_,rfl,hO⟩,hX⟩
  try simp only[dA,dB,dC,dD,dE,dF,dG,Int.not_lt,Int.not_le] at hb3_8
  refine gF 15 ?_
  refine gF 15 ?_
  refine gF 15 ?_
  refine p1 (Ap rfl (by conv=>lhs;whnf)) ?_
  refine Ac (t_n ?_)
  refine c_f rfl ?_
  have hex:n=0∨k=m∨k=10:=by omega
  have hfin:(ps.take k).map (fun b:UInt8=>xss.getD (b.toNat % xss.length) [])=pickL xss ps:=by
    unfold pickL
    split
    · rename_i e;rw[hk3 (by rw[← hln,e];rfl)];rfl
    · rename_i e
      have hn0:n≠0:=fun q=>e (List.length_eq_zero_iff.1 (by omega))
      rcases hex with q | q | q
      · exact absurd q hn0
      · rw[List.take_of_length_le (by omega:ps.length≤k),List.take_of_length_le (by omega)]
      · rw[q]
  rw[hfin] at hO
  refine Ba (t_e (t_e (Bq (t_n (Ab (Aa ?_))))))
  refine pM ?_
  refine pA ?_
  refine Ac (t_n (Al ?_))
  refine eR1 ?_
  exact⟨⟨_,_,_,rfl,hO⟩,hX⟩
 try simp only[dA,dB,dC,dD,dE,dF,dG,Int.not_lt,Int.not_le] at hb3_4
 refine gF 11 ?_
 refine gF 11 ?_
 refine p1 (Ap rfl (by conv=>lhs;whnf)) ?_
 refine pM ?_
 refine gF 15 ?_
 refine gF 15 ?_
 refine gF 15 ?_
 refine p1 (Ap rfl (by conv=>lhs;whnf)) ?_
 refine Ac (t_n ?_)
 refine c_f rfl ?_
 have hex:n=0∨k=m∨k=10:=by omega
 have hfin:(ps.take k).map (fun b:UInt8=>xss.getD (b.toNat % xss.length) [])=pickL xss ps:=by
   unfold pickL
   split
   · rename_i e;rw[hk3 (by rw[← hln,e];rfl)];rfl
   · rename_i e
     have hn0:n≠0:=fun q=>e (List.length_eq_zero_iff.1 (by omega))
     rcases hex with q | q | q
     · exact absurd q hn0
     · rw[List.take_of_length_le (by omega:ps.length≤k),List.take_of_length_le (by omega)]
     · rw[q]
 rw[hfin] at hO
 refine Ba (t_e (t_e (Bq (t_n (Ab (Aa ?_))))))
 refine pM ?_
 refine pA ?_
 refine Ac (t_n (Al ?_))
 refine eR1 ?_
 exact⟨⟨_,_,_,rfl,hO⟩,hX⟩
end Go.Proofs.Eng
end
section
namespace Go.Proofs.Eng
open Go.RowKit
structure FI (all:List By) (M k:Nat) (C:CS) (F:List By):Prop where
  b:Bst C M (70+12 * k) F
  u:Up0 C.D
  s:C.seg≤1+k
  i:C.index.length≤4000
  L:∀ c∈C.L,c∈all
  F:∀ c∈F,c∈all
section
variable {all F : List By} {M k : Nat} {C : CS}
theorem FI.len (h:FI all M k C F):C.L.length≤all.length:=R4 h.b.nL h.L
theorem FI.cn (h:FI all M k C F) (ha:all.length≤20):CN C (70+12 * k):=h.b.cn (by have:=h.len;omega)
theorem Adt (most:Int) (hm:M=(max 0 (min most 16777216)).toNat) :
    ((openC (newD most)).2=0∧FI all M 0 (openC (newD most)).1 []∧(openC (newD most)).1.L=[]∧(openC (newD most)).1.index=[])∨((openC (newD most)).2=21∧M<64):=by
  rcases Adl most M hm with ⟨a,b,c,d,e,f,g,h⟩ | h
  · exact .inl ⟨a,⟨b.rest (by omega),h,by omega,by rw[d];exact Nat.zero_le _,(by rw[c];exact fun _ h=>by cases h),fun _ h=>by cases h⟩,c,d⟩
  · exact .inr h
theorem Ads (h:FI all M k C F) (hM:M≤16777216) (hal:∀ c∈all,c.length≤4000) {cs:List By} (hc:∀ c∈cs,c∈all) {ix:By} (hi:ix.length≤4000) :
    ((putC C cs ix).2=0∧FI all M (k+1) (putC C cs ix).1 (F++Av C.L cs)∧(putC C cs ix).1.L=C.L++Av C.L cs∧(putC C cs ix).1.index=ix) ∨
    ((putC C cs ix).2 = 21 ∧ FI all M (k + 1) (putC C cs ix).1 F ∧ (putC C cs ix).1.L = C.L ∧ (putC C cs ix).1.index = C.index ∧ (putC C cs ix).1.size = C.size ∧
      M<(manB ⟨C.seg,C.size,C.index⟩).length+C.size+(segB (Av C.L cs)).length+(manB ⟨C.seg,C.size+(segB (Av C.L cs)).length,ix⟩).length+nxL C.L C.next):=by
  have hs:=h.s
  have hfr:∀ c∈Av C.L cs,c∈all:=fun c q=>hc c (Dz cs C.L c q).2
  rcases Acq h.b (cs:=cs) (ix:=ix) (fun c q=>by have:=hal c (hc c q);omega) (by omega) hM with ⟨a,b,c,d,e,f⟩ | ⟨a,b,c,d,e⟩ | ⟨_,b,_⟩
  · exact .inl ⟨a,⟨b.rest (by omega),f h.u,by omega,by rw[d];exact hi,(by rw[c];exact fun x q=>(List.mem_append.1 q).elim (h.L x) (hfr x)),fun x q=>(List.mem_append.1 q).elim (h.F x) (hfr x)⟩,c,d⟩
  · refine .inr ⟨a, ⟨b.rest (by omega), d h.u, ?_, ?_, ?_, h.F⟩, ?_, ?_, ?_, e⟩
    · rw[c];show C.seg≤_;omega
    · rw[c];exact h.i
    · rw[c];exact h.L
    · rw[c]
    · rw[c]
    · rw[c]
  · exact absurd h.u b
theorem Acl (h:FI all M k C F) (hk:k≤1000) (hM:M≤16777216) {live:List Hash} (hl:∀ h∈live,findF C.L h≠none) :
    ((stepF C live).2=(false,0)∧FI all M (k+1) (stepF C live).1 F∧(stepF C live).1.L=C.L∧(stepF C live).1.index=C.index∧((srt (srt live)).length≤10→rankS (srt live) (stepF C live).1.next<rankS (srt live) C.next)) ∨
    ((stepF C live).2=(true,0)∧(∃ G,FI all M (k+1) (stepF C live).1 G∧LiveP C live G)∧LiveP C live (stepF C live).1.L∧(stepF C live).1.index=C.index∧(stepF C live).1.next=none) ∨
    ((stepF C live).2 = (false, 21) ∧ FI all M (k + 1) (stepF C live).1 F ∧ (stepF C live).1.L = C.L ∧ (stepF C live).1.index = C.index ∧ (stepF C live).1.size = C.size ∧
      ∃ Z,(∃ l:List Hash,Z=(segB (Az C.L l)).length∧l.Nodup∧∀ h∈l,findF C.L h≠none)∧M<(manB ⟨C.seg,C.size,C.index⟩).length+C.size+Z+(C.index.length+35)):=by
  have hs:=h.s
  rcases Aaz h.b hM hl (by omega) with ⟨a,b,c,d,e⟩ | ⟨a,⟨G,b,b2⟩,c,d,e,f,g⟩ | ⟨a,b,c,d,e⟩ | ⟨_,b,_⟩
  · refine .inl ⟨a, ⟨b.rest (by omega), d h.u, ?_, ?_, ?_, h.F⟩, ?_, ?_, e⟩
    · rw[c];show C.seg≤_;omega
    · rw[c];exact h.i
    · rw[c];exact h.L
    · rw[c]
    · rw[c]
  · exact .inr (.inl ⟨a,⟨G,⟨b.rest (by omega),g h.u,by omega,by rw[d];exact h.i,fun x q=>h.L x (c.2.2 x q),fun x q=>h.L x (b2.2.2 x q)⟩,b2⟩,c,d,f⟩)
  · refine .inr (.inr ⟨a, ⟨b.rest (by omega), d h.u, ?_, ?_, ?_, h.F⟩, ?_, ?_, ?_, e⟩)
    · rw[c];show C.seg≤_;omega
    · rw[c];exact h.i
    · rw[c];exact h.L
    · rw[c]
    · rw[c]
    · rw[c]
  · exact absurd h.u b
theorem Ww (h:FI all M k C F) (hk:k≤1000):(openC C.D).2=0∧Bst (openC C.D).1 M (70+12 * k+65) F∧(openC C.D).1.L=F∧srt ((openC C.D).1.L.map shaF)=srt (C.L.map shaF)∧(openC C.D).1.index=C.index∧(openC C.D).1.size=C.size∧(openC C.D).1.next=none∧(openC C.D).1.seg=C.seg:=by
  obtain⟨V,hV,hR⟩:=h.b.rec_
  have hs:=h.s
  rcases Za hV h.b.up hR (by show C.seg+1≤_;omega) h.b.nF with ⟨a,b,c,d,e,f,g,_⟩ | ⟨_,b,_⟩
  · exact⟨a,b,c,by rw[c];exact(Ab7 h.b.eq).symm,d,f,g,e⟩
  · exact absurd h.u b
end
def KeyE (L H:List By):Prop:=∀ z,z∈L.map shaF↔z∈H.map shaF
theorem KeyE.trans {A B D:List By} (h:KeyE A B) (h2:KeyE B D):KeyE A D:=fun z=>(h z).trans (h2 z)
theorem KeyE.symm {A B:List By} (h:KeyE A B):KeyE B A:=fun z=>(h z).symm
theorem Add (l:List Hash):(srt l).length≤l.length:=Fi (Fh l).nodup fun z hz=>mem_srt.1 hz
theorem Acm {all F:List By} {M k:Nat} {C:CS} (h:FI all M k C F) (hM:M≤16777216) (hal:∀ c∈all,c.length≤4000) {cs:List By} (hc:∀ c∈cs,c∈all) {ix:By} (hi:ix.length≤4000) :
    ((putC C cs ix).2=0∧∃ F2,FI all M (k+1) (putC C cs ix).1 F2)∨((putC C cs ix).2=21∧FI all M (k+1) (putC C cs ix).1 F∧(putC C cs ix).1.L=C.L∧(putC C cs ix).1.index=C.index∧(putC C cs ix).1.size=C.size):=by
  rcases Ads h hM hal hc hi with ⟨a,b,_⟩ | ⟨a,b,c,d,e,_⟩
  · exact .inl ⟨a,_,b⟩
  · exact .inr ⟨a,b,c,d,e⟩
theorem Aak {all F:List By} {M k:Nat} {C:CS} (h:FI all M k C F) (hk:k≤1000) (hM:M≤16777216) :
    ((stepF C (srt (C.L.map shaF))).2.2=0∧∃ F2,FI all M (k+1) (stepF C (srt (C.L.map shaF))).1 F2)∨((stepF C (srt (C.L.map shaF))).2.2=21∧FI all M (k+1) (stepF C (srt (C.L.map shaF))).1 F∧(stepF C (srt (C.L.map shaF))).1.L=C.L∧(stepF C (srt (C.L.map shaF))).1.index=C.index∧(stepF C (srt (C.L.map shaF))).1.size=C.size):=by
  rcases Acl h hk hM (live:=srt (C.L.map shaF)) Zv with ⟨a,b,_⟩ | ⟨a,⟨G,b,_⟩,_⟩ | ⟨a,b,c,d,e,_⟩
  · exact .inl ⟨by rw[a],_,b⟩
  · exact .inl ⟨by rw[a],_,b⟩
  · exact .inr ⟨by rw[a],b,c,d,e⟩
theorem Abt {w w':World} {B0 B Z:Nat} {q:Option Addr} {n c:Nat} {xs:By} (h:Own kByte 5 B B0 w' q n c xs) (hZ:Z≤B0):Out (sub w Z) w' q n c xs :=
  Out.ofSl h.sl fun hne hs=>by
    have hn:0<n:=by
      have:=h.len
      cases xs with
      | nil=>exact absurd rfl hne
      | cons _ _=>simp at this;omega
    obtain⟨g,_,_,e,h2,_⟩:=h.block hn
    subst e
    have h3:g<Z:=hs.2
    omega
end Go.Proofs.Eng
end
section
set_option maxRecDepth 100000
set_option maxHeartbeats 4000000
namespace Go.Proofs.Eng
open Go.RowKit
open Extern.Stop (cell)
theorem N9 (mo:Int) (hm0:0≤mo) (hm1:mo≤65535) (all:List By) (p q:Option Addr) (n c m c2:Nat) (w:World) (hl:Sl kLo 23 w.heap.size w p n c all) (acts:List CAct) (ha:Sl kCA 26 w.heap.size w q m c2 acts) (hg:Gt w) :
    Ret Tryz.prog 7 [.int .u16 mo,.slice p n c,.slice q m c2] w (fun v w'=>v = .bool true∧Ext w w'):=by
 have hgs:=hg.size
 have hX:=Ext.refl w
 refine eN 146 Tryz.func7 ?_
 refine Ab (Aa ?_)
 refine pA (Ac (t_n (Ab (Ab (Aa ?_)))))
 refine pM (pM ?_)
 refine Ag Tryz.func9 fn9 fb9 (Xo _ _ _ _ _ _ (hl.ext hX) _ _ _ _ _ (ha.ext hX)) rfl ?_
 rintro v1 w1 ⟨⟨bf,rfl,hbf⟩,hE1⟩
 have hX:=hX.ext hE1
 refine p1 (Ff rfl) ?_
 refine p1b (Ai (by conv=>lhs;whnf)) (fun hb1_4=>?_) (fun hb1_4=>?_)
 ·refine gF 21 (gF 21 (gF 21 ?_))
  refine p1 (Ar rfl (by conv=>lhs;whnf)) ?_
  refine Ac (t_n ?_)
  refine c_t rfl ?_
  refine Ab (Aa ?_)
  refine Ag Tryz.func11 fn11 fb11 (Gh _ (hg.ext hX)) rfl ?_
  rintro v2 w2 ⟨rfl,hE2⟩
  have hX:=hX.ext hE2
  refine pA (Ac (t_n (Al (t_r ?_))))
  refine eR1 ?_
  exact⟨rfl,hX⟩
 have hbt:bf=true:=by simpa using hb1_4
 obtain⟨hf1,hf2,hf3⟩:=hbf hbt
 obtain⟨hle,_⟩:=Rk (l:=all) (by omega)
 have hixs:=Zq (l:=acts.map CAct.index) (by omega)
 have hln:=hl.len
 have hlc:=hl.cap
 have han:=ha.len
 have hac:=ha.cap
 have haf:=ha.fit
 refine gM 21 ?_
 refine Be 21 rfl rfl ?_
 refine Ag Tryz.func10 fn10 fb10 (Tp all _ p n c _ (hl.ext hX) hX.size hle (hg:=hg.ext hX)) rfl ?_
 rintro v3 w3 ⟨⟨ba,rfl,hba⟩,hE3⟩
 have hX:=hX.ext hE3
 refine g1 21 rfl rfl (Ff rfl) ?_
 refine p1 (Ap rfl (by conv=>lhs;whnf)) ?_
 refine Ac (t_n ?_)
 refine Iq rfl (fun hc25=>?_) (fun hc25=>?_)
 ·refine Ab (Aa ?_)
  refine Ag Tryz.func11 fn11 fb11 (Gh _ (hg.ext hX)) rfl ?_
  rintro v4 w4 ⟨rfl,hE4⟩
  have hX:=hX.ext hE4
  refine pA (Ac (t_n (Al (t_r ?_))))
  refine eR1 ?_
  exact⟨rfl,hX⟩
 refine Ah (t_n (Ab (Aa ?_)))
 refine pM ?_
 refine p1 (Cs u3 us82 rfl (Aj (by omega) (by omega))) ?_
 have hXs1:=hX.size
 refine Ag Tryz.func13 fn13 fb13 (T9 mo _) rfl ?_
 rintro v5 w5 ⟨⟨gd,rfl,hD⟩,hE5⟩
 have hX:=hX.ext hE5
 have hD:Dsk (since w) _ gd (newD mo):=hD.mono (fun k _ h=>h.elim False.elim fun q=>Nat.le_trans hXs1 q.1)
 refine pA (Ac (t_n (Ab (Aa ?_))))
 refine pM ?_
 have hXs:=hX.size
 refine Ag Tryz.func12 fn12 fb12 (Fk gd (since w) (newD mo) _ hD (Ri mo) (by show 0<_;omega) (by show (-1:Int)≤_;omega) (fun x hx=>by cases hx) (fun k h=>Nat.le_trans hgs (show w.heap.size≤k from h)) (hg.ext hX)) rfl ?_
 rintro v6 w6 ⟨⟨pv6,rfl,hor6⟩,hM6⟩
 have hX:=hX.modS hM6 (Nm w)
 obtain⟨M,hM⟩:∃ m,m=(max 0 (min mo 16777216)).toNat:=⟨_,rfl⟩
 have hnew:=Adt (all:=all) mo hM
 obtain⟨C1,hC1⟩:∃ c,c=(openC (newD mo)).1:=⟨_,rfl⟩
 obtain⟨eo,heo⟩:∃ e,e=(openC (newD mo)).2:=⟨_,rfl⟩
 rw[← hC1,← heo] at hnew hor6
 rw[← heo]
 have hpo:∃ po,pv6 = .pointer po∧((po=none∧eo=21∧M<64)∨(eo=0∧∃ g,po=some ⟨g,0,none⟩∧Cst (since w) w6 g gd C1∧FI all M 0 C1 [])):=by
   rcases hnew with ⟨h1,h2,_⟩ | ⟨h1,h2⟩
   · obtain ⟨_, g, e, h3⟩ := hor6.resolve_right (fun h => h.1 h1)
     exact⟨_,e,.inr ⟨h1,g,rfl,h3.mono (fun j _ h=>h.elim (fun h=>h) fun q=>Nat.le_trans hXs q.1),h2⟩⟩
   · obtain ⟨_, e, _⟩ := hor6.resolve_left (fun h => by have := h.1; omega)
     exact⟨_,e,.inl ⟨rfl,h1,h2⟩⟩
 obtain⟨po,rfl,hpo⟩:=hpo
 refine pM ?_
 refine p1 (Ao rfl rfl) ?_
 refine p1 (Ao rfl rfl) ?_
 refine pA (pA (Ac (t_n (Ab (Ab (Aa ?_))))))
 refine pM ?_
 refine p1 (A9 u30 rfl rfl) ?_
 refine Ac (t_n ?_)
 refine As rfl (fun hc36=>?_) (fun hc36=>?_)
 ·obtain⟨_,he21,hm64⟩:=hpo.resolve_right (fun h=>by obtain⟨_,g,e,_⟩:=h;rw[hc36] at e;cases e)
  refine Ab (Aa ?_)
  refine pM ?_
  refine p1 ((Bs rfl rfl).cast (congrArg Value.bool (decide_eq_true (he21)))) ?_
  refine pM (gM 39 ?_)
  refine g1 39 rfl rfl ((Bv rfl rfl).cast (congrArg Value.bool (decide_eq_true (by omega)))) ?_
  refine p1 (Ar rfl (by conv=>lhs;whnf)) ?_
  refine pM ?_
  refine Be 43 rfl rfl ?_
  refine Ag Tryz.func11 fn11 fb11 (Gh _ (hg.ext hX)) rfl ?_
  rintro v7 w7 ⟨rfl,hE7⟩
  have hX:=hX.ext hE7
  refine p1 (Ar rfl (by conv=>lhs;whnf)) ?_
  refine pA (Ac (t_n (Al (t_r ?_))))
  refine eR1 ?_
  exact⟨rfl,hX⟩
 obtain⟨he0,g,rfl,hC,hF⟩:=hpo.resolve_left (fun h=>hc36 h.1)
 refine Ah (t_n (Ab (Ab (Aa ?_))))
 refine pA (Ac (t_n (Am ?_)))
 refine Bi (ι:=Nat×CS) [6,10,11,12,13,14,15,16,46,47,48,49,50,51,52,53,54,55,56,57,58,59,60,61,62,63,64,65,66,67,68,69,70,71,72,73,74,75,76,77,78,79,80,81,82,83,84,85,86,87,88,89,90,91,92,93,94,95,96,97,98,99,100,101,102,103,104,105,106,107,108,109,110,111,112,113,114,115,116,117,118,119,120,121,122,123,124,125,126,127,128,129,130,131,132,133,134,135,136,137,138,139,140,141,142,143,144] (fun (k,C)=>[(10,.int .i64 (k:Int))]) (fun (k,C) w'=>Ext w w'∧(k≤m∧Cst (since w) w' g gd C∧∃ F,FI all M k C F)) (fun (k,C)=>m - k) ((0,C1)) ⟨rfl,trivial⟩ ⟨hX,Nat.zero_le _,hC,_,hF⟩ ?_
 rintro⟨k,C⟩ GL0 w8 ⟨hE8,hk,hC,hF⟩
 have hX:=hE8
 obtain⟨F,hF⟩:=hF
 have hcn:=hF.cn hf1
 obtain⟨Z,hZ⟩:∃ z,z=w8.heap.size:=⟨_,rfl⟩
 have hC:Cst (sub w Z) w8 g gd C:=by rw[hZ];exact hC.sub (fun j h=>h)
 obtain⟨Sd,r,μ,pi,ni,ci,nx,hCX⟩:=hC
 have hXr:=Ext.refl w8
 have hlc20:=hF.len
 refine Ab (Ab (Aa ?_))
 refine pM (pM ?_)
 refine p1 (Ak u27 rfl) ?_
 refine p1 (Bv rfl rfl) ?_
 refine Ac (t_n ?_)
 refine As rfl (fun hc49=>?_) (fun hc49=>?_)
 ·refine Ah (t_n (Ab (Am (Ab (Aa ?_)))))
  refine pM ?_
  refine Ag Tryz.func30 fn30 fb30 (E0 g gd r _ Sd μ pi nx ni ci C (70+12 * k) _ hCX hcn) rfl ?_
  rintro v9 w9 ⟨⟨ql,ml,cl,rfl,hK⟩,hE9⟩
  have hX:=hX.ext hE9
  have hCX:=hCX.ext hE9
  have hXr:=hXr.ext hE9
  have hKs:=hK.sl
  have hml:=hK.len
  have hmk:=Add (C.L.map shaF)
  rw[List.length_map] at hmk
  refine pM ?_
  have hXz:=hXr.size
  refine Ag Tryz.func31 fn31 fb31 (El g gd r _ Sd μ pi nx ni ci C (70+12 * k) _ hCX hcn) rfl ?_
  rintro v10 w10 ⟨⟨qi,mi,cj,rfl,hO⟩,hE10⟩
  have hX:=hX.ext hE10
  have hCX:=hCX.ext hE10
  have hKs:=hKs.ext hE10
  have hIx:=Abt (w:=w) (Z:=Z) hO (by omega)
  refine pM ?_
  refine Ag Tryz.func15 fn15 fb15 (Ez g gd r _ Sd μ pi nx ni ci C (70+12 * k) _ hCX hcn) rfl ?_
  rintro v11 w11 ⟨rfl,hE11⟩
  have hX:=hX.ext hE11
  have hCX:=hCX.ext hE11
  have hKs:=hKs.ext hE11
  have hIx:=hIx.ext hE11
  refine pA (pA (pA (Ac (t_n (Ab (Aa ?_))))))
  refine pA (Ac (t_n (Ab (Ab ?_))))
  obtain⟨pa1,na1,ca1,pa2,na2,ca2,pa3,na3,ca3,hra,hr1,hr2,hr3,hb1,hb2⟩:=ha.caAt k (by omega)
  have hak:(acts.getD k default).index.length≤4000:=hixs _ (List.mem_map.2 ⟨_,C6 (z:=default) (xs:=acts) (i:=k) (by omega) rfl,rfl⟩)
  have hku:=(acts.getD k default).k.toNat_lt
  refine Aa ?_
  refine pM (pM ?_)
  refine p1 (Ev u27 sz26 rfl rfl ((ha.ext hX).adr Mx (by omega)) (by omega) (by omega)) ?_
  refine p1 (Ad Adr sz5 rfl) ?_
  refine p1 (Ae un5 rfl (hX.cell (hra 0 _ rfl))) ?_
  refine p1 (Yl rfl rfl (by omega) (by omega)) ?_
  refine p1 (Bv rfl rfl) ?_
  refine Ac (t_n ?_)
  refine As rfl (fun hc64=>?_) (fun hc64=>?_)
  ·refine Bx (fun w1 w2=>ModS (sub w Z) EC w1 w2) mixed ?_
   intro w12 hE12
   have hX:=hX.ext hE12
   have hCX:=hCX.ext hE12
   have hKs:=hKs.ext hE12
   have hIx:=hIx.ext hE12
   have hSr13:(fun w1 w2=>ModS (sub w Z) EC w1 w2) w12 w12:=ModS.refl _ _ _
   refine hT 0 rfl hSr13 (fun wS hSS=>by(exact(Ai (by conv=>lhs;whnf)))) ?_
   refine hT 1 rfl hSr13 (fun wS hSS=>by(exact(Ai (by conv=>lhs;whnf)))) ?_
   refine hT 2 rfl hSr13 (fun wS hSS=>by(exact(Ai (by conv=>lhs;whnf)))) ?_
   refine hT 3 rfl hSr13 (fun wS hSS=>by(exact(Ai (by conv=>lhs;whnf)))) ?_
   refine hT 4 rfl hSr13 (fun wS hSS=>by(exact(Ev u27 sz26 rfl rfl ((ha.ext hX).adr Mx (by omega)) (by omega) (by omega)))) ?_
   refine hT 5 rfl hSr13 (fun wS hSS=>by(exact(Ad Adq sz23 rfl))) ?_
   refine hT 6 rfl hSr13 (fun wS hSS=>by(have hX:=hX.modS hSS (fun j h=>h.1);exact(Ae un23 rfl (hX.cell (hra 1 _ rfl))))) ?_
   refine hT 8 rfl hSr13 (fun wS hSS=>by(exact(Ai (by conv=>lhs;whnf)))) ?_
   refine hT 9 rfl hSr13 (fun wS hSS=>by(exact(Ai (by conv=>lhs;whnf)))) ?_
   refine hT 10 rfl hSr13 (fun wS hSS=>by(exact(Ev u27 sz26 rfl rfl ((ha.ext hX).adr Mx (by omega)) (by omega) (by omega)))) ?_
   refine hT 11 rfl hSr13 (fun wS hSS=>by(exact(Ad Aag sz23 rfl))) ?_
   refine hT 12 rfl hSr13 (fun wS hSS=>by(have hX:=hX.modS hSS (fun j h=>h.1);exact(Ae un23 rfl (hX.cell (hra 2 _ rfl))))) ?_
   refine h1L 7 (fun Q7 hQ7=>?_)
   refine Ag Tryz.func33 fn33 fb33 (Q1 all w.heap.size p n c _ (hl.ext hX) hX.size (acts.getD k default).picks _ _ _ _ _ (hr1.ext hX).sl5) rfl ?_
   rintro v13 w13 ⟨⟨qp,mp,cp,rfl,hP⟩,hE13⟩
   have hX:=hX.ext hE13
   have hCX:=hCX.ext hE13
   have hKs:=hKs.ext hE13
   have hIx:=hIx.ext hE13
   have hSr13:=hSr13.ext hE13
   refine An hQ7 ⟨hSr13,?_⟩
   refine h1L 13 (fun Q13 hQ13=>?_)
   have hpl:=hP.len
   have hp10:=Zg (xss:=all) (ps:=(acts.getD k default).picks)
   refine Ag Tryz.func14 fn14 fb14 (Pv g gd r (sub w Z) Sd μ pi nx ni ci C (70+12 * k) _ hCX hcn (fun j h=>Nat.le_trans hgs h.1) (hg.ext hX) (by omega) (pickL all (acts.getD k default).picks) _ _ _ _ hP.sl.loSl hX.size (by omega) (acts.getD k default).index _ _ _ (Out.ofSl (hr2.ext hX).sl5 (fun hne h=>by have:=hr2.low hne;have:=h.1;omega))) rfl ?_
   rintro v14 w14 ⟨rfl,hC,hM14⟩
   have hXs2:=hX.size
   have hX:=hX.modS hM14 (fun j h=>h.1)
   have hIx:=hIx.modS hM14
   have hKs:=hKs.modS hM14 (fun _ _=>Nat.zero_le _) (by decide)
   have hC:Cst (since w) w14 g gd (putC C (pickL all (acts.getD k default).picks) (acts.getD k default).index).1:=hC.mono (fun j _ h=>h.elim (fun h=>h.1) fun q=>Nat.le_trans hXs2 q.1)
   have hout:=Acm hF (by omega) hle (fun x hx=>Zf x hx) hak (cs:=pickL all (acts.getD k default).picks)
   obtain⟨C2,hC2⟩:∃ c,c=(putC C (pickL all (acts.getD k default).picks) (acts.getD k default).index).1:=⟨_,rfl⟩
   obtain⟨no,hno⟩:∃ e,e=(putC C (pickL all (acts.getD k default).picks) (acts.getD k default).index).2:=⟨_,rfl⟩
   rw[← hC2,← hno] at hout
   rw[← hC2] at hC
   rw[← hno]
   have hSr13:=hSr13.trans hM14 (fun _ _ h=>h)
   refine An hQ13 ⟨hSr13,?_⟩
   refine hT 14 rfl hSr13 (fun wS hSS=>by(exact(A0 (by conv=>lhs;whnf)))) ?_
   refine Bo (by kernel_rfl) ?_
   refine t_n (Ab (Ab (Aa ?_)))
   refine pM ?_
   refine p1 (Bs rfl rfl) ?_
   refine Ac (t_n ?_)
   refine As rfl (fun hc86=>?_) (fun hc86=>?_)
   ·obtain⟨_,F2,hF2⟩:=hout.resolve_right (fun h=>by have:=h.1;omega)
    refine Ba (t_e (Bq (t_n (Aa ?_))))
    refine pM ?_
    refine p1 ((A1 rfl rfl (Aj (by omega) (by omega))).cast (congrArg (Value.int .i64) (by omega:_=((k+1:Nat):Int)))) ?_
    refine pA (Ac ?_)
    refine t_n (aK ((k+1,C2)) ⟨rfl,trivial⟩ ?_)
    exact⟨⟨hX,by omega,(by exact hC),⟨_,hF2⟩⟩,by(dsimp only;omega)⟩
   obtain⟨hn21,hF2,hl2,hi2,hz2⟩:=hout.resolve_left (fun h=>hc86 h.1)
   obtain⟨ho1,ho2,ho3,ho4,ho5,ho6,ho7,ho8⟩:=Ww hF2 (by omega)
   have hcn2:=hF2.cn hf1
   have hlc2:=hF2.len
   have hcn3:=ho2.cn (by rw[ho3];have:=R4 hF2.b.nF hF2.F;omega)
   have hCq:=hC
   obtain⟨Sd2,r2,μ2,pi2,ni2,ci2,nx2,hCY⟩:=hCq
   have hCYc:=hCY
   have hIxc:=hIx
   have hKsc:=hKs
   have hXsc:=hX.size
   refine Ah (t_n (Ab (Aa ?_)))
   refine pM ?_
   refine Ag Tryz.func40 fn40 fb40 (Oz gd Sd2 C2.D _ hCY.d hcn2.good.ok) rfl ?_
   rintro v15 w15 ⟨⟨g2,rfl,hD2⟩,hE15⟩
   have hX:=hX.ext hE15
   have hIx:=hIx.ext hE15
   have hKs:=hKs.ext hE15
   have hXc:=hE15
   refine Ag Tryz.func12 fn12 fb12 (Fk g2 _ C2.D _ hD2 hcn2.good.ok (Nat.lt_of_le_of_lt hcn2.good.steps (by omega)) hcn2.good.left hcn2.good.names (fun j h=>Nat.le_trans hgs (Nat.le_trans hXsc h)) (hg.ext hX)) rfl ?_
   rintro v16 w16 ⟨⟨pv16,rfl,hor16⟩,hM16⟩
   obtain⟨ho9,g3,rfl,hCt⟩:=hor16.resolve_right (fun h=>h.1 ho1)
   rw[ho9]
   have hX:=hX.modS hM16 (fun j h=>Nat.le_trans hXsc h)
   have hXc:=hXc.modS hM16 (fun j h=>h)
   have hCY:=hCYc.ext hXc
   have hIx:=hIxc.ext hXc
   have hKs:=hKsc.ext hXc
   obtain⟨Se,r3,μ3,pi3,ni3,ci3,nx3,hCT⟩:=hCt
   obtain⟨C3,hC3⟩:∃ c,c=(openC C2.D).1:=⟨_,rfl⟩
   rw[← hC3] at hCT ho3 ho4 ho5 ho6 hcn3
   refine pM ?_
   refine p1 (Ao rfl rfl) ?_
   refine p1 (Ao rfl rfl) ?_
   refine pA (pA (Ac (t_n (Ab ?_))))
   refine Bx (fun w1 w2=>Ext w1 w2) mixed ?_
   intro w17 hE17
   have hX:=hX.ext hE17
   have hCY:=hCY.ext hE17
   have hIx:=hIx.ext hE17
   have hKs:=hKs.ext hE17
   have hCT:=hCT.ext hE17
   have hSr17:(fun w1 w2=>Ext w1 w2) w17 w17:=Ext.refl w17
   have hIx0:=hIx.sl5
   refine hT 0 rfl hSr17 (fun wS hSS=>by(exact(Ai (by conv=>lhs;whnf)))) ?_
   refine hT 1 rfl hSr17 (fun wS hSS=>by(exact((A4 rfl rfl).cast (congrArg Value.bool (decide_eq_false (by rw[hn21];simp)))))) ?_
   refine hT 2 rfl hSr17 (fun wS hSS=>by(exact(Ai (by conv=>lhs;whnf)))) ?_
   refine Aw 3 95 rfl rfl rfl (by kernel_rfl) (by kernel_rfl) (by kernel_rfl) hSr17 (fun wS hSS=>by(have hX:=hX.ext hSS;have hCY:=hCY.ext hSS;have hIx:=hIx.ext hSS;have hKs:=hKs.ext hSS;have hCT:=hCT.ext hSS;exact(Ai (by conv=>lhs;whnf)))) ?_
   refine Aw 4 95 rfl rfl rfl (by kernel_rfl) (by kernel_rfl) (by kernel_rfl) hSr17 (fun wS hSS=>by(have hX:=hX.ext hSS;have hCY:=hCY.ext hSS;have hIx:=hIx.ext hSS;have hKs:=hKs.ext hSS;have hCT:=hCT.ext hSS;exact((A4 rfl rfl).cast (congrArg Value.bool (decide_eq_false (by simp)))))) ?_
   refine hT 5 rfl hSr17 (fun wS hSS=>by(exact(Ap rfl (by conv=>lhs;whnf)))) ?_
   refine hT 6 rfl hSr17 (fun wS hSS=>by(exact(Ai (by conv=>lhs;whnf)))) ?_
   refine Aw 7 99 rfl rfl rfl (by kernel_rfl) (by kernel_rfl) (by kernel_rfl) hSr17 (fun wS hSS=>by(have hX:=hX.ext hSS;have hCY:=hCY.ext hSS;have hIx:=hIx.ext hSS;have hKs:=hKs.ext hSS;have hCT:=hCT.ext hSS;exact(Ai (by conv=>lhs;whnf)))) ?_
   refine Aw 8 99 rfl rfl rfl (by kernel_rfl) (by kernel_rfl) (by kernel_rfl) hSr17 (fun wS hSS=>by(have hX:=hX.ext hSS;have hCY:=hCY.ext hSS;have hIx:=hIx.ext hSS;have hKs:=hKs.ext hSS;have hCT:=hCT.ext hSS;exact((A9 u30 rfl rfl).cast (congrArg Value.bool (decide_eq_false (by simp)))))) ?_
   refine hT 9 rfl hSr17 (fun wS hSS=>by(exact(Ap rfl (by conv=>lhs;whnf)))) ?_
   refine hT 10 rfl hSr17 (fun wS hSS=>by(exact(Ai (by conv=>lhs;whnf)))) ?_
   refine Aw 11 103 rfl rfl rfl (by kernel_rfl) (by kernel_rfl) (by kernel_rfl) hSr17 (fun wS hSS=>by(have hX:=hX.ext hSS;have hCY:=hCY.ext hSS;have hIx:=hIx.ext hSS;have hKs:=hKs.ext hSS;have hCT:=hCT.ext hSS;exact(Ai (by conv=>lhs;whnf)))) ?_
   refine Aw 13 103 rfl rfl rfl (by kernel_rfl) (by kernel_rfl) (by kernel_rfl) hSr17 (fun wS hSS=>by(have hX:=hX.ext hSS;have hCY:=hCY.ext hSS;have hIx:=hIx.ext hSS;have hKs:=hKs.ext hSS;have hCT:=hCT.ext hSS;exact(Ai (by conv=>lhs;whnf)))) ?_
   refine h1L 12 (fun Q12 hQ12=>?_)
   refine Be 103 rfl rfl ?_
   refine Ag Tryz.func30 fn30 fb30 (E0 g gd r2 _ Sd2 μ2 pi2 nx2 ni2 ci2 C2 (70+12 * (k+1)) _ hCY hcn2) rfl ?_
   rintro v18 w18 ⟨⟨qa,ma,ca,rfl,hLa⟩,hE18⟩
   have hX:=hX.ext hE18
   have hCY:=hCY.ext hE18
   have hKs:=hKs.ext hE18
   have hCT:=hCT.ext hE18
   have hSr17:=hSr17.ext hE18
   rw[hl2] at hLa
   refine An hQ12 ⟨hSr17,?_⟩
   refine h1L 14 (fun Q14 hQ14=>?_)
   refine Be 103 rfl rfl ?_
   refine Ag Tryz.func41 fn41 fb41 (Gm (srt (C.L.map shaF)) (srt (C.L.map shaF)) _ _ _ _ _ _ _ _ _ hLa.sl hKs) rfl ?_
   rintro v19 w19 ⟨rfl,hE19⟩
   have hX:=hX.ext hE19
   have hCY:=hCY.ext hE19
   have hKs:=hKs.ext hE19
   have hCT:=hCT.ext hE19
   have hSr17:=hSr17.ext hE19
   refine An hQ14 ⟨hSr17,?_⟩
   refine Aw 15 103 rfl rfl rfl (by kernel_rfl) (by kernel_rfl) (by kernel_rfl) hSr17 (fun wS hSS=>by( exact((Ff rfl).cast (congrArg Value.bool (show (!decide ((srt (C.L.map shaF))=(srt (C.L.map shaF))))=false by simp))))) ?_
   refine hT 16 rfl hSr17 (fun wS hSS=>by(exact(Ap rfl (by conv=>lhs;whnf)))) ?_
   refine hT 17 rfl hSr17 (fun wS hSS=>by(exact(Ai (by conv=>lhs;whnf)))) ?_
   refine Aw 18 110 rfl rfl rfl (by kernel_rfl) (by kernel_rfl) (by kernel_rfl) hSr17 (fun wS hSS=>by( exact(Ai (by conv=>lhs;whnf)))) ?_
   refine Aw 21 110 rfl rfl rfl (by kernel_rfl) (by kernel_rfl) (by kernel_rfl) hSr17 (fun wS hSS=>by( exact(Ai (by conv=>lhs;whnf)))) ?_
   refine Aw 22 110 rfl rfl rfl (by kernel_rfl) (by kernel_rfl) (by kernel_rfl) hSr17 (fun wS hSS=>by( exact(A6 u23 u5 u9 rfl (hIx0.ext hSS)))) ?_
   refine h1L 19 (fun Q19 hQ19=>?_)
   refine Be 110 rfl rfl ?_
   refine Ag Tryz.func31 fn31 fb31 (El g gd r2 _ Sd2 μ2 pi2 nx2 ni2 ci2 C2 (70+12 * (k+1)) _ hCY hcn2) rfl ?_
   rintro v20 w20 ⟨⟨qb,mb,cb,rfl,hOb⟩,hE20⟩
   have hX:=hX.ext hE20
   have hCY:=hCY.ext hE20
   have hKs:=hKs.ext hE20
   have hCT:=hCT.ext hE20
   have hSr17:=hSr17.ext hE20
   rw[hi2] at hOb
   refine An hQ19 ⟨hSr17,?_⟩
   refine h1L 20 (fun Q20 hQ20=>?_)
   refine g1 110 rfl rfl (A6 u23 u5 u9 rfl hOb.sl) ?_
   refine An hQ20 ⟨hSr17,?_⟩
   refine Aw 23 110 rfl rfl rfl (by kernel_rfl) (by kernel_rfl) (by kernel_rfl) hSr17 (fun wS hSS=>by( exact((Cz rfl rfl).cast (congrArg Value.bool (decide_eq_false (by simp)))))) ?_
   refine hT 24 rfl hSr17 (fun wS hSS=>by(exact(Ap rfl (by conv=>lhs;whnf)))) ?_
   refine hT 25 rfl hSr17 (fun wS hSS=>by(exact(Ai (by conv=>lhs;whnf)))) ?_
   refine Aw 26 118 rfl rfl rfl (by kernel_rfl) (by kernel_rfl) (by kernel_rfl) hSr17 (fun wS hSS=>by( exact(Ai (by conv=>lhs;whnf)))) ?_
   refine Aw 28 118 rfl rfl rfl (by kernel_rfl) (by kernel_rfl) (by kernel_rfl) hSr17 (fun wS hSS=>by( exact(Ai (by conv=>lhs;whnf)))) ?_
   refine h1L 27 (fun Q27 hQ27=>?_)
   refine Be 118 rfl rfl ?_
   refine Ag Tryz.func15 fn15 fb15 (Ez g gd r2 _ Sd2 μ2 pi2 nx2 ni2 ci2 C2 (70+12 * (k+1)) _ hCY hcn2) rfl ?_
   rintro v21 w21 ⟨rfl,hE21⟩
   have hX:=hX.ext hE21
   have hCY:=hCY.ext hE21
   have hKs:=hKs.ext hE21
   have hCT:=hCT.ext hE21
   have hSr17:=hSr17.ext hE21
   refine An hQ27 ⟨hSr17,?_⟩
   refine Aw 29 118 rfl rfl rfl (by kernel_rfl) (by kernel_rfl) (by kernel_rfl) hSr17 (fun wS hSS=>by( exact((A4 rfl rfl).cast (congrArg Value.bool (decide_eq_false (by rw[hz2];simp)))))) ?_
   refine hT 30 rfl hSr17 (fun wS hSS=>by(exact(Ap rfl (by conv=>lhs;whnf)))) ?_
   refine hT 31 rfl hSr17 (fun wS hSS=>by(exact(Ai (by conv=>lhs;whnf)))) ?_
   refine Aw 32 124 rfl rfl rfl (by kernel_rfl) (by kernel_rfl) (by kernel_rfl) hSr17 (fun wS hSS=>by( exact(Ai (by conv=>lhs;whnf)))) ?_
   refine Aw 34 124 rfl rfl rfl (by kernel_rfl) (by kernel_rfl) (by kernel_rfl) hSr17 (fun wS hSS=>by( exact(Ai (by conv=>lhs;whnf)))) ?_
   refine h1L 33 (fun Q33 hQ33=>?_)
   refine Be 124 rfl rfl ?_
   refine Ag Tryz.func30 fn30 fb30 (E0 g3 g2 r3 _ Se μ3 pi3 nx3 ni3 ci3 C3 (70+12 * (k+1)+65) _ hCT hcn3) rfl ?_
   rintro v22 w22 ⟨⟨qd,md,cd,rfl,hLd⟩,hE22⟩
   have hX:=hX.ext hE22
   have hCY:=hCY.ext hE22
   have hKs:=hKs.ext hE22
   have hCT:=hCT.ext hE22
   have hSr17:=hSr17.ext hE22
   rw[ho4,hl2] at hLd
   refine An hQ33 ⟨hSr17,?_⟩
   refine h1L 35 (fun Q35 hQ35=>?_)
   refine Be 124 rfl rfl ?_
   refine Ag Tryz.func41 fn41 fb41 (Gm (srt (C.L.map shaF)) (srt (C.L.map shaF)) _ _ _ _ _ _ _ _ _ hLd.sl hKs) rfl ?_
   rintro v23 w23 ⟨rfl,hE23⟩
   have hX:=hX.ext hE23
   have hCY:=hCY.ext hE23
   have hCT:=hCT.ext hE23
   have hSr17:=hSr17.ext hE23
   refine An hQ35 ⟨hSr17,?_⟩
   refine Aw 36 124 rfl rfl rfl (by kernel_rfl) (by kernel_rfl) (by kernel_rfl) hSr17 (fun wS hSS=>by( exact((Ff rfl).cast (congrArg Value.bool (show (!decide ((srt (C.L.map shaF))=(srt (C.L.map shaF))))=false by simp))))) ?_
   refine hT 37 rfl hSr17 (fun wS hSS=>by(exact(Ap rfl (by conv=>lhs;whnf)))) ?_
   refine hT 38 rfl hSr17 (fun wS hSS=>by(exact(Ai (by conv=>lhs;whnf)))) ?_
   refine Aw 39 131 rfl rfl rfl (by kernel_rfl) (by kernel_rfl) (by kernel_rfl) hSr17 (fun wS hSS=>by( exact(Ai (by conv=>lhs;whnf)))) ?_
   refine Aw 42 131 rfl rfl rfl (by kernel_rfl) (by kernel_rfl) (by kernel_rfl) hSr17 (fun wS hSS=>by( exact(Ai (by conv=>lhs;whnf)))) ?_
   refine Aw 43 131 rfl rfl rfl (by kernel_rfl) (by kernel_rfl) (by kernel_rfl) hSr17 (fun wS hSS=>by( exact(A6 u23 u5 u9 rfl (hIx0.ext hSS)))) ?_
   refine h1L 40 (fun Q40 hQ40=>?_)
   refine Be 131 rfl rfl ?_
   refine Ag Tryz.func31 fn31 fb31 (El g3 g2 r3 _ Se μ3 pi3 nx3 ni3 ci3 C3 (70+12 * (k+1)+65) _ hCT hcn3) rfl ?_
   rintro v24 w24 ⟨⟨qe,me,ce,rfl,hOe⟩,hE24⟩
   have hX:=hX.ext hE24
   have hCY:=hCY.ext hE24
   have hCT:=hCT.ext hE24
   have hSr17:=hSr17.ext hE24
   rw[ho5,hi2] at hOe
   refine An hQ40 ⟨hSr17,?_⟩
   refine h1L 41 (fun Q41 hQ41=>?_)
   refine g1 131 rfl rfl (A6 u23 u5 u9 rfl hOe.sl) ?_
   refine An hQ41 ⟨hSr17,?_⟩
   refine Aw 44 131 rfl rfl rfl (by kernel_rfl) (by kernel_rfl) (by kernel_rfl) hSr17 (fun wS hSS=>by( exact((Cz rfl rfl).cast (congrArg Value.bool (decide_eq_false (by simp)))))) ?_
   refine hT 45 rfl hSr17 (fun wS hSS=>by(exact(Ap rfl (by conv=>lhs;whnf)))) ?_
   refine hT 46 rfl hSr17 (fun wS hSS=>by(exact(Ai (by conv=>lhs;whnf)))) ?_
   refine Aw 47 139 rfl rfl rfl (by kernel_rfl) (by kernel_rfl) (by kernel_rfl) hSr17 (fun wS hSS=>by( exact(Ai (by conv=>lhs;whnf)))) ?_
   refine Aw 49 139 rfl rfl rfl (by kernel_rfl) (by kernel_rfl) (by kernel_rfl) hSr17 (fun wS hSS=>by( exact(Ai (by conv=>lhs;whnf)))) ?_
   refine h1L 48 (fun Q48 hQ48=>?_)
   refine Be 139 rfl rfl ?_
   refine Ag Tryz.func15 fn15 fb15 (Ez g3 g2 r3 _ Se μ3 pi3 nx3 ni3 ci3 C3 (70+12 * (k+1)+65) _ hCT hcn3) rfl ?_
   rintro v25 w25 ⟨rfl,hE25⟩
   have hX:=hX.ext hE25
   have hCY:=hCY.ext hE25
   have hSr17:=hSr17.ext hE25
   refine An hQ48 ⟨hSr17,?_⟩
   refine Aw 50 139 rfl rfl rfl (by kernel_rfl) (by kernel_rfl) (by kernel_rfl) hSr17 (fun wS hSS=>by( exact((A4 rfl rfl).cast (congrArg Value.bool (decide_eq_false (by rw[ho6,hz2];simp)))))) ?_
   refine hT 51 rfl hSr17 (fun wS hSS=>by(exact(Ap rfl (by conv=>lhs;whnf)))) ?_
   refine Bo (by kernel_rfl) ?_
   refine t_n ?_
   refine c_f rfl ?_
   refine Ah (b_n (t_n (Aa ?_)))
   refine pM ?_
   refine p1 ((A1 rfl rfl (Aj (by omega) (by omega))).cast (congrArg (Value.int .i64) (by omega:_=((k+1:Nat):Int)))) ?_
   refine pA (Ac ?_)
   refine t_n (aK ((k+1,C2)) ⟨rfl,trivial⟩ ?_)
   exact⟨⟨hX,by omega,(by exact hCY.fin),⟨_,hF2⟩⟩,by(dsimp only;omega)⟩
  refine Aa ?_
  refine pM (pM ?_)
  refine Ag Tryz.func29 fn29 fb29 (Uy g gd r (sub w Z) Sd μ pi nx ni ci C (70+12 * k) _ hCX hcn (fun j h=>Nat.le_trans hgs h.1) (hg.ext hX) (by omega) hF.b.gn (srt (C.L.map shaF)) _ _ _ _ hKs (by omega)) rfl ?_
  rintro v26 w26 ⟨rfl,hC,hM26⟩
  have hXs2:=hX.size
  have hX:=hX.modS hM26 (fun j h=>h.1)
  have hIx:=hIx.modS hM26
  have hKs:=hKs.modS hM26 (fun _ _=>Nat.zero_le _) (by decide)
  have hC:Cst (since w) w26 g gd (stepF C (srt (C.L.map shaF))).1:=hC.mono (fun j _ h=>h.elim (fun h=>h.1) fun q=>Nat.le_trans hXs2 q.1)
  have hout:=Aak hF (by omega) (by omega)
  obtain⟨C2,hC2⟩:∃ c,c=(stepF C (srt (C.L.map shaF))).1:=⟨_,rfl⟩
  obtain⟨no,hno⟩:∃ e,e=(stepF C (srt (C.L.map shaF))).2.2:=⟨_,rfl⟩
  rw[← hC2,← hno] at hout
  rw[← hC2] at hC
  rw[← hno]
  refine pM ?_
  refine p1 (Ao rfl rfl) ?_
  refine p1 (Ao rfl rfl) ?_
  refine pA (Ac (t_n (Ab (Ab (Aa ?_)))))
  refine pM ?_
  refine p1 (Bs rfl rfl) ?_
  refine Ac (t_n ?_)
  refine As rfl (fun hc86=>?_) (fun hc86=>?_)
  ·obtain⟨_,F2,hF2⟩:=hout.resolve_right (fun h=>by have:=h.1;omega)
   refine Ba (t_e (Bq (t_n (Aa ?_))))
   refine pM ?_
   refine p1 ((A1 rfl rfl (Aj (by omega) (by omega))).cast (congrArg (Value.int .i64) (by omega:_=((k+1:Nat):Int)))) ?_
   refine pA (Ac ?_)
   refine t_n (aK ((k+1,C2)) ⟨rfl,trivial⟩ ?_)
   exact⟨⟨hX,by omega,(by exact hC),⟨_,hF2⟩⟩,by(dsimp only;omega)⟩
  obtain⟨hn21,hF2,hl2,hi2,hz2⟩:=hout.resolve_left (fun h=>hc86 h.1)
  obtain⟨ho1,ho2,ho3,ho4,ho5,ho6,ho7,ho8⟩:=Ww hF2 (by omega)
  have hcn2:=hF2.cn hf1
  have hlc2:=hF2.len
  have hcn3:=ho2.cn (by rw[ho3];have:=R4 hF2.b.nF hF2.F;omega)
  have hCq:=hC
  obtain⟨Sd2,r2,μ2,pi2,ni2,ci2,nx2,hCY⟩:=hCq
  have hCYc:=hCY
  have hIxc:=hIx
  have hKsc:=hKs
  have hXsc:=hX.size
  refine Ah (t_n (Ab (Aa ?_)))
  refine pM ?_
  refine Ag Tryz.func40 fn40 fb40 (Oz gd Sd2 C2.D _ hCY.d hcn2.good.ok) rfl ?_
  rintro v27 w27 ⟨⟨g2,rfl,hD2⟩,hE27⟩
  have hX:=hX.ext hE27
  have hIx:=hIx.ext hE27
  have hKs:=hKs.ext hE27
  have hXc:=hE27
  refine Ag Tryz.func12 fn12 fb12 (Fk g2 _ C2.D _ hD2 hcn2.good.ok (Nat.lt_of_le_of_lt hcn2.good.steps (by omega)) hcn2.good.left hcn2.good.names (fun j h=>Nat.le_trans hgs (Nat.le_trans hXsc h)) (hg.ext hX)) rfl ?_
  rintro v28 w28 ⟨⟨pv28,rfl,hor28⟩,hM28⟩
  obtain⟨ho9,g3,rfl,hCt⟩:=hor28.resolve_right (fun h=>h.1 ho1)
  rw[ho9]
  have hX:=hX.modS hM28 (fun j h=>Nat.le_trans hXsc h)
  have hXc:=hXc.modS hM28 (fun j h=>h)
  have hCY:=hCYc.ext hXc
  have hIx:=hIxc.ext hXc
  have hKs:=hKsc.ext hXc
  obtain⟨Se,r3,μ3,pi3,ni3,ci3,nx3,hCT⟩:=hCt
  obtain⟨C3,hC3⟩:∃ c,c=(openC C2.D).1:=⟨_,rfl⟩
  rw[← hC3] at hCT ho3 ho4 ho5 ho6 hcn3
  refine pM ?_
  refine p1 (Ao rfl rfl) ?_
  refine p1 (Ao rfl rfl) ?_
  refine pA (pA (Ac (t_n (Ab ?_))))
  refine Bx (fun w1 w2=>Ext w1 w2) mixed ?_
  intro w29 hE29
  have hX:=hX.ext hE29
  have hCY:=hCY.ext hE29
  have hIx:=hIx.ext hE29
  have hKs:=hKs.ext hE29
  have hCT:=hCT.ext hE29
  have hSr17:(fun w1 w2=>Ext w1 w2) w29 w29:=Ext.refl w29
  have hIx0:=hIx.sl5
  refine hT 0 rfl hSr17 (fun wS hSS=>by(exact(Ai (by conv=>lhs;whnf)))) ?_
  refine hT 1 rfl hSr17 (fun wS hSS=>by(exact((A4 rfl rfl).cast (congrArg Value.bool (decide_eq_false (by rw[hn21];simp)))))) ?_
  refine hT 2 rfl hSr17 (fun wS hSS=>by(exact(Ai (by conv=>lhs;whnf)))) ?_
  refine Aw 3 95 rfl rfl rfl (by kernel_rfl) (by kernel_rfl) (by kernel_rfl) hSr17 (fun wS hSS=>by(have hX:=hX.ext hSS;have hCY:=hCY.ext hSS;have hIx:=hIx.ext hSS;have hKs:=hKs.ext hSS;have hCT:=hCT.ext hSS;exact(Ai (by conv=>lhs;whnf)))) ?_
  refine Aw 4 95 rfl rfl rfl (by kernel_rfl) (by kernel_rfl) (by kernel_rfl) hSr17 (fun wS hSS=>by(have hX:=hX.ext hSS;have hCY:=hCY.ext hSS;have hIx:=hIx.ext hSS;have hKs:=hKs.ext hSS;have hCT:=hCT.ext hSS;exact((A4 rfl rfl).cast (congrArg Value.bool (decide_eq_false (by simp)))))) ?_
  refine hT 5 rfl hSr17 (fun wS hSS=>by(exact(Ap rfl (by conv=>lhs;whnf)))) ?_
  refine hT 6 rfl hSr17 (fun wS hSS=>by(exact(Ai (by conv=>lhs;whnf)))) ?_
  refine Aw 7 99 rfl rfl rfl (by kernel_rfl) (by kernel_rfl) (by kernel_rfl) hSr17 (fun wS hSS=>by(have hX:=hX.ext hSS;have hCY:=hCY.ext hSS;have hIx:=hIx.ext hSS;have hKs:=hKs.ext hSS;have hCT:=hCT.ext hSS;exact(Ai (by conv=>lhs;whnf)))) ?_
  refine Aw 8 99 rfl rfl rfl (by kernel_rfl) (by kernel_rfl) (by kernel_rfl) hSr17 (fun wS hSS=>by(have hX:=hX.ext hSS;have hCY:=hCY.ext hSS;have hIx:=hIx.ext hSS;have hKs:=hKs.ext hSS;have hCT:=hCT.ext hSS;exact((A9 u30 rfl rfl).cast (congrArg Value.bool (decide_eq_false (by simp)))))) ?_
  refine hT 9 rfl hSr17 (fun wS hSS=>by(exact(Ap rfl (by conv=>lhs;whnf)))) ?_
  refine hT 10 rfl hSr17 (fun wS hSS=>by(exact(Ai (by conv=>lhs;whnf)))) ?_
  refine Aw 11 103 rfl rfl rfl (by kernel_rfl) (by kernel_rfl) (by kernel_rfl) hSr17 (fun wS hSS=>by(have hX:=hX.ext hSS;have hCY:=hCY.ext hSS;have hIx:=hIx.ext hSS;have hKs:=hKs.ext hSS;have hCT:=hCT.ext hSS;exact(Ai (by conv=>lhs;whnf)))) ?_
  refine Aw 13 103 rfl rfl rfl (by kernel_rfl) (by kernel_rfl) (by kernel_rfl) hSr17 (fun wS hSS=>by(have hX:=hX.ext hSS;have hCY:=hCY.ext hSS;have hIx:=hIx.ext hSS;have hKs:=hKs.ext hSS;have hCT:=hCT.ext hSS;exact(Ai (by conv=>lhs;whnf)))) ?_
  refine h1L 12 (fun Q12 hQ12=>?_)
  refine Be 103 rfl rfl ?_
  refine Ag Tryz.func30 fn30 fb30 (E0 g gd r2 _ Sd2 μ2 pi2 nx2 ni2 ci2 C2 (70+12 * (k+1)) _ hCY hcn2) rfl ?_
  rintro v30 w30 ⟨⟨qa,ma,ca,rfl,hLa⟩,hE30⟩
  have hX:=hX.ext hE30
  have hCY:=hCY.ext hE30
  have hKs:=hKs.ext hE30
  have hCT:=hCT.ext hE30
  have hSr17:=hSr17.ext hE30
  rw[hl2] at hLa
  refine An hQ12 ⟨hSr17,?_⟩
  refine h1L 14 (fun Q14 hQ14=>?_)
  refine Be 103 rfl rfl ?_
  refine Ag Tryz.func41 fn41 fb41 (Gm (srt (C.L.map shaF)) (srt (C.L.map shaF)) _ _ _ _ _ _ _ _ _ hLa.sl hKs) rfl ?_
  rintro v31 w31 ⟨rfl,hE31⟩
  have hX:=hX.ext hE31
  have hCY:=hCY.ext hE31
  have hKs:=hKs.ext hE31
  have hCT:=hCT.ext hE31
  have hSr17:=hSr17.ext hE31
  refine An hQ14 ⟨hSr17,?_⟩
  refine Aw 15 103 rfl rfl rfl (by kernel_rfl) (by kernel_rfl) (by kernel_rfl) hSr17 (fun wS hSS=>by( exact((Ff rfl).cast (congrArg Value.bool (show (!decide ((srt (C.L.map shaF))=(srt (C.L.map shaF))))=false by simp))))) ?_
  refine hT 16 rfl hSr17 (fun wS hSS=>by(exact(Ap rfl (by conv=>lhs;whnf)))) ?_
  refine hT 17 rfl hSr17 (fun wS hSS=>by(exact(Ai (by conv=>lhs;whnf)))) ?_
  refine Aw 18 110 rfl rfl rfl (by kernel_rfl) (by kernel_rfl) (by kernel_rfl) hSr17 (fun wS hSS=>by( exact(Ai (by conv=>lhs;whnf)))) ?_
  refine Aw 21 110 rfl rfl rfl (by kernel_rfl) (by kernel_rfl) (by kernel_rfl) hSr17 (fun wS hSS=>by( exact(Ai (by conv=>lhs;whnf)))) ?_
  refine Aw 22 110 rfl rfl rfl (by kernel_rfl) (by kernel_rfl) (by kernel_rfl) hSr17 (fun wS hSS=>by( exact(A6 u23 u5 u9 rfl (hIx0.ext hSS)))) ?_
  refine h1L 19 (fun Q19 hQ19=>?_)
  refine Be 110 rfl rfl ?_
  refine Ag Tryz.func31 fn31 fb31 (El g gd r2 _ Sd2 μ2 pi2 nx2 ni2 ci2 C2 (70+12 * (k+1)) _ hCY hcn2) rfl ?_
  rintro v32 w32 ⟨⟨qb,mb,cb,rfl,hOb⟩,hE32⟩
  have hX:=hX.ext hE32
  have hCY:=hCY.ext hE32
  have hKs:=hKs.ext hE32
  have hCT:=hCT.ext hE32
  have hSr17:=hSr17.ext hE32
  rw[hi2] at hOb
  refine An hQ19 ⟨hSr17,?_⟩
  refine h1L 20 (fun Q20 hQ20=>?_)
  refine g1 110 rfl rfl (A6 u23 u5 u9 rfl hOb.sl) ?_
  refine An hQ20 ⟨hSr17,?_⟩
  refine Aw 23 110 rfl rfl rfl (by kernel_rfl) (by kernel_rfl) (by kernel_rfl) hSr17 (fun wS hSS=>by( exact((Cz rfl rfl).cast (congrArg Value.bool (decide_eq_false (by simp)))))) ?_
  refine hT 24 rfl hSr17 (fun wS hSS=>by(exact(Ap rfl (by conv=>lhs;whnf)))) ?_
  refine hT 25 rfl hSr17 (fun wS hSS=>by(exact(Ai (by conv=>lhs;whnf)))) ?_
  refine Aw 26 118 rfl rfl rfl (by kernel_rfl) (by kernel_rfl) (by kernel_rfl) hSr17 (fun wS hSS=>by( exact(Ai (by conv=>lhs;whnf)))) ?_
  refine Aw 28 118 rfl rfl rfl (by kernel_rfl) (by kernel_rfl) (by kernel_rfl) hSr17 (fun wS hSS=>by( exact(Ai (by conv=>lhs;whnf)))) ?_
  refine h1L 27 (fun Q27 hQ27=>?_)
  refine Be 118 rfl rfl ?_
  refine Ag Tryz.func15 fn15 fb15 (Ez g gd r2 _ Sd2 μ2 pi2 nx2 ni2 ci2 C2 (70+12 * (k+1)) _ hCY hcn2) rfl ?_
  rintro v33 w33 ⟨rfl,hE33⟩
  have hX:=hX.ext hE33
  have hCY:=hCY.ext hE33
  have hKs:=hKs.ext hE33
  have hCT:=hCT.ext hE33
  have hSr17:=hSr17.ext hE33
  refine An hQ27 ⟨hSr17,?_⟩
  refine Aw 29 118 rfl rfl rfl (by kernel_rfl) (by kernel_rfl) (by kernel_rfl) hSr17 (fun wS hSS=>by( exact((A4 rfl rfl).cast (congrArg Value.bool (decide_eq_false (by rw[hz2];simp)))))) ?_
  refine hT 30 rfl hSr17 (fun wS hSS=>by(exact(Ap rfl (by conv=>lhs;whnf)))) ?_
  refine hT 31 rfl hSr17 (fun wS hSS=>by(exact(Ai (by conv=>lhs;whnf)))) ?_
  refine Aw 32 124 rfl rfl rfl (by kernel_rfl) (by kernel_rfl) (by kernel_rfl) hSr17 (fun wS hSS=>by( exact(Ai (by conv=>lhs;whnf)))) ?_
  refine Aw 34 124 rfl rfl rfl (by kernel_rfl) (by kernel_rfl) (by kernel_rfl) hSr17 (fun wS hSS=>by( exact(Ai (by conv=>lhs;whnf)))) ?_
  refine h1L 33 (fun Q33 hQ33=>?_)
  refine Be 124 rfl rfl ?_
  refine Ag Tryz.func30 fn30 fb30 (E0 g3 g2 r3 _ Se μ3 pi3 nx3 ni3 ci3 C3 (70+12 * (k+1)+65) _ hCT hcn3) rfl ?_
  rintro v34 w34 ⟨⟨qd,md,cd,rfl,hLd⟩,hE34⟩
  have hX:=hX.ext hE34
  have hCY:=hCY.ext hE34
  have hKs:=hKs.ext hE34
  have hCT:=hCT.ext hE34
  have hSr17:=hSr17.ext hE34
  rw[ho4,hl2] at hLd
  refine An hQ33 ⟨hSr17,?_⟩
  refine h1L 35 (fun Q35 hQ35=>?_)
  refine Be 124 rfl rfl ?_
  refine Ag Tryz.func41 fn41 fb41 (Gm (srt (C.L.map shaF)) (srt (C.L.map shaF)) _ _ _ _ _ _ _ _ _ hLd.sl hKs) rfl ?_
  rintro v35 w35 ⟨rfl,hE35⟩
  have hX:=hX.ext hE35
  have hCY:=hCY.ext hE35
  have hCT:=hCT.ext hE35
  have hSr17:=hSr17.ext hE35
  refine An hQ35 ⟨hSr17,?_⟩
  refine Aw 36 124 rfl rfl rfl (by kernel_rfl) (by kernel_rfl) (by kernel_rfl) hSr17 (fun wS hSS=>by( exact((Ff rfl).cast (congrArg Value.bool (show (!decide ((srt (C.L.map shaF))=(srt (C.L.map shaF))))=false by simp))))) ?_
  refine hT 37 rfl hSr17 (fun wS hSS=>by(exact(Ap rfl (by conv=>lhs;whnf)))) ?_
  refine hT 38 rfl hSr17 (fun wS hSS=>by(exact(Ai (by conv=>lhs;whnf)))) ?_
  refine Aw 39 131 rfl rfl rfl (by kernel_rfl) (by kernel_rfl) (by kernel_rfl) hSr17 (fun wS hSS=>by( exact(Ai (by conv=>lhs;whnf)))) ?_
  refine Aw 42 131 rfl rfl rfl (by kernel_rfl) (by kernel_rfl) (by kernel_rfl) hSr17 (fun wS hSS=>by( exact(Ai (by conv=>lhs;whnf)))) ?_
  refine Aw 43 131 rfl rfl rfl (by kernel_rfl) (by kernel_rfl) (by kernel_rfl) hSr17 (fun wS hSS=>by( exact(A6 u23 u5 u9 rfl (hIx0.ext hSS)))) ?_
  refine h1L 40 (fun Q40 hQ40=>?_)
  refine Be 131 rfl rfl ?_
  refine Ag Tryz.func31 fn31 fb31 (El g3 g2 r3 _ Se μ3 pi3 nx3 ni3 ci3 C3 (70+12 * (k+1)+65) _ hCT hcn3) rfl ?_
  rintro v36 w36 ⟨⟨qe,me,ce,rfl,hOe⟩,hE36⟩
  have hX:=hX.ext hE36
  have hCY:=hCY.ext hE36
  have hCT:=hCT.ext hE36
  have hSr17:=hSr17.ext hE36
  rw[ho5,hi2] at hOe
  refine An hQ40 ⟨hSr17,?_⟩
  refine h1L 41 (fun Q41 hQ41=>?_)
  refine g1 131 rfl rfl (A6 u23 u5 u9 rfl hOe.sl) ?_
  refine An hQ41 ⟨hSr17,?_⟩
  refine Aw 44 131 rfl rfl rfl (by kernel_rfl) (by kernel_rfl) (by kernel_rfl) hSr17 (fun wS hSS=>by( exact((Cz rfl rfl).cast (congrArg Value.bool (decide_eq_false (by simp)))))) ?_
  refine hT 45 rfl hSr17 (fun wS hSS=>by(exact(Ap rfl (by conv=>lhs;whnf)))) ?_
  refine hT 46 rfl hSr17 (fun wS hSS=>by(exact(Ai (by conv=>lhs;whnf)))) ?_
  refine Aw 47 139 rfl rfl rfl (by kernel_rfl) (by kernel_rfl) (by kernel_rfl) hSr17 (fun wS hSS=>by( exact(Ai (by conv=>lhs;whnf)))) ?_
  refine Aw 49 139 rfl rfl rfl (by kernel_rfl) (by kernel_rfl) (by kernel_rfl) hSr17 (fun wS hSS=>by( exact(Ai (by conv=>lhs;whnf)))) ?_
  refine h1L 48 (fun Q48 hQ48=>?_)
  refine Be 139 rfl rfl ?_
  refine Ag Tryz.func15 fn15 fb15 (Ez g3 g2 r3 _ Se μ3 pi3 nx3 ni3 ci3 C3 (70+12 * (k+1)+65) _ hCT hcn3) rfl ?_
  rintro v37 w37 ⟨rfl,hE37⟩
  have hX:=hX.ext hE37
  have hCY:=hCY.ext hE37
  have hSr17:=hSr17.ext hE37
  refine An hQ48 ⟨hSr17,?_⟩
  refine Aw 50 139 rfl rfl rfl (by kernel_rfl) (by kernel_rfl) (by kernel_rfl) hSr17 (fun wS hSS=>by( exact((A4 rfl rfl).cast (congrArg Value.bool (decide_eq_false (by rw[ho6,hz2];simp)))))) ?_
  refine hT 51 rfl hSr17 (fun wS hSS=>by(exact(Ap rfl (by conv=>lhs;whnf)))) ?_
  refine Bo (by kernel_rfl) ?_
  refine t_n ?_
  refine c_f rfl ?_
  refine Ah (b_n (t_n (Aa ?_)))
  refine pM ?_
  refine p1 ((A1 rfl rfl (Aj (by omega) (by omega))).cast (congrArg (Value.int .i64) (by omega:_=((k+1:Nat):Int)))) ?_
  refine pA (Ac ?_)
  refine t_n (aK ((k+1,C2)) ⟨rfl,trivial⟩ ?_)
  exact⟨⟨hX,by omega,(by exact hCY.fin),⟨_,hF2⟩⟩,by(dsimp only;omega)⟩
 refine Ba (t_e (t_e (Bq (t_n (Ab (Aa ?_))))))
 refine Ag Tryz.func11 fn11 fb11 (Gh _ (hg.ext hX)) rfl ?_
 rintro v38 w38 ⟨rfl,hE38⟩
 have hX:=hX.ext hE38
 refine pA (Ac (t_n (Al ?_)))
 refine eR1 ?_
 exact⟨rfl,hX⟩
end Go.Proofs.Eng
end
