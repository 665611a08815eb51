import Derived.Test.YtlmfpocifkpggaaGreatDoorCo5
set_option linter.unusedVariables false
set_option linter.unusedSimpArgs false
set_option linter.unusedSectionVars false
section
namespace Go.Proofs.Eng
open Go.RowKit
structure Vu (D:DS) (M i:Nat) (V:ByteArray→Option Fb) (u n:Nat):Prop where
  up:UpD D M i
  v:∀ k,ascF D.l k=V k
  used:usedL D.l=u
  len:D.l.length=n
theorem Aa3 {o:Option Fb} {f:Fb} (h:o=some f):(o.map fun f=>f.1.length).getD 0=f.1.length:=by rw[h];rfl
section
variable {D : DS} {M i u n : Nat} {V : ByteArray → Option Fb} {k : ByteArray}
theorem Zf (h:Vu D M i V u n) (act:List Fl) (o:Option Fb) (ha:act=insA D.l k o) (hg:Good { D with l:=act,left:=-1,steps:=D.steps+1 } (i+1)) {u' n':Nat} (hu:u'+((V k).map fun f=>f.1.length).getD 0=u+(o.map fun f=>f.1.length).getD 0) (hn:n'+(if V k=none then 0 else 1)=n+(if o=none then 0 else 1)) :
    Vu { D with l:=act,left:=-1,steps:=D.steps+1 } M (i+1) (mset V k o) u' n':=by
  have hr:=h.up.good.ok.rise
  refine⟨Ade h.up hg,fun z=>?_,?_,?_⟩
  · show ascA act z = _
    rw[ha,← Ea hr]
    unfold mset
    split
    · rfl
    · exact h.v z
  · show usedL act = u'
    have:=Dv hr k o
    have hv:ascA D.l k=V k:=h.v k
    rw[hv] at this
    rw[ha];have:=h.used;omega
  · show act.length = n'
    have:=Gw hr k o
    have hv:ascA D.l k=V k:=h.v k
    rw[hv] at this
    rw[ha];have:=h.len;omega
theorem P4 (h:Vu D M i V u n) (hn:A0 k=true) (hk:V k=none) (hl:n<64):(Bh D k).2=0∧Vu (Bh D k).1 M (i+1) (mset V k (some ([],0))) u (n+1):=by
  have hg:=Gx h.up.good k
  unfold Bh at hg ⊢
  rw[Dz (by simp[hn]) h.up.down,if_neg (by simp),if_neg (by rw[h.v,hk];simp),if_neg (by rw[h.len];omega),Wn h.up] at hg ⊢
  exact⟨rfl,Zf h _ _ rfl hg (by rw[hk];rfl) (by rw[if_pos hk];rfl)⟩
theorem P5 (h:Vu D M i V u n) (hn:A0 k=true) {f:Fb} (hk:V k=some f) {p:By} (hr:u+p.length≤M):(A3 D k p).2=0∧Vu (A3 D k p).1 M (i+1) (mset V k (some (f.1++p,f.2))) (u+p.length) n:=by
  have hg:=Gy h.up.good k p
  have hgf:getF D k=f:=by unfold getF;rw[h.v,hk];rfl
  unfold A3 at hg ⊢
  rw[Dz (by simp[hn]) h.up.down,if_neg (by simp),if_neg (by rw[h.v,hk];simp),hgf,h.up.most,h.used,if_neg (by omega),Wn h.up] at hg ⊢
  exact⟨rfl,Zf h _ _ rfl hg (by rw[Aa3 hk];simp;omega) (by rw[if_neg (by rw[hk];simp),if_neg (by simp)])⟩
theorem Wj (h:Vu D M i V u n) (hn:A0 k=true) {f:Fb} (hk:V k=some f):(syncD D k).2=0∧Vu (syncD D k).1 M (i+1) (mset V k (some (f.1,f.1.length))) u n:=by
  have hg:=L3 h.up.good k
  have hgf:getF D k=f:=by unfold getF;rw[h.v,hk];rfl
  unfold syncD at hg ⊢
  rw[Dz (by simp[hn]) h.up.down,if_neg (by simp),if_neg (by rw[h.v,hk];simp),hgf,Wn h.up] at hg ⊢
  exact⟨rfl,Zf h _ _ rfl hg (by rw[Aa3 hk];rfl) (by rw[if_neg (by rw[hk];simp),if_neg (by simp)])⟩
theorem Wk (h:Vu D M i V u n) (hn:A0 k=true) {f:Fb} (hk:V k=some f):readD D k=(f.1,0):=Aby h.up hn (by rw[h.v,hk])
theorem Abx (h:Vu D M i V u n) (hn:A0 k=true) (hk:V k=none):readD D k=([],22):=by
  unfold readD
  rw[Dz (by simp[hn]) h.up.down,if_neg (by simp),if_pos (by rw[h.v,hk])]
theorem Ado (h:Vu D M i V u n) {old now:ByteArray} (hn:A0 old=true) (hn2:A0 now=true) (hne:old≠now) {f:Fb} (hk:V old=some f) :
    (Cf D old now).2=0∧∃ u' n',Vu (Cf D old now).1 M (i+1) (mset (mset V now (some f)) old none) u' n'∧u'+((V now).map fun f=>f.1.length).getD 0=u∧n'+(if V now=none then 0 else 1)=n:=by
  have hg:=Im h.up.good old now
  have hgf:getF D old=f:=by unfold getF;rw[h.v,hk];rfl
  have hr:=h.up.good.ok.rise
  have ho:ascF D.l old≠none:=by rw[h.v,hk];simp
  unfold Cf at hg ⊢
  rw[Dz (by simp[hn,hn2]) h.up.down,if_neg (by simp),if_neg ho,hgf,Wn h.up] at hg ⊢
  have hl:renL D.l old now f=insA (insA D.l now (some f)) old none:=if_neg hne
  rw[hl] at hg ⊢
  have hr2:=Dw hr now (some f)
  have h1:=Dv hr now (some f)
  have h2:=Dv hr2 old none
  have h3:=Gw hr now (some f)
  have h4:=Gw hr2 old none
  have hv:ascA D.l now=V now:=h.v now
  have hvo:ascA (insA D.l now (some f)) old=some f:=by rw[← Ea hr];unfold mset;rw[if_neg hne];exact(h.v old).trans hk
  rw[hv] at h1 h3
  rw[hvo] at h2 h4
  simp only[Option.map_some,Option.getD_some,Option.map_none,Option.getD_none,reduceCtorEq,if_false,if_true] at h1 h2 h3 h4
  refine⟨rfl,_,_,⟨Ade h.up hg,fun z=>?_,rfl,rfl⟩,?_,?_⟩
  · show ascA (insA (insA D.l now (some f)) old none) z = _
    rw[← Ea hr2]
    unfold mset
    split
    · rfl
    · rw [← Ea hr]
      unfold mset
      split
      · rfl
      · exact h.v z
  · have:=h.used;show usedL (insA (insA D.l now (some f)) old none)+_=_;omega
  · have:=h.len;show (insA (insA D.l now (some f)) old none).length+_=_;split at h3 <;> simp_all <;> omega
end
theorem F7:A0 nMan=true:=by decide
theorem Ec:A0 nNew=true:=by decide
theorem Dp:nMan≠nNew:=by decide
theorem Ou {k:Nat} (h1:1≤k) (h2:k≤999999):(nSeg k).size=10:=by
  unfold nSeg nameF
  rw[if_neg (by omega)]
  show (toStr (nameL _)).size=10
  unfold toStr
  simp[ByteArray.size,Qf]
theorem Ct {k:Nat} (h1:1≤k) (h2:k≤999999):A0 (nSeg k)=true:=by
  have hs:=Ou h1 h2
  unfold A0
  rw[decide_eq_true (by omega),Bool.true_and,List.all_eq_true]
  intro c hc
  have e:(nSeg k).data.toList=nameL ((k:Int).toNat):=by unfold nSeg nameF toStr;rw[if_neg (by omega)]
  rw[e] at hc
  unfold nameL at hc
  rcases List.mem_append.1 hc with h | h
  · clear hc;revert h;revert c;decide
  · have := Sn 6 _ c h
    exact decide_eq_true (by omega)
theorem Cv {k:Nat} (h1:1≤k) (h2:k≤999999):nSeg k≠nMan:=fun e=>by have:=Ou h1 h2;rw[e] at this;revert this;decide
theorem D4 {k:Nat} (h1:1≤k) (h2:k≤999999):nSeg k≠nNew:=fun e=>by have:=Ou h1 h2;rw[e] at this;revert this;decide
theorem Gu:¬ SegN nMan:=fun ⟨k,h1,h2,e⟩=>Cv h1 h2 e.symm
theorem Z9 {a b:Nat} (ha:1≤a) (ha2:a≤999999) (hb:1≤b) (hb2:b≤999999) (h:nSeg a=nSeg b):a=b:=by
  unfold nSeg nameF at h
  rw[if_neg (by omega),if_neg (by omega)] at h
  exact Qg ha2 hb2 (Xu.1 h)
theorem S6 {D:DS} {M i u n:Nat} {V:ByteArray→Option Fb} (h:Vu D M i V u n) (hk:V nNew=none) (hl:n<64) {b:By} (hr:u+b.length≤M) :
    (writeD D b).2=0∧∃ u' n',Vu (writeD D b).1 M (i+4) (mset V nMan (some (b,b.length))) u' n'∧u'+((V nMan).map fun f=>f.1.length).getD 0=u+b.length∧n'+(if V nMan=none then 0 else 1)=n+1:=by
  have hne:nNew≠nMan:=fun e=>Dp e.symm
  obtain⟨a1,a2⟩:=P4 h Ec hk hl
  have k1:mset V nNew (some ([],0)) nNew=some ([],0):=by unfold mset;rw[if_pos rfl]
  obtain⟨b1,b2⟩:=P5 a2 Ec k1 (p:=b) hr
  have k2:mset (mset V nNew (some ([],0))) nNew (some (([]:By)++b,0)) nNew=some (([]:By)++b,0):=by unfold mset;rw[if_pos rfl]
  obtain⟨c1,c2⟩:=Wj b2 Ec k2
  obtain⟨d1,u',n',d2,d3,d4⟩:=Ado c2 (old:=nNew) (now:=nMan) Ec F7 hne (f:=(([]:By)++b,(([]:By)++b).length)) (by unfold mset;rw[if_pos rfl])
  have e:writeD D b=Cf (syncD (A3 (Bh D nNew).1 nNew b).1 nNew).1 nNew nMan:=by
    unfold writeD
    rw[Em a1,Em b1,Em c1]
  have hm:∀ x:Option Fb,mset (mset (mset V nNew (some ([],0))) nNew (some (([]:By)++b,0))) nNew x nMan=V nMan:=fun x=>by
    unfold mset;rw[if_neg Dp,if_neg Dp,if_neg Dp]
  rw[hm] at d3 d4
  refine⟨by rw[e];exact d1,u',n',?_,d3,d4⟩
  rw[e]
  have hv:mset (mset (mset (mset (mset V nNew (some ([],0))) nNew (some (([]:By)++b,0))) nNew (some (([]:By)++b,(([]:By)++b).length))) nMan (some (([]:By)++b,(([]:By)++b).length))) nNew none=mset V nMan (some (b,b.length)):=by
    funext z
    unfold mset
    simp only[List.nil_append]
    by_cases e1:z=nNew
    · subst e1;rw[if_pos rfl,if_neg hne,hk]
    · rw [if_neg e1]
      by_cases e2:z=nMan
      · rw[if_pos e2,if_pos e2]
      · rw[if_neg e2,if_neg e2,if_neg e1,if_neg e1,if_neg e1]
  rw[hv] at d2
  exact d2
theorem Pk {keep:ByteArray} {D:DS}:∀ {ns:List ByteArray},(∀ x∈ns,keepN x keep=true)→cleanL keep D ns=(D,0)
  | [],_=>rfl
  | x :: ns, h => by
    unfold cleanL
    rw[if_pos (h x (by simp))]
    exact Pk fun y hy=>h y (by simp[hy])
structure Rst (C:CS) (M i:Nat):Prop where
  ex:∃ V u,Vu C.D M i V u 2∧V nMan=some (manB ⟨C.seg,C.size,C.index⟩,(manB ⟨C.seg,C.size,C.index⟩).length)∧V (nSeg C.seg)=some (segB C.L,C.size)∧(∀ k,k≠nMan→k≠nSeg C.seg→V k=none)∧u=(manB ⟨C.seg,C.size,C.index⟩).length+C.size
  ok:(Mf.mk C.seg C.size C.index).Ok
  sz:(segB C.L).length=C.size
  cl:∀ c∈C.L,c.length≤1048576
  dead:C.dead=false
  next:C.next=none
theorem L4 {l:List By} (h:∀ c∈l,c.length≤1048576):getSg (segB l)=(l,0):=by
  unfold getSg
  have h1:Bx (segB l)=some l:=Ke l h
  rw[h1]
theorem Rst.open {C:CS} {M i:Nat} (h:Rst C M i):openC C.D=(C,0):=by
  obtain⟨V,u,hv,h1,h2,h3,h4⟩:=h.ex
  have hlo:=h.ok.lo
  have hhi:=h.ok.hi
  have hrm:=Wk hv F7 h1
  have hrs:=Wk hv (Ct hlo hhi) h2
  have hmo:ManOf (readD C.D nMan).1 ⟨C.seg,C.size,C.index⟩:=by rw[hrm];exact⟨h.ok,rfl⟩
  have hs:=h.sz
  have hfull:(segB C.L).take C.size=segB C.L:=List.take_of_length_le (by omega)
  rw[J9 (by rw[hrm]),Lz hmo]
  simp only[]
  rw[hrs]
  simp only[]
  rw[hfull,L4 h.cl,if_neg (by simp;omega)]
  have hkeep:cleanD C.D (nSeg C.seg)=(C.D,0):=Pk fun x hx=>by
    rw[Fc]
    have hx2:ascF C.D.l x≠none:=Dj.2 hx
    rw[hv.v] at hx2
    by_cases e1:x=nMan
    · subst e1;exact⟨Dp,.inl Gu⟩
    · by_cases e2 : x = nSeg C.seg
      · subst e2;exact⟨D4 hlo hhi,.inr rfl⟩
      · exact absurd (h3 x e1 e2) hx2
  have hlr:loadR C.D ⟨C.seg,C.size,C.index⟩=(C.D,0):=by
    unfold loadR
    simp only[]
    rw[hrs,if_neg (by simp only[];omega)]
    exact hkeep
  rw[hlr]
  have hL:(getSg ((readD C.D (nSeg C.seg)).1.take C.size)).1=C.L:=by rw[hrs];simp only[];rw[hfull,L4 h.cl]
  have:loadS C.D ⟨C.seg,C.size,C.index⟩=C:=by
    unfold loadS
    simp only[]
    rw[hL]
    have hd:=h.dead
    have hn:=h.next
    cases C;simp_all
  rw[this]
theorem Adp (most:Int):Vu (newD most) (max 0 (min most 16777216)).toNat 0 (fun _=>none) 0 0:=⟨⟨Ua most,rfl,rfl,rfl⟩,fun _=>rfl,rfl,rfl⟩
theorem Z8 {most:Int} {M:Nat} (hm:M=(max 0 (min most 16777216)).toNat) (hr:(manB ⟨1,0,[]⟩).length≤M) :
    (openC (newD most)).2=0∧Rst (openC (newD most)).1 M 5∧(openC (newD most)).1.L=[]∧(openC (newD most)).1.size=0∧(openC (newD most)).1.index=[]∧(openC (newD most)).1.seg=1:=by
  subst hm
  have h0:=Adp most
  have hok:(Mf.mk 1 0 []).Ok:=⟨by show 1≤1;omega,by show 1≤999999;omega,by show 0≤_;omega,by show 0≤_;omega⟩
  have hrn:=Abx h0 F7 rfl
  have hcl:cleanD (newD most) (toStr [])=(newD most,0):=rfl
  obtain⟨a1,a2⟩:=P4 h0 (Ct (k:=1) (by omega) (by omega)) rfl (by omega)
  have hk:mset (fun _=>none:ByteArray→Option Fb) (nSeg 1) (some ([],0)) nNew=none:=by unfold mset;rw[if_neg (fun e=>D4 (k:=1) (by omega) (by omega) e.symm)]
  obtain⟨b1,u',n',b2,b3,b4⟩:=S6 a2 hk (by omega) (b:=manB ⟨1,0,[]⟩) (by omega)
  have hkm:mset (fun _=>none:ByteArray→Option Fb) (nSeg 1) (some ([],0)) nMan=none:=by unfold mset;rw[if_neg (fun e=>Cv (k:=1) (by omega) (by omega) e.symm)]
  rw[hkm] at b3 b4
  simp only[Option.map_none,Option.getD_none,if_true] at b3 b4
  have hn2:n'=2:=by omega
  subst hn2
  have hrun:runD openOps (newD most)=writeD (Bh (newD most) (nSeg 1)).1 (manB ⟨1,0,[]⟩):=by
    simp only[openOps,runD,Ej]
    rw[hcl,Em (r:=(newD most,0)) rfl,Em a1]
    unfold writeM
    rw[if_pos (Nf.2 hok)]
  have ho:=Lw (D:=newD most) (by rw[hrn])
  rw[ho,hrun]
  refine⟨b1,⟨⟨_,u',b2,?_,?_,?_,(by show u'=(manB ⟨1,0,[]⟩).length+0;omega)⟩,hok,rfl,(by intro c hc;cases hc),rfl,rfl⟩,rfl,rfl,rfl,rfl⟩
  · unfold mset;rw[if_pos rfl]
  · show mset _ nMan _ (nSeg 1) = _
    unfold mset;rw[if_neg (Cv (k:=1) (by omega) (by omega)),if_pos rfl];rfl
  · intro k h1 h2
    unfold mset;rw[if_neg h1,if_neg h2]
theorem Rst.put {C:CS} {M i:Nat} (h:Rst C M i) {cs:List By} {ix:By} (hc:∀ c∈cs,c.length≤1048576) (hi:ix.length≤524288) (hM:M≤16777216)
    (hr:(manB ⟨C.seg,C.size,C.index⟩).length+C.size+(segB (Au C.L cs)).length+(manB ⟨C.seg,C.size+(segB (Au C.L cs)).length,ix⟩).length≤M) :
    (putC C cs ix).2=0∧Rst (putC C cs ix).1 M (i+6)∧(putC C cs ix).1.L=C.L++Au C.L cs∧(putC C cs ix).1.index=ix∧(putC C cs ix).1.seg=C.seg∧(putC C cs ix).1.size=C.size+(segB (Au C.L cs)).length:=by
  obtain⟨V,u,hv,h1,h2,h3,h4⟩:=h.ex
  have hlo:=h.ok.lo
  have hhi:=h.ok.hi
  simp only at hlo hhi
  have hns:=Ct hlo hhi
  have hmain:=Lt (C:=C) (cs:=cs) (ix:=ix) (by rw[h.dead];simp) (by rintro (e | ⟨c,hc1,hc2⟩);(· omega);(· have:=hc c hc1;omega))
  obtain⟨l,hl⟩:∃ l,l=Au C.L cs:=⟨_,rfl⟩
  rw[← hl] at hmain hr ⊢
  have hlc:∀ c∈l,c.length≤1048576:=fun c hcl=>hc c (by rw[hl] at hcl;exact(Dc cs C.L c hcl).2)
  have hok:(Mf.mk C.seg (C.size+(segB l).length) ix).Ok:=⟨hlo,hhi,by show C.size+_≤_;omega,hi⟩
  -- the first step
  have hp1:∃ D1 j,put1 C l=(D1,0)∧Vu D1 M j (mset V (nSeg C.seg) (some (segB (C.L++l),C.size+(segB l).length))) (u+(segB l).length) 2∧j≤i+2:=by
    have hsa:segB C.L++segB l=segB (C.L++l):=by unfold segB;rw[List.flatMap_append]
    by_cases he:l=[]
    · refine ⟨C.D, i, Og he, ?_, by omega⟩
      have hV:mset V (nSeg C.seg) (some (segB (C.L++l),C.size+(segB l).length))=V:=by
        funext z;unfold mset
        split
        · rename_i e;subst e;rw[h2,he];simp[segB]
        · rfl
      rw[hV,he];exact hv
    · obtain ⟨a1, a2⟩ := P5 hv hns h2 (p := segB l) (by omega)
      obtain⟨b1,b2⟩:=Wj a2 hns (f:=(segB C.L++segB l,C.size)) (by unfold mset;rw[if_pos rfl])
      refine⟨(syncD (A3 C.D (nSeg C.seg) (segB l)).1 (nSeg C.seg)).1,i+2,?_,?_,Nat.le_refl _⟩
      · rw [Lv he]
        simp only[runD,Ej]
        rw[Em a1]
        exact Prod.ext rfl b1
      · have hV : mset (mset V (nSeg C.seg) (some (segB C.L ++ segB l, C.size))) (nSeg C.seg) (some (segB C.L ++ segB l, (segB C.L ++ segB l).length)) = mset V (nSeg C.seg) (some (segB (C.L ++ l), C.size + (segB l).length)) := by
          funext z;unfold mset
          split
          · rw[List.length_append,h.sz,hsa]
          · rfl
        rw[← hV];exact b2
  obtain⟨D1,j,hp,hv1,hj⟩:=hp1
  have hnn:mset V (nSeg C.seg) (some (segB (C.L++l),C.size+(segB l).length)) nNew=none:=by
    unfold mset;rw[if_neg (fun e=>D4 hlo hhi e.symm)];exact h3 _ (fun e=>Dp e.symm) (fun e=>D4 hlo hhi e.symm)
  obtain⟨w1,u',n',w2,w3,w4⟩:=S6 hv1 hnn (by omega) (b:=manB ⟨C.seg,C.size+(segB l).length,ix⟩) (by omega)
  have hmm:mset V (nSeg C.seg) (some (segB (C.L++l),C.size+(segB l).length)) nMan=some (manB ⟨C.seg,C.size,C.index⟩,(manB ⟨C.seg,C.size,C.index⟩).length):=by
    unfold mset;rw[if_neg (fun e=>Cv hlo hhi e.symm)];exact h1
  rw[hmm] at w3 w4
  simp only[Option.map_some,Option.getD_some,reduceCtorEq,if_false] at w3 w4
  have hn2:n'=2:=by omega
  subst hn2
  have hR:putR C l ix=writeD D1 (manB ⟨C.seg,C.size+(segB l).length,ix⟩):=by
    unfold putR
    rw[hp]
    show writeM D1 _=_
    unfold writeM
    rw[if_pos (Nf.2 hok)]
  rw[hmain,hR,if_neg (by rw[w1];simp)]
  have w2:Vu (writeD D1 (manB ⟨C.seg,C.size+(segB l).length,ix⟩)).1 M (i+6) _ u' 2:=⟨⟨w2.up.good.mono (by omega),w2.up.down,w2.up.left,w2.up.most⟩,w2.v,w2.used,w2.len⟩
  refine⟨rfl,⟨⟨_,u',w2,?_,?_,?_,(by show u'=(manB ⟨C.seg,C.size+(segB l).length,ix⟩).length+(C.size+(segB l).length);omega)⟩,hok,?_,?_,h.dead,h.next⟩,rfl,rfl,rfl,rfl⟩
  · unfold mset;rw[if_pos rfl]
  · show mset _ nMan _ (nSeg C.seg) = _
    unfold mset;rw[if_neg (Cv hlo hhi),if_pos rfl]
  · intro k e1 e2
    show mset _ nMan _ k=none
    unfold mset;rw[if_neg e1,if_neg e2];exact h3 k e1 e2
  · show (segB (C.L ++ l)).length = C.size + (segB l).length
    have e:segB (C.L++l)=segB C.L++segB l:=by unfold segB;rw[List.flatMap_append]
    rw[e,List.length_append,h.sz]
  · intro c hcl
    rcases List.mem_append.1 hcl with e | e
    · exact h.cl c e
    · exact hlc c e
theorem Rst.cn {C:CS} {M i:Nat} (h:Rst C M i) (hM:M≤16777216) (hl:C.L.length≤4194304):CN C i:=by
  obtain⟨V,u,hv,h1,h2,h3,h4⟩:=h.ex
  have:=h.ok.ix
  have:=h.ok.sz
  exact⟨hv.up.good,h.ok.hi,(by have:=h.ok.sz;simp only at this;omega),(by simp only at *;omega),(fun g z e=>by rw[h.next] at e;cases e),hl,h.cl⟩
theorem Gi {m:Mf} (h:m.Ok):(manB m).length≤m.index.length+35:=by
  have h1:=D6 (n:=m.seg) (by have:=h.hi;omega)
  have h2:=D6 (n:=m.size) (by have:=h.sz;omega)
  have h3:=Oa 3 (Df m) (Ih h)
  have h4:(Df m).length=(lebU m.seg).length+((lebU m.size).length+m.index.length):=by simp[Df]
  unfold manB
  omega
theorem Z2:(Mf.mk 1 0 []).Ok:=⟨by show 1≤1;omega,by show 1≤999999;omega,by show 0≤_;omega,by show 0≤_;omega⟩
theorem Qi:(manB ⟨1,0,[]⟩).length≤35:=Gi Z2
theorem Ux:(segB [[97]]).length=7:=by
  have h:=Adb
  unfold segB
  rw[h];exact Ada
theorem Abj {C:CS} (h:Rst C 1000 5) (hL:C.L=[]) (hz:C.size=0) (hi:C.index=[]) (hs:C.seg=1) :
    (putC C [[97]] [105]).2=0∧Rst (putC C [[97]] [105]).1 1000 11∧(putC C [[97]] [105]).1.L=[[97]]∧(putC C [[97]] [105]).1.index=[105]∧(putC C [[97]] [105]).1.size=7:=by
  have hok:(Mf.mk 1 7 [105]).Ok:=⟨by show 1≤1;omega,by show 1≤999999;omega,by show 7≤_;omega,by show 1≤_;omega⟩
  have hm:=Gi hok
  have hf:=Qi
  have e:Au C.L [[97]]=[[97]]:=by rw[hL];rfl
  simp only[List.length_cons,List.length_nil] at hm
  obtain⟨a,b,c,d,_,f⟩:=h.put (cs:=[[97]]) (ix:=[105]) (by intro x hx;simp only[List.mem_singleton] at hx;subst hx;show 1≤_;omega) (by show 1≤_;omega) (by omega) (by rw[e,Ux,hz,hi,hs,show 0+7=7 from rfl];omega)
  rw[e] at c f
  exact⟨a,b,by rw[c,hL];rfl,d,by rw[f,hz,Ux]⟩
end Go.Proofs.Eng
end
section
set_option maxRecDepth 100000
set_option maxHeartbeats 4000000
namespace Go.Proofs.Eng
open Go.RowKit
open Extern.Stop (cell)
theorem Gv (w:World) (hg:Gt w) :
    Ret Tryz.prog 11 [] w (fun v w'=>v = .bool true∧Ext w w'):=by
 have hgs:=hg.size
 have hX:=Ext.refl w
 refine eN 65 Tryz.func11 ?_
 refine Ab (Aa ?_)
 refine pA (Ac (t_n (Ab (Aa ?_))))
 have hXs1:=hX.size
 refine Ag Tryz.func13 fn13 fb13 (Um 1000 _) rfl ?_
 rintro v1 w1 ⟨⟨gd,rfl,hD⟩,hE1⟩
 have hX:=hX.ext hE1
 have hg:=hg.ext hE1
 have hD:Dsk (since w) _ gd (newD 1000):=hD.mono (fun k _ h=>h.elim False.elim fun q=>Nat.le_trans hXs1 q.1)
 refine pA (Ac (t_n (Ab (Aa ?_))))
 refine pM ?_
 have hXs:=hX.size
 refine Ag Tryz.func12 fn12 fb12 (Fs gd (since w) (newD 1000) _ hD (Rx 1000) (by show 0<_;omega) (by show (-1:Int)≤_;omega) (fun x hx=>by cases hx) (fun k h=>Nat.le_trans hgs (show w.heap.size≤k from h)) hg) rfl ?_
 rintro v2 w2 ⟨⟨pv2,rfl,hor2⟩,hM2⟩
 obtain⟨hn1,hn2,hn3,hn4,hn5,hn6⟩:=Z8 (most:=1000) (M:=1000) (by rfl) (by have:=Qi;omega)
 obtain⟨ho2,g,rfl,hC⟩:=hor2.resolve_right (fun h=>h.1 hn1)
 rw[ho2]
 obtain⟨C1,hC1⟩:∃ c,c=(openC (newD 1000)).1:=⟨_,rfl⟩
 rw[← hC1] at hC hn2 hn3 hn4 hn5 hn6
 have hX:=hX.modS hM2 (Cq w)
 have hg:=hg.modS hM2 (fun k h=>Nat.le_trans hgs (show w.heap.size≤k from h))
 have hC:=hC.sub (w:=w) (fun j h=>h.elim (fun h=>h) fun q=>Nat.le_trans hXs q.1)
 obtain⟨Z,hZ⟩:∃ z,z=w2.heap.size:=⟨_,rfl⟩
 rw[← hZ] at hC
 have hXZ:=Ext.refl w2
 have hwZ:=hX.size
 obtain⟨hp1,hp2,hp3,hp4,hp5⟩:=Abj hn2 hn3 hn4 hn5 hn6
 refine pM ?_
 refine p1 (An rfl rfl) ?_
 refine p1 (An rfl rfl) ?_
 refine pA (pA (Ac (t_n (Ab (Ab (Aa ?_))))))
 refine pM ?_
 refine p1 ((A1 rfl rfl).cast (congrArg Value.bool (decide_eq_false (by simp)))) ?_
 refine pM (gM 13 ?_)
 refine g1 13 rfl rfl ((Be u30 rfl rfl).cast (congrArg Value.bool (decide_eq_false (by simp)))) ?_
 refine p1 (Ap rfl (by conv=>lhs;whnf)) ?_
 refine pM (gM 17 ?_)
 refine Bm 17 rfl rfl ?_
 refine Av u23 inf5 rfl (by decide) (fun base hb=>Ce (by rfl) base hb) ?_
 intro w3 g19 hN19
 have hN19:New _ _ g19 ([(97:UInt8)].map fun b=>[cell b]).flatten.toArray 5:=hN19
 have hg19:=hN19.g_eq
 have hZs:=hXZ.size
 have hO19:Own kByte 5 0 0 w3 (some ⟨g19,0,none⟩) 1 1 [(97:UInt8)]:=Cp (B0:=0) [(97:UInt8)] hN19 (Nat.zero_le _) (by simp)
 have hJ19:=hO19.sl
 have hE3:=hN19.ext
 have hX:=hX.ext hE3
 have hXZ:=hXZ.ext hE3
 refine Bm 17 rfl rfl ?_
 refine Ty u23 u5 rfl hN19.blk ?_
 intro w4 hO4 hR4
 have hX:=hX.mod (hO4.mod (B:=w.heap.size) (by omega)) (Nat.le_refl _)
 have hXZ:=hXZ.mod (hO4.mod (B:=Z) (by omega)) (by omega)
 have hs19:=(slx hJ19 hR4).re (Nat.le_refl _) 5
 have ho19:=Ww (w:=w) (Z:=Z) hs19 rfl (by omega)
 refine Bm 17 rfl rfl ?_
 refine Av u22 inf23 rfl (by decide) (fun base hb=>Ce (by rfl) base hb) ?_
 intro w5 g21 hN21
 have hB21:=hN21.blk
 have hE5:=hN21.ext
 have hs19:=hs19.ext hE5
 have hX:=hX.ext hE5
 have hXZ:=hXZ.ext hE5
 refine Bm 17 rfl rfl ?_
 refine Av u23 inf5 rfl (by decide) (fun base hb=>Ce (by rfl) base hb) ?_
 intro w6 g22 hN22
 have hN22:New _ _ g22 ([(105:UInt8)].map fun b=>[cell b]).flatten.toArray 5:=hN22
 have hg22:=hN22.g_eq
 have hZs:=hXZ.size
 have hO22:Own kByte 5 0 0 w6 (some ⟨g22,0,none⟩) 1 1 [(105:UInt8)]:=Cp (B0:=0) [(105:UInt8)] hN22 (Nat.zero_le _) (by simp)
 have hJ22:=hO22.sl
 have hE6:=hN22.ext
 have hX:=hX.ext hE6
 have hXZ:=hXZ.ext hE6
 have hB21:=hB21.ext hE6
 refine Bm 17 rfl rfl ?_
 refine Ty u23 u5 rfl hN22.blk ?_
 intro w7 hO7 hR7
 have hX:=hX.mod (hO7.mod (B:=w.heap.size) (by omega)) (Nat.le_refl _)
 have hXZ:=hXZ.mod (hO7.mod (B:=Z) (by omega)) (by omega)
 have hs22:=(slx hJ22 hR7).re (Nat.le_refl _) 5
 have ho22:=Ww (w:=w) (Z:=Z) hs22 rfl (by omega)
 have hs19:=(slx (hs19.ext hN22.ext) hR7).re (Nat.le_refl _) 5
 have hB21:=hB21.one hO7 (by decide)
 have hkl:=Ab3 hB21 hs19
 refine Bm 17 rfl rfl ?_
 obtain⟨Sd,r,μ,pi,ni,ci,nx,hCX⟩:=hC.ext hXZ
 refine Ag Tryz.func14 fn14 fb14 (Qa g gd r (sub w Z) Sd μ pi nx ni ci C1 5 _ hCX (hn2.cn (by omega) (by rw[hn3];simp)) (fun j h=>Nat.le_trans hgs h.1) (hg.ext hXZ) (by omega) [[97]] _ _ _ _ hkl (Nat.le_refl _) (by omega) [105] _ _ _ ho22) rfl ?_
 rintro v8 w8 ⟨rfl,hC,hM8⟩
 rw[hp1]
 have hX:=hX.modS hM8 (fun k h=>h.1)
 have hg:=(hg.ext hXZ).modS hM8 (fun j h=>Nat.le_trans hgs h.1)
 obtain⟨C2,hC2⟩:∃ c,c=(putC C1 [[97]] [105]).1:=⟨_,rfl⟩
 rw[← hC2] at hC hp2 hp3 hp4 hp5
 obtain⟨Sd,r,μ,pi,ni,ci,nx,hCX⟩:=hC
 have hXs3:=hXZ.size
 have hD:Dsk (since w) _ gd C2.D:=hCX.d.mono (fun j _ h=>(hCX.sub j h).elim (fun h=>h.1) fun q=>by show w.heap.size≤j;have:=q.1;omega)
 have hU:=hp2.cn (by omega) (by rw[hp3];simp)
 refine g1 17 rfl rfl ((A1 rfl rfl).cast (congrArg Value.bool (decide_eq_false (by simp)))) ?_
 refine p1 (Ap rfl (by conv=>lhs;whnf)) ?_
 refine Ac (t_n ?_)
 refine c_f rfl ?_
 refine Ah (t_n (Ab (Aa ?_)))
 refine pM ?_
 have hXs:=hX.size
 refine Ag Tryz.func12 fn12 fb12 (Fs gd (since w) C2.D _ hD hU.good.ok (Nat.lt_of_le_of_lt hU.good.steps (by omega)) hU.good.left hU.good.names (fun k h=>Nat.le_trans hgs (show w.heap.size≤k from h)) hg) rfl ?_
 rintro v9 w9 ⟨⟨pv9,rfl,hor9⟩,hM9⟩
 obtain⟨ho3,g2,rfl,hC⟩:=hor9.resolve_right (fun h=>h.1 (by rw[hp2.open]))
 rw[ho3]
 rw[hp2.open] at hC
 have hX:=hX.modS hM9 (Cq w)
 obtain⟨Se,r2,μ2,pi2,ni2,ci2,nx2,hCX⟩:=hC
 refine pM ?_
 refine p1 (An rfl rfl) ?_
 refine p1 (An rfl rfl) ?_
 refine pA (pA (Ac (t_n (Ab (Aa ?_)))))
 refine pM ?_
 refine p1 ((Br rfl rfl).cast (congrArg Value.bool (decide_eq_true (rfl)))) ?_
 refine pM (gM 34 ?_)
 refine g1 34 rfl rfl ((Hm u30 rfl rfl).cast (congrArg Value.bool (decide_eq_true (by simp)))) ?_
 refine p1 (Aq rfl (by conv=>lhs;whnf)) ?_
 refine pM (gM 38 ?_)
 refine Bm 38 rfl rfl ?_
 refine Ag Tryz.func31 fn31 fb31 (H7 g2 gd r2 _ Se μ2 pi2 nx2 ni2 ci2 C2 11 _ hCX hU) rfl ?_
 rintro v10 w10 ⟨⟨qi,mi,cj,rfl,hO⟩,hE10⟩
 have hX:=hX.ext hE10
 have hCX:=hCX.ext hE10
 rw[hp4] at hO
 refine g1 38 rfl rfl (A6 u23 u5 u9 rfl hO.sl) ?_
 refine g1 38 rfl rfl ((E5 rfl (show _=Value.string (toStr [105]) from rfl)).cast (congrArg Value.bool (decide_eq_true (rfl)))) ?_
 refine p1 (Aq rfl (by conv=>lhs;whnf)) ?_
 refine pM (gM 44 ?_)
 refine Bm 44 rfl rfl ?_
 refine Ag Tryz.func15 fn15 fb15 (Va g2 gd r2 _ Se μ2 pi2 nx2 ni2 ci2 C2 11 _ hCX hU) rfl ?_
 rintro v11 w11 ⟨rfl,hE11⟩
 have hX:=hX.ext hE11
 have hCX:=hCX.ext hE11
 refine g1 44 rfl rfl ((Br rfl rfl).cast (congrArg Value.bool (decide_eq_true (by rw[hp5];rfl)))) ?_
 refine p1 (Aq rfl (by conv=>lhs;whnf)) ?_
 refine pM (gM 49 ?_)
 refine Bm 49 rfl rfl ?_
 refine Ag Tryz.func30 fn30 fb30 (J6 g2 gd r2 _ Se μ2 pi2 nx2 ni2 ci2 C2 11 _ hCX hU) rfl ?_
 rintro v12 w12 ⟨⟨qk,mk,ck,rfl,hK⟩,hE12⟩
 have hX:=hX.ext hE12
 have hkl:=hK.len
 rw[hp3] at hkl
 have hk1:mk=1:=hkl.symm
 refine g1 49 rfl rfl (Aj u54 rfl) ?_
 refine g1 49 rfl rfl ((Br rfl rfl).cast (congrArg Value.bool (decide_eq_true (by rw[hk1];rfl)))) ?_
 refine p1 (Aq rfl (by conv=>lhs;whnf)) ?_
 refine pM ?_
 refine p1 (Aq rfl (by conv=>lhs;whnf)) ?_
 refine pM ?_
 refine p1 (Aq rfl (by conv=>lhs;whnf)) ?_
 refine pM ?_
 refine p1 (Aq rfl (by conv=>lhs;whnf)) ?_
 refine pM ?_
 refine p1 (Aq rfl (by conv=>lhs;whnf)) ?_
 refine pM ?_
 refine p1 (Aq rfl (by conv=>lhs;whnf)) ?_
 refine pA (Ac (t_n (Ak ?_)))
 refine eR1 ?_
 exact⟨rfl,hX⟩
end Go.Proofs.Eng
end
section
set_option maxRecDepth 100000
set_option maxHeartbeats 4000000
namespace Go.Proofs.Eng
open Go.RowKit
open Extern.Stop (cell)
theorem X5 (xss:List By) (B:Nat) (p:Option Addr) (n c:Nat) (w:World) (hl:Sl kLo 23 B w p n c xss) (acts:List CAct) (B2:Nat) (q:Option Addr) (m c2:Nat) (ha:Sl kCA 26 B2 w q m c2 acts) :
    Ret Tryz.prog 9 [.slice p n c,.slice q m c2] w (fun v w'=>(∃ b:Bool,v = .bool b∧(b=true→xss.length≤20∧acts.length≤60∧msum xss+msum (acts.map CAct.index)≤4000))∧Ext w w'):=by
 have hX:=Ext.refl w
 refine eN 47 Tryz.func9 ?_
 refine Ab (Aa ?_)
 refine pA (Ac (t_n (Ab (Ab ?_))))
 have hWr1:=Ext.refl w
 refine G2 (ι:=Unit) [8,9,10,11,12,13,14,15] (fun _=>[(15,.bool (decide (20<n∨60<m)))]) (fun _ w'=>Ext w w') ?_ ?_
 ·skip
  refine Aa ?_
  refine pM ?_
  refine p1 (Aj u22 rfl) ?_
  refine p1 (De rfl rfl) ?_
  refine p1b (Am (by conv=>lhs;whnf)) (fun hb1_3=>?_) (fun hb1_3=>?_)
  ·try simp only[dA,dB,dC,dD,dE,dF,dG,Int.not_lt,Int.not_le] at hb1_3
   refine gF 11 (gF 11 (gF 11 ?_))
   refine p1 (Aq rfl (by conv=>lhs;whnf)) ?_
   refine Ac ?_
   refine t_n (aK () ⟨congrArg Value.bool (by exact(decide_eq_true (by omega)).symm),trivial⟩ hWr1)
  try simp only[dA,dB,dC,dD,dE,dF,dG,Int.not_lt,Int.not_le] at hb1_3
  refine gM 11 ?_
  refine g1 11 rfl rfl (Aj u27 rfl) ?_
  refine g1 11 rfl rfl (De rfl rfl) ?_
  refine p1 (Ap rfl (by conv=>lhs;whnf)) ?_
  refine Ac ?_
  refine t_n (aK () ⟨congrArg Value.bool (by exact decide_eq_decide.2 (by omega)),trivial⟩ hWr1)
 rintro _ Gr1 w1 hE1
 have hX:=hX.ext hE1
 refine t_n ?_
 refine As rfl (fun hc15=>?_) (fun hc15=>?_)
 ·try simp only[dA,dB,dC,dD,dE,dF,dG,Int.not_lt,Int.not_le] at hc15
  refine Ab (Aa ?_)
  refine pA (Ac (t_n (Ak (t_r ?_))))
  refine eR1 ?_
  exact⟨⟨false,rfl,fun h=>by cases h⟩,hX⟩
 try simp only[dA,dB,dC,dD,dE,dF,dG,Int.not_lt,Int.not_le] at hc15
 refine Ah (t_n (Ab (Aa ?_)))
 refine pA (Ac (t_n (Ab (Ab ?_))))
 have hln:=hl.len
 have hlc:=hl.cap
 have hlf:=hl.fit
 have han:=ha.len
 have hac:=ha.cap
 have haf:=ha.fit
 refine Aa ?_
 refine pA (Ac (t_n (Al ?_)))
 have hWL0:=Ext.refl w1
 refine A9 (ι:=Nat) [5,6,16,17,18,19,20,21,22,23,24,25,26,27,28,29] (fun k=>[(5,.int .i64 ((msum (xss.take k):Nat):Int)),(6,.int .i64 (k:Int))]) (fun k w'=>Ext w1 w'∧(k≤n)) (fun k=>n - k) (0) ⟨rfl,rfl,trivial⟩ ⟨Ext.refl _,by omega⟩ ?_
 rintro k GL0 w2 ⟨hE2,hk⟩
 have hX:=hX.ext hE2
 have hWL0:=hE2
 have hms:=Tz (xss.take k)
 rw[List.length_take] at hms
 refine Ab (Ab (Aa ?_))
 refine pM (pM ?_)
 refine p1 (Aj u22 rfl) ?_
 refine p1 (Bq rfl rfl) ?_
 refine Ac (t_n ?_)
 refine As rfl (fun hc19=>?_) (fun hc19=>?_)
 ·try simp only[dA,dB,dC,dD,dE,dF,dG,Int.not_lt,Int.not_le] at hc19
  refine Ah (t_n (Ab (Al ?_)))
  obtain⟨qk,mk,ck,hck,hrow⟩:=hl.loAt k (by omega)
  have hrl:=hrow.len
  have hst:=Qh (l:=xss) (k:=k) (by omega)
  refine Aa ?_
  refine pM (pM (pM ?_))
  refine p1 (Cl (i:=k) u22 sz23 rfl rfl ((hl.ext hX).adr Ed (by omega)) (by omega)) ?_
  refine p1 (Ae un23 rfl (hX.cell hck)) ?_
  refine p1 (Aj u23 rfl) ?_
  refine p1 (We rfl rfl) ?_
  refine p1 ((Ax rfl rfl (Ai (by omega) (by omega))).cast (congrArg (Value.int .i64) (by rw[hst,hrl];omega:_=((msum (xss.take (k+1)):Nat):Int)))) ?_
  refine pA (Ac (b_n (t_n (Aa ?_))))
  refine pM ?_
  refine p1 (Ax rfl rfl (Ai (by omega) (by omega))) ?_
  refine pA (Ac ?_)
  refine t_n (aK (k+1) ⟨rfl,rfl,trivial⟩ ?_)
  exact⟨⟨hWL0,(by omega)⟩,by((show _<_);omega)⟩
 try simp only[dA,dB,dC,dD,dE,dF,dG,Int.not_lt,Int.not_le] at hc19
 have hkk:xss.take k=xss:=List.take_of_length_le (by omega)
 refine A5 (t_e (t_e (Bo (t_n (Ab (Ab (Aa ?_)))))))
 refine pA (Ac (t_n (Al ?_)))
 have hWL2:=Ext.refl w2
 refine A9 (ι:=Nat) [5,7,30,31,32,33,34,35,36,37,38,39,40,41,42,43,44] (fun j=>[(5,.int .i64 ((msum (xss.take k)+msum ((acts.map CAct.index).take j):Nat):Int)),(7,.int .i64 (j:Int))]) (fun j w'=>Ext w2 w'∧(j≤m)) (fun j=>m - j) (0) ⟨rfl,rfl,trivial⟩ ⟨Ext.refl _,by omega⟩ ?_
 rintro j GL2 w3 ⟨hE3,hj⟩
 have hX:=hX.ext hE3
 have hWL2:=hE3
 have hms2:=Tz ((acts.map CAct.index).take j)
 rw[List.length_take] at hms2
 refine Ab (Ab (Aa ?_))
 refine pM (pM ?_)
 refine p1 (Aj u27 rfl) ?_
 refine p1 (Bq rfl rfl) ?_
 refine Ac (t_n ?_)
 refine As rfl (fun hc33=>?_) (fun hc33=>?_)
 ·try simp only[dA,dB,dC,dD,dE,dF,dG,Int.not_lt,Int.not_le] at hc33
  refine Ah (t_n (Ab (Al ?_)))
  obtain⟨pa1,na1,ca1,pa2,na2,ca2,pa3,na3,ca3,hra,hr1,hr2,hr3,hb1,hb2⟩:=ha.caAt j (by omega)
  have hrl2:=hr2.len
  have hst2:=Qh (l:=acts.map CAct.index) (k:=j) (by rw[List.length_map];omega)
  have hge:(acts.map CAct.index).getD j []=(acts.getD j default).index:=by rw[List.getD_eq_getElem?_getD,List.getD_eq_getElem?_getD,List.getElem?_map,List.getElem?_eq_getElem (by omega)];rfl
  rw[hge] at hst2
  refine Aa ?_
  refine pM (pM (pM ?_))
  refine p1 (Er u27 sz26 rfl rfl ((ha.ext hX).adr Jr (by omega)) (by omega) (by omega)) ?_
  refine p1 (Ad Vz sz23 rfl) ?_
  refine p1 (Ae un23 rfl (hX.cell (hra 2 _ rfl))) ?_
  refine p1 (Aj u23 rfl) ?_
  refine p1 (We rfl rfl) ?_
  refine p1 ((Ax rfl rfl (Ai (by omega) (by omega))).cast (congrArg (Value.int .i64) (by rw[hst2,hrl2];omega:_=((msum (xss.take k)+msum ((acts.map CAct.index).take (j+1)):Nat):Int)))) ?_
  refine pA (Ac (b_n (t_n (Aa ?_))))
  refine pM ?_
  refine p1 (Ax rfl rfl (Ai (by omega) (by omega))) ?_
  refine pA (Ac ?_)
  refine t_n (aK (j+1) ⟨rfl,rfl,trivial⟩ ?_)
  exact⟨⟨hWL2,(by omega)⟩,by((show _<_);omega)⟩
 try simp only[dA,dB,dC,dD,dE,dF,dG,Int.not_lt,Int.not_le] at hc33
 have hkj:(acts.map CAct.index).take j=acts.map CAct.index:=List.take_of_length_le (by rw[List.length_map];omega)
 refine A5 (t_e (t_e (Bo (t_n (Ab (Aa ?_))))))
 refine pM ?_
 refine p1 (Add rfl rfl) ?_
 refine pA (Ac (t_n (Ak ?_)))
 refine eR1 ?_
 exact⟨⟨_,rfl,fun h=>⟨by omega,by omega,by have:=of_decide_eq_true h;rw[hkk,hkj] at this;omega⟩⟩,hX⟩
theorem Y2 {l:List By} (h:∀ a b,a<l.length→b<a→shaF (l.getD a [])=shaF (l.getD b [])→l.getD a []=l.getD b []):∀ x∈l,∀ y∈l,shaF x=shaF y→x=y:=fun x hx y hy e=>by
  obtain⟨a,ha,ea⟩:=List.mem_iff_getElem.1 hx
  obtain⟨b,hb,eb⟩:=List.mem_iff_getElem.1 hy
  have ea:l.getD a []=x:=by rw[List.getD_eq_getElem?_getD,List.getElem?_eq_getElem ha,← ea];rfl
  have eb:l.getD b []=y:=by rw[List.getD_eq_getElem?_getD,List.getElem?_eq_getElem hb,← eb];rfl
  rw[← ea,← eb] at e ⊢
  rcases Nat.lt_trichotomy a b with q | q | q
  · exact(h b a hb q e.symm).symm
  · rw[q]
  · exact h a b ha q e
def HasP (C:CS) (l:List By) (ix:By):Prop:=(∀ x∈l,findF C.L (shaF x)=some x)∧srt (C.L.map shaF)=srt (l.map shaF)∧C.index=ix
theorem T3 (xss:List By) (B:Nat) (p:Option Addr) (n c:Nat) (w:World) (hl:Sl kLo 23 B w p n c xss) (hg:Gt w) (hBw:B≤w.heap.size) (hle:∀ x∈xss,x.length≤4000) :
    Ret Tryz.prog 10 [.slice p n c] w (fun v w'=>(∃ b:Bool,v = .bool b∧(b=true→∀ x∈xss,∀ y∈xss,shaF x=shaF y→x=y))∧Ext w w'):=by
 have hX:=Ext.refl w
 refine eN 40 Tryz.func10 ?_
 refine Ab (Aa ?_)
 refine pA (Ac (t_n (Ab (Ab ?_))))
 have hln:=hl.len
 have hlc:=hl.cap
 have hlf:=hl.fit
 have hle:∀ x,xss.getD x []∈xss→(xss.getD x []).length≤4000:=fun x hx=>hle _ hx
 have hmm:∀ i,i<n→xss.getD i []∈xss:=fun i hi=>Bz (z:=[]) (i:=i) (by omega) rfl
 refine Aa ?_
 refine pA (Ac (t_n (Al ?_)))
 have hWL0:=Ext.refl w
 refine A9 (ι:=Nat) [2,3,4,5,6,7,8,9,10,11,12,13,14,15,16,17,18,19,20,21,22,23,24,25,26,27,28,29,30,31,32,33,34,35,36,37,38,39] (fun i=>[(3,.int .i64 (i:Int))]) (fun i w'=>Ext w w'∧(i≤n∧∀ a b,a<i→b<a→shaF (xss.getD a [])=shaF (xss.getD b [])→xss.getD a []=xss.getD b [])) (fun i=>n - i) (0) ⟨rfl,trivial⟩ ⟨Ext.refl _,⟨by omega,fun a b h=>by omega⟩⟩ ?_
 rintro i GL0 w1 ⟨hE1,hi,hA⟩
 have hX:=hX.ext hE1
 have hWL0:=hE1
 refine Ab (Ab (Aa ?_))
 refine pM (pM ?_)
 refine p1 (Aj u22 rfl) ?_
 refine p1 (Bq rfl rfl) ?_
 refine Ac (t_n ?_)
 refine As rfl (fun hc8=>?_) (fun hc8=>?_)
 ·refine Ah (t_n (Ab (Al (Ab (Aa ?_)))))
  refine pA (Ac (t_n (Al ?_)))
  have hWL2:=Ext.refl w1
  refine A9 (ι:=Nat) [2,4,11,12,13,14,15,16,17,18,19,20,21,22,23,24,25,26,27,28,29,30,31,32,33,34,35,36,37,38,39] (fun k=>[(4,.int .i64 (k:Int))]) (fun k w'=>Ext w1 w'∧(k≤i∧∀ b,b<k→shaF (xss.getD i [])=shaF (xss.getD b [])→xss.getD i []=xss.getD b [])) (fun k=>i - k) (0) ⟨rfl,trivial⟩ ⟨Ext.refl _,⟨by omega,fun b h=>by omega⟩⟩ ?_
  rintro k GL2 w2 ⟨hE2,hk,hK⟩
  have hX:=hX.ext hE2
  have hWL0:=hWL0.ext hE2
  have hWL2:=hE2
  refine Ab (Ab (Aa ?_))
  refine pM (pM ?_)
  refine p1 (Bq rfl rfl) ?_
  refine Ac (t_n ?_)
  refine As rfl (fun hc13=>?_) (fun hc13=>?_)
  ·refine Ah (t_n (Ab (Al (Ab ?_))))
   obtain⟨q1,m1,c1,hc1,hr1⟩:=hl.loAt i (by omega)
   obtain⟨q2,m2,c2,hc2,hr2⟩:=hl.loAt k (by omega)
   have hl1:=hle i (hmm i (by omega))
   have hl2:=hle k (hmm k (by omega))
   have hn1:=hr1.len
   have hn2:=hr2.len
   refine B7 (fun w1 w2=>Ext w1 w2) mixed ?_
   intro w3 hE3
   have hX:=hX.ext hE3
   have hWL2:=hWL2.ext hE3
   have hSr7:(fun w1 w2=>Ext w1 w2) w3 w3:=Ext.refl w3
   refine hT 0 rfl hSr7 (fun wS hSS=>by(exact(Am (by conv=>lhs;whnf)))) ?_
   refine hT 1 rfl hSr7 (fun wS hSS=>by(exact(Am (by conv=>lhs;whnf)))) ?_
   refine hT 2 rfl hSr7 (fun wS hSS=>by(have hX:=hX.ext hSS;exact(Cl (i:=i) u22 sz23 rfl rfl ((hl.ext hX).adr Ed (by omega)) (by omega)))) ?_
   refine hT 3 rfl hSr7 (fun wS hSS=>by(have hX:=hX.ext hSS;exact(Ae un23 rfl (hX.cell hc1)))) ?_
   refine hT 5 rfl hSr7 (fun wS hSS=>by(exact(Am (by conv=>lhs;whnf)))) ?_
   refine hT 6 rfl hSr7 (fun wS hSS=>by(exact(Am (by conv=>lhs;whnf)))) ?_
   refine hT 7 rfl hSr7 (fun wS hSS=>by(have hX:=hX.ext hSS;exact(Cl (i:=k) u22 sz23 rfl rfl ((hl.ext hX).adr Ed (by omega)) (by omega)))) ?_
   refine hT 8 rfl hSr7 (fun wS hSS=>by(have hX:=hX.ext hSS;exact(Ae un23 rfl (hX.cell hc2)))) ?_
   refine h1L 4 (fun Q4 hQ4=>?_)
   refine Ag Tryz.func34 fn34 fb34 (Jd (xss.getD i []) _ _ _ _ _ (hr1.ext hX).sl5 (by omega) (Nat.le_trans hBw hX.size) (hg.ext hX).r (hg.ext hX).b (by have:=(hg.ext hX).size;omega)) rfl ?_
   rintro v4 w4 ⟨rfl,hE4⟩
   have hX:=hX.ext hE4
   have hWL2:=hWL2.ext hE4
   have hSr7:=hSr7.ext hE4
   refine Ao hQ4 ⟨hSr7,?_⟩
   refine h1L 9 (fun Q9 hQ9=>?_)
   refine Ag Tryz.func34 fn34 fb34 (Jd (xss.getD k []) _ _ _ _ _ (hr2.ext hX).sl5 (by omega) (Nat.le_trans hBw hX.size) (hg.ext hX).r (hg.ext hX).b (by have:=(hg.ext hX).size;omega)) rfl ?_
   rintro v5 w5 ⟨rfl,hE5⟩
   have hX:=hX.ext hE5
   have hWL2:=hWL2.ext hE5
   have hSr7:=hSr7.ext hE5
   refine Ao hQ9 ⟨hSr7,?_⟩
   refine hT 10 rfl hSr7 (fun wS hSS=>by(exact(Fm u64 u5 sz5 eg64 rfl rfl (shaF (xss.getD i [])).2 (shaF (xss.getD k [])).2))) ?_
   refine Xb 11 rfl (by kernel_rfl) (by kernel_rfl) (by kernel_rfl) hSr7 (fun wS hSS=>by( exact(Am (by conv=>lhs;whnf)))) (fun hb7_11=>?_) (fun hb7_11=>?_)
   ·refine C8 12 27 rfl rfl rfl (by kernel_rfl) (by kernel_rfl) (by kernel_rfl) hSr7 (fun wS hSS=>by( exact(Am (by conv=>lhs;whnf)))) ?_
    refine C8 13 27 rfl rfl rfl (by kernel_rfl) (by kernel_rfl) (by kernel_rfl) hSr7 (fun wS hSS=>by( exact(Am (by conv=>lhs;whnf)))) ?_
    refine C8 14 27 rfl rfl rfl (by kernel_rfl) (by kernel_rfl) (by kernel_rfl) hSr7 (fun wS hSS=>by( exact(Cl (i:=i) u22 sz23 rfl rfl ((hl.ext hX).adr Ed (by omega)) (by omega)))) ?_
    refine C8 17 27 rfl rfl rfl (by kernel_rfl) (by kernel_rfl) (by kernel_rfl) hSr7 (fun wS hSS=>by( exact(Am (by conv=>lhs;whnf)))) ?_
    refine C8 18 27 rfl rfl rfl (by kernel_rfl) (by kernel_rfl) (by kernel_rfl) hSr7 (fun wS hSS=>by( exact(Am (by conv=>lhs;whnf)))) ?_
    refine C8 19 27 rfl rfl rfl (by kernel_rfl) (by kernel_rfl) (by kernel_rfl) hSr7 (fun wS hSS=>by( exact(Cl (i:=k) u22 sz23 rfl rfl ((hl.ext hX).adr Ed (by omega)) (by omega)))) ?_
    refine Mr 15 20 _ _ rfl rfl (by kernel_rfl) (Bp (fun Q15 hQ15=>?_)) (Bp (fun Q20 hQ20=>?_))
    ·skip
     refine g1 27 rfl rfl (Ae un23 rfl (hX.cell hc1)) ?_
     refine Ao hQ15 ⟨hSr7,?_⟩
     refine Mr 16 20 _ _ rfl rfl (by kernel_rfl) (Bp (fun Q16 hQ16=>?_)) (Bp (fun Q20 hQ20=>?_))
     ·skip
      refine g1 27 rfl rfl (A6 u23 u5 u9 rfl (hr1.ext hX).sl5) ?_
      refine Ao hQ16 ⟨hSr7,?_⟩
      refine h1L 20 (fun Q20 hQ20=>?_)
      refine g1 27 rfl rfl (Ae un23 rfl (hX.cell hc2)) ?_
      refine Ao hQ20 ⟨hSr7,?_⟩
      refine h1L 21 (fun Q21 hQ21=>?_)
      refine g1 27 rfl rfl (A6 u23 u5 u9 rfl (hr2.ext hX).sl5) ?_
      refine Ao hQ21 ⟨hSr7,?_⟩
      refine C8 22 27 rfl rfl rfl (by kernel_rfl) (by kernel_rfl) (by kernel_rfl) hSr7 (fun wS hSS=>by( exact(Eb rfl rfl))) ?_
      refine hT 23 rfl hSr7 (fun wS hSS=>by(exact(Aq rfl (by conv=>lhs;whnf)))) ?_
      refine Bk (by kernel_rfl) ?_
      refine t_n ?_
      refine As rfl (fun hc39=>?_) (fun hc39=>?_)
      ·refine Ab (Aa ?_)
       refine pA (Ac (t_n (Ak (b_r (t_r (t_r (b_r (b_r (t_r (t_r (b_r (t_r ?_))))))))))))
       refine eR1 ?_
       exact⟨⟨false,rfl,fun h=>by cases h⟩,hX⟩
      have hik:shaF (xss.getD i [])=shaF (xss.getD k [])→xss.getD i []=xss.getD k []:=fun e=>by
        exact Cy (Classical.byContradiction hc39)
      refine Ah (b_n (t_n (Aa ?_)))
      refine pM ?_
      refine p1 (Ax rfl rfl (Ai (by omega) (by omega))) ?_
      refine pA (Ac ?_)
      refine t_n (aK (k+1) ⟨rfl,trivial⟩ ?_)
      exact⟨⟨hWL2,⟨by omega,fun b h=>if h2:b<k then hK b h2 else by rw[show b=k from by omega];exact hik⟩⟩,by((show _<_);omega)⟩
     skip
     refine g1 27 rfl rfl (Ae un23 rfl (hX.cell hc2)) ?_
     refine Ao hQ20 ⟨hSr7,?_⟩
     refine Mr 16 21 _ _ rfl rfl (by kernel_rfl) (Bp (fun Q16 hQ16=>?_)) (Bp (fun Q21 hQ21=>?_))
     ·skip
      refine g1 27 rfl rfl (A6 u23 u5 u9 rfl (hr1.ext hX).sl5) ?_
      refine Ao hQ16 ⟨hSr7,?_⟩
      refine h1L 21 (fun Q21 hQ21=>?_)
      refine g1 27 rfl rfl (A6 u23 u5 u9 rfl (hr2.ext hX).sl5) ?_
      refine Ao hQ21 ⟨hSr7,?_⟩
      refine C8 22 27 rfl rfl rfl (by kernel_rfl) (by kernel_rfl) (by kernel_rfl) hSr7 (fun wS hSS=>by( exact(Eb rfl rfl))) ?_
      refine hT 23 rfl hSr7 (fun wS hSS=>by(exact(Aq rfl (by conv=>lhs;whnf)))) ?_
      refine Bk (by kernel_rfl) ?_
      refine t_n ?_
      refine As rfl (fun hc39=>?_) (fun hc39=>?_)
      ·refine Ab (Aa ?_)
       refine pA (Ac (t_n (Ak (b_r (t_r (t_r (b_r (b_r (t_r (t_r (b_r (t_r ?_))))))))))))
       refine eR1 ?_
       exact⟨⟨false,rfl,fun h=>by cases h⟩,hX⟩
      have hik:shaF (xss.getD i [])=shaF (xss.getD k [])→xss.getD i []=xss.getD k []:=fun e=>by
        exact Cy (Classical.byContradiction hc39)
      refine Ah (b_n (t_n (Aa ?_)))
      refine pM ?_
      refine p1 (Ax rfl rfl (Ai (by omega) (by omega))) ?_
      refine pA (Ac ?_)
      refine t_n (aK (k+1) ⟨rfl,trivial⟩ ?_)
      exact⟨⟨hWL2,⟨by omega,fun b h=>if h2:b<k then hK b h2 else by rw[show b=k from by omega];exact hik⟩⟩,by((show _<_);omega)⟩
     skip
     refine g1 27 rfl rfl (A6 u23 u5 u9 rfl (hr2.ext hX).sl5) ?_
     refine Ao hQ21 ⟨hSr7,?_⟩
     refine h1L 16 (fun Q16 hQ16=>?_)
     refine g1 27 rfl rfl (A6 u23 u5 u9 rfl (hr1.ext hX).sl5) ?_
     refine Ao hQ16 ⟨hSr7,?_⟩
     refine C8 22 27 rfl rfl rfl (by kernel_rfl) (by kernel_rfl) (by kernel_rfl) hSr7 (fun wS hSS=>by( exact(Eb rfl rfl))) ?_
     refine hT 23 rfl hSr7 (fun wS hSS=>by(exact(Aq rfl (by conv=>lhs;whnf)))) ?_
     refine Bk (by kernel_rfl) ?_
     refine t_n ?_
     refine As rfl (fun hc39=>?_) (fun hc39=>?_)
     ·refine Ab (Aa ?_)
      refine pA (Ac (t_n (Ak (b_r (t_r (t_r (b_r (b_r (t_r (t_r (b_r (t_r ?_))))))))))))
      refine eR1 ?_
      exact⟨⟨false,rfl,fun h=>by cases h⟩,hX⟩
     have hik:shaF (xss.getD i [])=shaF (xss.getD k [])→xss.getD i []=xss.getD k []:=fun e=>by
       exact Cy (Classical.byContradiction hc39)
     refine Ah (b_n (t_n (Aa ?_)))
     refine pM ?_
     refine p1 (Ax rfl rfl (Ai (by omega) (by omega))) ?_
     refine pA (Ac ?_)
     refine t_n (aK (k+1) ⟨rfl,trivial⟩ ?_)
     exact⟨⟨hWL2,⟨by omega,fun b h=>if h2:b<k then hK b h2 else by rw[show b=k from by omega];exact hik⟩⟩,by((show _<_);omega)⟩
    skip
    refine g1 27 rfl rfl (Ae un23 rfl (hX.cell hc2)) ?_
    refine Ao hQ20 ⟨hSr7,?_⟩
    refine Mr 15 21 _ _ rfl rfl (by kernel_rfl) (Bp (fun Q15 hQ15=>?_)) (Bp (fun Q21 hQ21=>?_))
    ·skip
     refine g1 27 rfl rfl (Ae un23 rfl (hX.cell hc1)) ?_
     refine Ao hQ15 ⟨hSr7,?_⟩
     refine Mr 16 21 _ _ rfl rfl (by kernel_rfl) (Bp (fun Q16 hQ16=>?_)) (Bp (fun Q21 hQ21=>?_))
     ·skip
      refine g1 27 rfl rfl (A6 u23 u5 u9 rfl (hr1.ext hX).sl5) ?_
      refine Ao hQ16 ⟨hSr7,?_⟩
      refine h1L 21 (fun Q21 hQ21=>?_)
      refine g1 27 rfl rfl (A6 u23 u5 u9 rfl (hr2.ext hX).sl5) ?_
      refine Ao hQ21 ⟨hSr7,?_⟩
      refine C8 22 27 rfl rfl rfl (by kernel_rfl) (by kernel_rfl) (by kernel_rfl) hSr7 (fun wS hSS=>by( exact(Eb rfl rfl))) ?_
      refine hT 23 rfl hSr7 (fun wS hSS=>by(exact(Aq rfl (by conv=>lhs;whnf)))) ?_
      refine Bk (by kernel_rfl) ?_
      refine t_n ?_
      refine As rfl (fun hc39=>?_) (fun hc39=>?_)
      ·refine Ab (Aa ?_)
       refine pA (Ac (t_n (Ak (b_r (t_r (t_r (b_r (b_r (t_r (t_r (b_r (t_r ?_))))))))))))
       refine eR1 ?_
       exact⟨⟨false,rfl,fun h=>by cases h⟩,hX⟩
      have hik:shaF (xss.getD i [])=shaF (xss.getD k [])→xss.getD i []=xss.getD k []:=fun e=>by
        exact Cy (Classical.byContradiction hc39)
      refine Ah (b_n (t_n (Aa ?_)))
      refine pM ?_
      refine p1 (Ax rfl rfl (Ai (by omega) (by omega))) ?_
      refine pA (Ac ?_)
      refine t_n (aK (k+1) ⟨rfl,trivial⟩ ?_)
      exact⟨⟨hWL2,⟨by omega,fun b h=>if h2:b<k then hK b h2 else by rw[show b=k from by omega];exact hik⟩⟩,by((show _<_);omega)⟩
     skip
     refine g1 27 rfl rfl (A6 u23 u5 u9 rfl (hr2.ext hX).sl5) ?_
     refine Ao hQ21 ⟨hSr7,?_⟩
     refine h1L 16 (fun Q16 hQ16=>?_)
     refine g1 27 rfl rfl (A6 u23 u5 u9 rfl (hr1.ext hX).sl5) ?_
     refine Ao hQ16 ⟨hSr7,?_⟩
     refine C8 22 27 rfl rfl rfl (by kernel_rfl) (by kernel_rfl) (by kernel_rfl) hSr7 (fun wS hSS=>by( exact(Eb rfl rfl))) ?_
     refine hT 23 rfl hSr7 (fun wS hSS=>by(exact(Aq rfl (by conv=>lhs;whnf)))) ?_
     refine Bk (by kernel_rfl) ?_
     refine t_n ?_
     refine As rfl (fun hc39=>?_) (fun hc39=>?_)
     ·refine Ab (Aa ?_)
      refine pA (Ac (t_n (Ak (b_r (t_r (t_r (b_r (b_r (t_r (t_r (b_r (t_r ?_))))))))))))
      refine eR1 ?_
      exact⟨⟨false,rfl,fun h=>by cases h⟩,hX⟩
     have hik:shaF (xss.getD i [])=shaF (xss.getD k [])→xss.getD i []=xss.getD k []:=fun e=>by
       exact Cy (Classical.byContradiction hc39)
     refine Ah (b_n (t_n (Aa ?_)))
     refine pM ?_
     refine p1 (Ax rfl rfl (Ai (by omega) (by omega))) ?_
     refine pA (Ac ?_)
     refine t_n (aK (k+1) ⟨rfl,trivial⟩ ?_)
     exact⟨⟨hWL2,⟨by omega,fun b h=>if h2:b<k then hK b h2 else by rw[show b=k from by omega];exact hik⟩⟩,by((show _<_);omega)⟩
    skip
    refine g1 27 rfl rfl (A6 u23 u5 u9 rfl (hr2.ext hX).sl5) ?_
    refine Ao hQ21 ⟨hSr7,?_⟩
    refine h1L 15 (fun Q15 hQ15=>?_)
    refine g1 27 rfl rfl (Ae un23 rfl (hX.cell hc1)) ?_
    refine Ao hQ15 ⟨hSr7,?_⟩
    refine h1L 16 (fun Q16 hQ16=>?_)
    refine g1 27 rfl rfl (A6 u23 u5 u9 rfl (hr1.ext hX).sl5) ?_
    refine Ao hQ16 ⟨hSr7,?_⟩
    refine C8 22 27 rfl rfl rfl (by kernel_rfl) (by kernel_rfl) (by kernel_rfl) hSr7 (fun wS hSS=>by( exact(Eb rfl rfl))) ?_
    refine hT 23 rfl hSr7 (fun wS hSS=>by(exact(Aq rfl (by conv=>lhs;whnf)))) ?_
    refine Bk (by kernel_rfl) ?_
    refine t_n ?_
    refine As rfl (fun hc39=>?_) (fun hc39=>?_)
    ·refine Ab (Aa ?_)
     refine pA (Ac (t_n (Ak (b_r (t_r (t_r (b_r (b_r (t_r (t_r (b_r (t_r ?_))))))))))))
     refine eR1 ?_
     exact⟨⟨false,rfl,fun h=>by cases h⟩,hX⟩
    have hik:shaF (xss.getD i [])=shaF (xss.getD k [])→xss.getD i []=xss.getD k []:=fun e=>by
      exact Cy (Classical.byContradiction hc39)
    refine Ah (b_n (t_n (Aa ?_)))
    refine pM ?_
    refine p1 (Ax rfl rfl (Ai (by omega) (by omega))) ?_
    refine pA (Ac ?_)
    refine t_n (aK (k+1) ⟨rfl,trivial⟩ ?_)
    exact⟨⟨hWL2,⟨by omega,fun b h=>if h2:b<k then hK b h2 else by rw[show b=k from by omega];exact hik⟩⟩,by((show _<_);omega)⟩
   refine D8 12 27 rfl (by exact .inl rfl) rfl (by kernel_rfl) (by kernel_rfl) (by kernel_rfl) hSr7 ?_
   refine D8 13 27 rfl (by exact .inl rfl) rfl (by kernel_rfl) (by kernel_rfl) (by kernel_rfl) hSr7 ?_
   refine D8 14 27 rfl (by exact .inl rfl) rfl (by kernel_rfl) (by kernel_rfl) (by kernel_rfl) hSr7 ?_
   refine D8 15 27 rfl (by exact .inl rfl) rfl (by kernel_rfl) (by kernel_rfl) (by kernel_rfl) hSr7 ?_
   refine D8 16 27 rfl (by exact .inl rfl) rfl (by kernel_rfl) (by kernel_rfl) (by kernel_rfl) hSr7 ?_
   refine D8 17 27 rfl (by exact .inl rfl) rfl (by kernel_rfl) (by kernel_rfl) (by kernel_rfl) hSr7 ?_
   refine D8 18 27 rfl (by exact .inl rfl) rfl (by kernel_rfl) (by kernel_rfl) (by kernel_rfl) hSr7 ?_
   refine D8 19 27 rfl (by exact .inl rfl) rfl (by kernel_rfl) (by kernel_rfl) (by kernel_rfl) hSr7 ?_
   refine D8 20 27 rfl (by exact .inl rfl) rfl (by kernel_rfl) (by kernel_rfl) (by kernel_rfl) hSr7 ?_
   refine D8 21 27 rfl (by exact .inl rfl) rfl (by kernel_rfl) (by kernel_rfl) (by kernel_rfl) hSr7 ?_
   refine D8 22 27 rfl (by exact .inl rfl) rfl (by kernel_rfl) (by kernel_rfl) (by kernel_rfl) hSr7 ?_
   refine hT 23 rfl hSr7 (fun wS hSS=>by(exact(Ap rfl (by conv=>lhs;whnf)))) ?_
   refine Bk (by kernel_rfl) ?_
   refine t_n ?_
   refine c_f rfl ?_
   have hik:shaF (xss.getD i [])=shaF (xss.getD k [])→xss.getD i []=xss.getD k []:=fun e=>by
     exact absurd (congrArg Subtype.val e) (by simpa using hb7_11)
   refine Ah (b_n (t_n (Aa ?_)))
   refine pM ?_
   refine p1 (Ax rfl rfl (Ai (by omega) (by omega))) ?_
   refine pA (Ac ?_)
   refine t_n (aK (k+1) ⟨rfl,trivial⟩ ?_)
   exact⟨⟨hWL2,⟨by omega,fun b h=>if h2:b<k then hK b h2 else by rw[show b=k from by omega];exact hik⟩⟩,by((show _<_);omega)⟩
  have hki:k=i:=by omega
  refine A5 (t_e (t_e (Bo (b_n (t_n (Aa ?_))))))
  refine pM ?_
  refine p1 (Ax rfl rfl (Ai (by omega) (by omega))) ?_
  refine pA (Ac ?_)
  refine t_n (aK (i+1) ⟨rfl,trivial⟩ ?_)
  exact⟨⟨hWL0,⟨by omega,fun a b h1 h2=>if h:a<i then hA a b h h2 else by rw[show a=i from by omega];exact hK b (by omega)⟩⟩,by((show _<_);omega)⟩
 refine A5 (t_e (t_e (Bo (t_n (Ab (Aa ?_))))))
 refine pA (Ac (t_n (Ak ?_)))
 refine eR1 ?_
 exact⟨⟨true,rfl,fun _=>Y2 fun a b h1 h2=>hA a b (by omega) h2⟩,hX⟩
theorem Jp (g gd r:Nat) (S Sd:Nat→Prop) (μ:Hash→Option R3) (pi nx:Option Addr) (ni ci:Nat) (C:CS) (k:Nat) (w:World) (hCX:CstX S Sd w g gd r μ pi ni ci nx C) (hn:CN C k) (hg:Gt w) (l:List By) (B:Nat) (p:Option Addr) (n c:Nat) (hl:Sl kLo 23 B w p n c l) (hBw:B≤w.heap.size) (hn2:n≤100000) (hle:∀ x∈l,x.length≤1048576) (ix:By) (e9 B9:Nat) (q:Option Addr) (m c2:Nat) (hix:Sl kByte e9 B9 w q m c2 ix) :
    Ret Tryz.prog 16 [.pointer (some ⟨g,0,none⟩),.slice p n c,.slice q m c2] w (fun v w'=>(∃ b:Bool,v = .bool b∧(b=true↔HasP C l ix))∧Ext w w'):=by
 have hCX0:=hCX
 have hX:=Ext.refl w
 refine eN 58 Tryz.func16 ?_
 refine Ab (Aa ?_)
 refine pA (Ac (t_n (Ab ?_)))
 have hln:=hl.len
 have hlc:=hl.cap
 have hlf:=hl.fit
 refine Aa ?_
 refine pA (Ac (t_n (Ab (Ab (Aa ?_)))))
 refine pA (Ac (t_n (Al ?_)))
 refine A9 (ι:=Nat×Option Addr×Nat×Nat) [6,7,8,9,10,11,12,13,14,15,16,17,18,19,20,21,22,23,24,25,26,27,28,29,30,31,32,33,34,35,36,37,38,39,40,41,42,43,44] (fun (i,q7,m7,c7)=>[(7,.slice q7 m7 c7),(8,.int .i64 (i:Int))]) (fun (i,q7,m7,c7) w'=>Ext w w'∧(i≤n∧Own kHash 64 0 w.heap.size w' q7 m7 c7 ((l.take i).map shaF)∧∀ j,j<i→findF C.L (shaF (l.getD j []))=some (l.getD j []))) (fun (i,q7,m7,c7)=>n - i) ((0,none,0,0)) ⟨rfl,rfl,trivial⟩ ⟨hX,by omega,Own.nil _ _ _ _ _,fun j hj=>by omega⟩ ?_
 rintro⟨i,q7,m7,c7⟩ GL0 w1 ⟨hE1,hi,hO,hA⟩
 have hX:=hE1
 have hCX:=hCX0.ext hX
 have hol:=hO.len
 rw[List.length_map,List.length_take] at hol
 refine Ab (Ab (Aa ?_))
 refine pM (pM ?_)
 refine p1 (Aj u22 rfl) ?_
 refine p1 (Bq rfl rfl) ?_
 refine Ac (t_n ?_)
 refine As rfl (fun hc15=>?_) (fun hc15=>?_)
 ·try simp only[dA,dB,dC,dD,dE,dF,dG,Int.not_lt,Int.not_le] at hc15
  refine Ah (t_n (Ab (Al (Ab ?_))))
  obtain⟨q1,m1,c1,hc1,hr1⟩:=hl.loAt i (by omega)
  have hl1:=hle _ (Bz (z:=[]) (xs:=l) (i:=i) (by omega) rfl)
  have hn1:=hr1.len
  refine Aa ?_
  refine pM (pM ?_)
  refine p1 (Cl (i:=i) u22 sz23 rfl rfl ((hl.ext hX).adr Ed (by omega)) (by omega)) ?_
  refine p1 (Ae un23 rfl (hX.cell hc1)) ?_
  refine Ag Tryz.func34 fn34 fb34 (Jd (l.getD i []) _ _ _ _ _ (hr1.ext hX).sl5 (by omega) (Nat.le_trans hBw hX.size) (hg.ext hX).r (hg.ext hX).b (by have:=(hg.ext hX).size;omega)) rfl ?_
  rintro v2 w2 ⟨rfl,hE2⟩
  have hX:=hX.ext hE2
  have hCX:=hCX.ext hE2
  have hO:=hO.ext hE2
  have hOb:=hO.below
  have hz9:=hX.size
  refine A8 zr64 ?_
  intro w3 g9 hN9
  have hE3:=hN9.ext
  have hX:=hX.ext hE3
  have hCX:=hCX.ext hE3
  have hO:=hO.ext hE3
  have hB9:=hN9.blk
  have hq9:=hN9.g_eq
  refine Az rfl rfl (Ci _) (Bu sz64 _) hB9 (Dg _) ?_
  intro w4 hP4
  have hX:=hX.put hP4 (by omega)
  have hCX:=hCX0.ext hX
  have hO:=hO.modB (hP4.mod g9 (Nat.le_refl _)) (Nat.zero_le _) (by decide) (by rw[hq9];exact hOb)
  have hB9:=hP4.blk
  refine Ac (t_n (Ab (Aa ?_)))
  refine pM ?_
  refine p1 (Bb ua64 rfl hB9 (Bu sz64 _)) ?_
  refine Ag Tryz.func28 fn28 fb28 (Xv g gd r S Sd μ pi nx ni ci C k _ hCX hn (shaF (l.getD i []))) rfl ?_
  rintro v5 w5 ⟨⟨qg,mg,cg,eg,rfl,hgt⟩,hE5⟩
  have hX:=hX.ext hE5
  have hO:=hO.ext hE5
  have hB9:=hB9.ext hE5
  have hGx:∀ w2,Ext w5 w2→eg=0→∃ x,findF C.L (shaF (l.getD i []))=some x∧Sl kByte 5 0 w2 qg mg cg x:=fun w2 hx he=>by
    obtain⟨_,x,h1,h2⟩:=hgt.resolve_left (fun h=>by omega)
    exact⟨x,h1,h2.sl.ext hx⟩
  have hGn:eg≠0→findF C.L (shaF (l.getD i []))=none:=fun he=>(hgt.resolve_right (fun h=>he h.1)).2
  have hG:=Ext.refl w5
  refine pM ?_
  refine p1 (An rfl rfl) ?_
  refine p1 (An rfl rfl) ?_
  refine pA (pA (Ac (t_n (Ab (Ab ?_)))))
  refine Do mixed (by kernel_rfl) ?_
  intro w6 hE6
  have hX:=hX.ext hE6
  have hO:=hO.ext hE6
  have hB9:=hB9.ext hE6
  have hG:=hG.ext hE6
  refine s1 (Am (by conv=>lhs;whnf)) ?_
  refine s1 (A1 rfl rfl) ?_
  refine s1b (Am (by conv=>lhs;whnf)) (fun hb7_2=>?_) (fun hb7_2=>?_)
  ·try simp only[dA,dB,dC,dD,dE,dF,dG,Int.not_lt,Int.not_le] at hb7_2
   refine sg0 31 rfl (by exact .inl rfl) ?_
   refine sg0 31 rfl (by exact .inl rfl) ?_
   refine sg0 31 rfl (by exact .inl rfl) ?_
   refine sg0 31 rfl (by exact .inl rfl) ?_
   refine sg0 31 rfl (by exact .inl rfl) ?_
   refine sg0 31 rfl (by exact .inl rfl) ?_
   refine sg0 31 rfl (by exact .inl rfl) ?_
   refine sg0 31 rfl (by exact .inl rfl) ?_
   refine s1 (Aq rfl (by conv=>lhs;whnf)) ?_
   refine B6 (t_n ?_)
   refine c_t rfl ?_
   have hno:¬ HasP C l ix:=fun h=>by
     have h1:=h.1 _ (Bz (z:=[]) (xs:=l) (i:=i) (by omega) rfl)
     (have h2:=hGn (by omega);rw[h2] at h1;cases h1)
   refine Ab (Aa ?_)
   refine pA (Ac (t_n (Ak (t_r (b_r (t_r (t_r (b_r (t_r ?_)))))))))
   refine eR1 ?_
   exact⟨⟨false,rfl,⟨(fun h=>by cases h),fun h=>absurd h hno⟩⟩,hX⟩
  try simp only[dA,dB,dC,dD,dE,dF,dG,Int.not_lt,Int.not_le] at hb7_2
  have heg:eg=0:=by omega
  obtain⟨x,hx,hrx⟩:=hGx _ hG heg
  refine sg1 31 rfl rfl (Am (by conv=>lhs;whnf)) ?_
  refine sg1 31 rfl rfl (A6 u23 u5 u9 rfl hrx) ?_
  refine sg1 31 rfl rfl (Am (by conv=>lhs;whnf)) ?_
  refine sg1 31 rfl rfl (Am (by conv=>lhs;whnf)) ?_
  refine sg1 31 rfl rfl (Cl (i:=i) u22 sz23 rfl rfl ((hl.ext hX).adr Ed (by omega)) (by omega)) ?_
  refine sg1 31 rfl rfl (Ae un23 rfl (hX.cell hc1)) ?_
  refine sg1 31 rfl rfl (A6 u23 u5 u9 rfl (hr1.ext hX).sl5) ?_
  refine sg1 31 rfl rfl (Eb rfl rfl) ?_
  refine s1 (Ap rfl (by conv=>lhs;whnf)) ?_
  refine B6 (t_n ?_)
  refine As rfl (fun hc40=>?_) (fun hc40=>?_)
  ·try simp only[dA,dB,dC,dD,dE,dF,dG,Int.not_lt,Int.not_le] at hc40
   have hno:¬ HasP C l ix:=fun h=>by
     have h1:=h.1 _ (Bz (z:=[]) (xs:=l) (i:=i) (by omega) rfl)
     (have h2:=hGn (by(simp_all;done));rw[h2] at h1;cases h1)
   refine Ab (Aa ?_)
   refine pA (Ac (t_n (Ak (t_r (b_r (t_r (t_r (b_r (t_r ?_)))))))))
   refine eR1 ?_
   exact⟨⟨false,rfl,⟨(fun h=>by cases h),fun h=>absurd h hno⟩⟩,hX⟩
  try simp only[dA,dB,dC,dD,dE,dF,dG,Int.not_lt,Int.not_le] at hc40
  have hxx:findF C.L (shaF (l.getD i []))=some (l.getD i []):=by
    rw[hx];exact congrArg some (Cy (Classical.byContradiction hc40))
  refine Ah (t_n (Aa ?_))
  refine pM ?_
  refine p1 (Bb ua64 rfl hB9 (Bu sz64 _)) ?_
  refine Av u54 inf64 rfl (by decide) (fun base hb=>Fk [.agg (hv (shaF (l.getD i [])))] (by intro v hv';simp only[List.mem_singleton] at hv';subst hv';simp[Value.cells,hv,El]) base hb) ?_
  intro w7 g43 hN43
  have hE7:=hN43.ext
  have hX:=hX.ext hE7
  have hO:=hO.ext hE7
  have hJ:Own kHash 64 0 0 w7 (some ⟨g43,0,none⟩) 1 1 [shaF (l.getD i [])]:=Cp [shaF (l.getD i [])] hN43 (Nat.zero_le _) (by simp)
  have hB1:=hX.size
  refine Cg (d:=kHash) ([shaF (l.getD i [])]) u54 inf64 rfl Bw rfl rfl hO (Dh u54 hJ.sl (by decide)) rfl (Hg _ _ _) (rfl) (by omega) (by omega) (by omega) (by omega) (by decide) ?_
  intro p44 c44 w8 hO hM8
  have hX:=hX.mod hM8 (Nat.le_refl _)
  refine pA (Ac (b_n (t_n (Aa ?_))))
  refine pM ?_
  refine p1 (Ax rfl rfl (Ai (by omega) (by omega))) ?_
  refine pA (Ac ?_)
  refine t_n (aK ((i+1,p44,m7+1,c44)) ⟨rfl,rfl,trivial⟩ ?_)
  exact⟨⟨hX,by omega,by rw[Es (by omega),List.map_append];exact hO,fun j hj=>if h:j<i then hA j h else by rw[show j=i from by omega];exact hxx⟩,by(dsimp only;omega)⟩
 try simp only[dA,dB,dC,dD,dE,dF,dG,Int.not_lt,Int.not_le] at hc15
 have hkk:l.take i=l:=List.take_of_length_le (by omega)
 rw[hkk] at hO
 have hall:∀ x∈l,findF C.L (shaF x)=some x:=fun x hx=>by
   obtain⟨a,ha,ea⟩:=List.mem_iff_getElem.1 hx
   have ea:l.getD a []=x:=by rw[List.getD_eq_getElem?_getD,List.getElem?_eq_getElem ha,← ea];rfl
   rw[← ea];exact hA a (by omega)
 refine A5 (t_e (t_e (Bo (t_n (Ab ?_)))))
 refine B7 (fun w1 w2=>Ext w1 w2) mixed ?_
 intro w9 hE9
 have hX:=hX.ext hE9
 have hCX:=hCX.ext hE9
 have hO:=hO.ext hE9
 have hSr10:(fun w1 w2=>Ext w1 w2) w9 w9:=Ext.refl w9
 refine hT 0 rfl hSr10 (fun wS hSS=>by(exact(Am (by conv=>lhs;whnf)))) ?_
 refine hT 2 rfl hSr10 (fun wS hSS=>by(exact(Am (by conv=>lhs;whnf)))) ?_
 refine h1L 1 (fun Q1 hQ1=>?_)
 refine Ag Tryz.func30 fn30 fb30 (J6 g gd r S Sd μ pi nx ni ci C k _ hCX hn) rfl ?_
 rintro v10 w10 ⟨⟨qa,ma,ca,rfl,hLa⟩,hE10⟩
 have hX:=hX.ext hE10
 have hCX:=hCX.ext hE10
 have hO:=hO.ext hE10
 have hSr10:=hSr10.ext hE10
 refine Ao hQ1 ⟨hSr10,?_⟩
 refine h1L 3 (fun Q3 hQ3=>?_)
 refine Ag Tryz.func39 fn39 fb39 (D7 (l.map shaF) _ _ _ _ _ hO.sl (by omega)) rfl ?_
 rintro v11 w11 ⟨⟨qs,ms,cs,rfl,hms_,hLs⟩,hE11⟩
 have hX:=hX.ext hE11
 have hCX:=hCX.ext hE11
 have hSr10:=hSr10.ext hE11
 have hLa:=hLa.ext hE11
 refine Ao hQ3 ⟨hSr10,?_⟩
 refine h1L 4 (fun Q4 hQ4=>?_)
 refine Ag Tryz.func41 fn41 fb41 (T8 (srt (C.L.map shaF)) (srt (l.map shaF)) _ _ _ _ _ _ _ _ _ hLa.sl hLs.sl) rfl ?_
 rintro v12 w12 ⟨rfl,hE12⟩
 have hX:=hX.ext hE12
 have hCX:=hCX.ext hE12
 have hSr10:=hSr10.ext hE12
 refine Ao hQ4 ⟨hSr10,?_⟩
 refine Xb 5 rfl (by kernel_rfl) (by kernel_rfl) (by kernel_rfl) hSr10 (fun wS hSS=>by( exact(Am (by conv=>lhs;whnf)))) (fun hb10_5=>?_) (fun hb10_5=>?_)
 ·try simp only[dA,dB,dC,dD,dE,dF,dG,Int.not_lt,Int.not_le] at hb10_5
  refine C8 6 50 rfl rfl rfl (by kernel_rfl) (by kernel_rfl) (by kernel_rfl) hSr10 (fun wS hSS=>by( exact(Am (by conv=>lhs;whnf)))) ?_
  refine C8 9 50 rfl rfl rfl (by kernel_rfl) (by kernel_rfl) (by kernel_rfl) hSr10 (fun wS hSS=>by( exact(Am (by conv=>lhs;whnf)))) ?_
  refine Mr 7 10 _ _ rfl rfl (by kernel_rfl) (Bp (fun Q7 hQ7=>?_)) (Bp (fun Q10 hQ10=>?_))
  ·skip
   refine Bm 50 rfl rfl ?_
   refine Ag Tryz.func31 fn31 fb31 (H7 g gd r S Sd μ pi nx ni ci C k _ hCX hn) rfl ?_
   rintro v13 w13 ⟨⟨qi,mi,cj,rfl,hIx⟩,hE13⟩
   have hX:=hX.ext hE13
   have hSr10:=hSr10.ext hE13
   refine Ao hQ7 ⟨hSr10,?_⟩
   refine Mr 8 10 _ _ rfl rfl (by kernel_rfl) (Bp (fun Q8 hQ8=>?_)) (Bp (fun Q10 hQ10=>?_))
   ·skip
    refine g1 50 rfl rfl (A6 u23 u5 u9 rfl hIx.sl) ?_
    refine Ao hQ8 ⟨hSr10,?_⟩
    refine h1L 10 (fun Q10 hQ10=>?_)
    refine g1 50 rfl rfl (A6 u23 u5 u9 rfl (hix.ext hX)) ?_
    refine Ao hQ10 ⟨hSr10,?_⟩
    refine C8 11 50 rfl rfl rfl (by kernel_rfl) (by kernel_rfl) (by kernel_rfl) hSr10 (fun wS hSS=>by( exact(E5 rfl rfl))) ?_
    refine hT 12 rfl hSr10 (fun wS hSS=>by(exact(Aq rfl (by conv=>lhs;whnf)))) ?_
    refine hT 13 rfl hSr10 (fun wS hSS=>by(exact(Aw (by conv=>lhs;whnf)))) ?_
    refine Bk (by kernel_rfl) ?_
    refine t_n (Ak ?_)
    refine eR1 ?_
    exact⟨⟨_,rfl,⟨fun h=>⟨hall,by simpa using hb10_5,Cy (of_decide_eq_true h)⟩,fun h=>decide_eq_true (congrArg toStr h.2.2)⟩⟩,hX⟩
   skip
   refine g1 50 rfl rfl (A6 u23 u5 u9 rfl (hix.ext hX)) ?_
   refine Ao hQ10 ⟨hSr10,?_⟩
   refine h1L 8 (fun Q8 hQ8=>?_)
   refine g1 50 rfl rfl (A6 u23 u5 u9 rfl hIx.sl) ?_
   refine Ao hQ8 ⟨hSr10,?_⟩
   refine C8 11 50 rfl rfl rfl (by kernel_rfl) (by kernel_rfl) (by kernel_rfl) hSr10 (fun wS hSS=>by( exact(E5 rfl rfl))) ?_
   refine hT 12 rfl hSr10 (fun wS hSS=>by(exact(Aq rfl (by conv=>lhs;whnf)))) ?_
   refine hT 13 rfl hSr10 (fun wS hSS=>by(exact(Aw (by conv=>lhs;whnf)))) ?_
   refine Bk (by kernel_rfl) ?_
   refine t_n (Ak ?_)
   refine eR1 ?_
   exact⟨⟨_,rfl,⟨fun h=>⟨hall,by simpa using hb10_5,Cy (of_decide_eq_true h)⟩,fun h=>decide_eq_true (congrArg toStr h.2.2)⟩⟩,hX⟩
  skip
  refine g1 50 rfl rfl (A6 u23 u5 u9 rfl (hix.ext hX)) ?_
  refine Ao hQ10 ⟨hSr10,?_⟩
  refine h1L 7 (fun Q7 hQ7=>?_)
  refine Bm 50 rfl rfl ?_
  refine Ag Tryz.func31 fn31 fb31 (H7 g gd r S Sd μ pi nx ni ci C k _ hCX hn) rfl ?_
  rintro v14 w14 ⟨⟨qi,mi,cj,rfl,hIx⟩,hE14⟩
  have hX:=hX.ext hE14
  have hSr10:=hSr10.ext hE14
  refine Ao hQ7 ⟨hSr10,?_⟩
  refine h1L 8 (fun Q8 hQ8=>?_)
  refine g1 50 rfl rfl (A6 u23 u5 u9 rfl hIx.sl) ?_
  refine Ao hQ8 ⟨hSr10,?_⟩
  refine C8 11 50 rfl rfl rfl (by kernel_rfl) (by kernel_rfl) (by kernel_rfl) hSr10 (fun wS hSS=>by( exact(E5 rfl rfl))) ?_
  refine hT 12 rfl hSr10 (fun wS hSS=>by(exact(Aq rfl (by conv=>lhs;whnf)))) ?_
  refine hT 13 rfl hSr10 (fun wS hSS=>by(exact(Aw (by conv=>lhs;whnf)))) ?_
  refine Bk (by kernel_rfl) ?_
  refine t_n (Ak ?_)
  refine eR1 ?_
  exact⟨⟨_,rfl,⟨fun h=>⟨hall,by simpa using hb10_5,Cy (of_decide_eq_true h)⟩,fun h=>decide_eq_true (congrArg toStr h.2.2)⟩⟩,hX⟩
 try simp only[dA,dB,dC,dD,dE,dF,dG,Int.not_lt,Int.not_le] at hb10_5
 refine D8 6 50 rfl (by exact .inl rfl) rfl (by kernel_rfl) (by kernel_rfl) (by kernel_rfl) hSr10 ?_
 refine D8 7 50 rfl (by exact .inl rfl) rfl (by kernel_rfl) (by kernel_rfl) (by kernel_rfl) hSr10 ?_
 refine D8 8 50 rfl (by exact .inl rfl) rfl (by kernel_rfl) (by kernel_rfl) (by kernel_rfl) hSr10 ?_
 refine D8 9 50 rfl (by exact .inl rfl) rfl (by kernel_rfl) (by kernel_rfl) (by kernel_rfl) hSr10 ?_
 refine D8 10 50 rfl (by exact .inl rfl) rfl (by kernel_rfl) (by kernel_rfl) (by kernel_rfl) hSr10 ?_
 refine D8 11 50 rfl (by exact .inl rfl) rfl (by kernel_rfl) (by kernel_rfl) (by kernel_rfl) hSr10 ?_
 refine hT 12 rfl hSr10 (fun wS hSS=>by(exact(Ap rfl (by conv=>lhs;whnf)))) ?_
 refine hT 13 rfl hSr10 (fun wS hSS=>by(exact(Aw (by conv=>lhs;whnf)))) ?_
 refine Bk (by kernel_rfl) ?_
 refine t_n (Ak ?_)
 refine eR1 ?_
 exact⟨⟨false,rfl,⟨(fun h=>by cases h),fun h=>absurd h.2.1 (by simpa using hb10_5)⟩⟩,hX⟩
end Go.Proofs.Eng
end
section
namespace Go.Proofs.Eng
open Go.RowKit
structure Vw (D:DS) (M i:Nat) (V:ByteArray→Option Fb):Prop where
  good:Good D i
  most:D.most=M
  v:∀ k,ascF D.l k=V k
def Up0 (D:DS):Prop:=D.down=false∧D.left=-1
def Oc (D:DS) (r:DS×Int) (M i:Nat) (V V':ByteArray→Option Fb):Prop :=
  (r.2=0∧Vw r.1 M i V'∧r.1.down=false∧(Up0 D→Up0 r.1))∨(r.2=20∧¬ Up0 D∧r.1.down=true∧(Vw r.1 M i V∨Vw r.1 M i V'))
theorem Vw.mono {D:DS} {M i j:Nat} {V:ByteArray→Option Fb} (h:Vw D M i V) (hj:i≤j):Vw D M j V:=⟨h.good.mono hj,h.most,h.v⟩
theorem Jo {D:DS} {ns:List ByteArray} (hn:ns.all A0=true) (hd:D.down=true):lookD D ns=20:=by unfold lookD;rw[hn,hd];rfl
section
variable {D : DS} {M i : Nat} {V V' : ByteArray → Option Fb} {k : ByteArray}
theorem Jh {r:DS×Int} (h:Vw D M i V) (hd:D.down=true) (hr:r=(D,20)):Oc D r M (i+1) V V':=by
  subst hr;exact .inr ⟨rfl,(fun hu=>by rw[hu.1] at hd;cases hd),hd,.inl (h.mono (by omega))⟩
theorem Jg (h:Vw D M i V) (hd:D.down=false) {act:List Fl} {fa al:Bool} (hg:Good (stepD D act fa al).1 (i+1)) (ha:∀ z,ascA act z=V' z):Oc D (stepD D act fa al) M (i+1) V V':=by
  by_cases hl:D.left≠0
  · rw [Kn hl] at hg ⊢
    exact .inl ⟨rfl,⟨hg,h.most,ha⟩,hd,fun hu=>⟨hd,by show max (-1) (D.left - 1)=-1;rw[hu.2];rfl⟩⟩
  · have hz : ¬ Up0 D := fun hu => hl (by rw [hu.2]; decide)
    cases hb:(fa && (al || D.done)) with
    | true=>rw[I8 hl hb] at hg ⊢;exact .inr ⟨rfl,hz,rfl,.inr ⟨hg,h.most,ha⟩⟩
    | false=>rw[Km hl hb] at hg ⊢;exact .inr ⟨rfl,hz,rfl,.inl ⟨hg,h.most,h.v⟩⟩
theorem Vw.ins (h:Vw D M i V) (k:ByteArray) (o:Option Fb):∀ z,ascA (insA D.l k o) z=mset V k o z:=fun z=>by
  rw[← Ea h.good.ok.rise];unfold mset;split
  · rfl
  · exact h.v z
theorem Vw.getF (h:Vw D M i V) {f:Fb} (hk:V k=some f):Eng.getF D k=f:=by unfold Eng.getF;rw[h.v,hk];rfl
theorem Ll (h:Vw D M i V) (hn:A0 k=true) (hk:V k=none) (hl:D.l.length<64):Oc D (Bh D k) M (i+1) V (mset V k (some ([],0))):=by
  cases hd:D.down with
  | true=>exact Jh h hd (by unfold Bh;rw[Jo (by simp[hn]) hd,if_pos (by decide)])
  | false =>
    have hg:=Gx h.good k
    unfold Bh at hg ⊢
    rw[Dz (by simp[hn]) hd,if_neg (by simp),if_neg (by rw[h.v,hk];simp),if_neg (by omega)] at hg ⊢
    exact Jg h hd hg (h.ins _ _)
theorem Xs (h:Vw D M i V) (hn:A0 k=true) {f:Fb} (hk:V k=some f) (p:By) :
    Oc D (A3 D k p) M (i+1) V (mset V k (some (f.1++p,f.2)))∨(A3 D k p=(D,21)∧D.down=false∧M<usedL D.l+p.length):=by
  cases hd:D.down with
  | true=>exact .inl (Jh h hd (by unfold A3;rw[Jo (by simp[hn]) hd,if_pos (by decide)]))
  | false =>
    have hg:=Gy h.good k p
    unfold A3 at hg ⊢
    rw[Dz (by simp[hn]) hd,if_neg (by simp),if_neg (by rw[h.v,hk];simp),h.getF hk,h.most] at hg ⊢
    by_cases hr:(M:Int) - usedL D.l<p.length
    · rw[if_pos hr];exact .inr ⟨rfl,rfl,by omega⟩
    · rw[if_neg hr] at hg ⊢;exact .inl (Jg h hd hg (h.ins _ _))
theorem Rb (h:Vw D M i V) (hn:A0 k=true) {f:Fb} (hk:V k=some f):Oc D (syncD D k) M (i+1) V (mset V k (some (f.1,f.1.length))):=by
  cases hd:D.down with
  | true=>exact Jh h hd (by unfold syncD;rw[Jo (by simp[hn]) hd,if_pos (by decide)])
  | false =>
    have hg:=L3 h.good k
    unfold syncD at hg ⊢
    rw[Dz (by simp[hn]) hd,if_neg (by simp),if_neg (by rw[h.v,hk];simp),h.getF hk] at hg ⊢
    exact Jg h hd hg (h.ins _ _)
theorem G7 (h:Vw D M i V) (hn:A0 k=true) {f:Fb} (hk:V k=some f):Oc D (Bf D k) M (i+1) V (mset V k none):=by
  cases hd:D.down with
  | true=>exact Jh h hd (by unfold Bf;rw[Jo (by simp[hn]) hd,if_pos (by decide)])
  | false =>
    have hg:=Cj h.good k
    unfold Bf at hg ⊢
    rw[Dz (by simp[hn]) hd,if_neg (by simp),if_neg (by rw[h.v,hk];simp)] at hg ⊢
    exact Jg h hd hg (h.ins _ _)
theorem Adn (h:Vw D M i V) {old now:ByteArray} (hn:A0 old=true) (hn2:A0 now=true) (hne:old≠now) {f:Fb} (hk:V old=some f):Oc D (Cf D old now) M (i+1) V (mset (mset V now (some f)) old none):=by
  cases hd:D.down with
  | true=>exact Jh h hd (by unfold Cf;rw[Jo (by simp[hn,hn2]) hd,if_pos (by decide)])
  | false =>
    have hg:=Im h.good old now
    unfold Cf at hg ⊢
    rw[Dz (by simp[hn,hn2]) hd,if_neg (by simp),if_neg (by rw[h.v,hk];simp),h.getF hk] at hg ⊢
    refine Jg h hd hg fun z=>?_
    unfold renL
    rw[if_neg hne,← Ea (Dw h.good.ok.rise _ _)]
    unfold mset
    split
    · rfl
    · have:=h.ins now (some f) z;unfold mset at this;exact this
theorem Ze (h:Vw D M i V) (hn:A0 k=true) {f:Fb} (hk:V k=some f) {n:Nat} (hl:n≤f.1.length):Oc D (cutD D k n) M (i+1) V (mset V k (some (f.1.take n,n))):=by
  cases hd:D.down with
  | true=>exact Jh h hd (by unfold cutD;rw[Jo (by simp[hn]) hd,if_pos (by decide)])
  | false =>
    have hg:=Io h.good k n
    unfold cutD at hg ⊢
    rw[Dz (by simp[hn]) hd,if_neg (by simp),if_neg (by rw[h.v,hk];simp),h.getF hk,if_neg (by omega)] at hg ⊢
    exact Jg h hd hg (h.ins _ _)
theorem M6 (h:Vw D M i V) (hd:D.down=false) (hn:A0 k=true) {f:Fb} (hk:V k=some f):readD D k=(f.1,0):=by
  unfold readD
  rw[Dz (by simp[hn]) hd,if_neg (by simp),if_neg (by rw[h.v,hk];simp),h.getF hk]
theorem Zd (h:Vw D M i V) (hd:D.down=false) (hn:A0 k=true) (hk:V k=none):readD D k=([],22):=by
  unfold readD
  rw[Dz (by simp[hn]) hd,if_neg (by simp),if_pos (by rw[h.v,hk])]
end
def flen (V:ByteArray→Option Fb) (k:ByteArray):Nat:=((V k).map fun f=>f.1.length).getD 0
theorem Tc {V:ByteArray→Option Fb}:∀ (l:List Fl) (ks:List ByteArray),(l.map (·.1)).Nodup→(∀ x∈l,x.1∈ks∧V x.1=some x.2)→usedL l≤(ks.map (flen V)).sum∧l.length≤ks.length
  | [],ks,_,_=>⟨Nat.zero_le _,Nat.zero_le _⟩
  | x :: l, ks, hn, h => by
    obtain⟨h1,h2⟩:=h x (by simp)
    rw[List.map_cons,List.nodup_cons] at hn
    obtain⟨a,b,hab⟩:=List.append_of_mem h1
    subst hab
    have ih:=Tc l (a++b) hn.2 fun y hy=>by
      obtain⟨c,d⟩:=h y (by simp[hy])
      refine⟨?_,d⟩
      have hne:y.1≠x.1:=fun e=>hn.1 (by rw[← e];exact List.mem_map.2 ⟨y,hy,rfl⟩)
      simp only[List.mem_append,List.mem_cons] at c ⊢
      rcases c with c | c | c
      · exact .inl c
      · exact absurd c hne
      · exact .inr c
    have e3:flen V x.1=x.2.1.length:=by unfold flen;rw[h2];rfl
    rw[Gd,List.length_cons]
    simp only[List.map_append,List.sum_append,List.length_append,List.map_cons,List.sum_cons,List.length_cons] at ih ⊢
    omega
theorem Vw.used {D:DS} {M i:Nat} {V:ByteArray→Option Fb} (h:Vw D M i V) {ks:List ByteArray} (hk:∀ k,V k≠none→k∈ks):usedL D.l≤(ks.map (flen V)).sum∧D.l.length≤ks.length :=
  Tc D.l ks h.good.ok.rise.nodup fun x hx=>by
    have hv:V x.1=some x.2:=(h.v x.1).symm.trans (Uy h.good.ok.rise hx)
    exact⟨hk _ (by rw[hv];simp),hv⟩
theorem Vw.flen {D:DS} {M i:Nat} {V:ByteArray→Option Fb} (h:Vw D M i V) {k:ByteArray} {f:Fb} (hk:V k=some f):f.1.length≤M∧f.2≤f.1.length:=by
  have hm:=Uz ((h.v k).trans hk)
  have h1:=h.good.ok.room
  rw[h.most] at h1
  refine⟨Nat.le_trans ?_ h1,h.good.ok.safe _ hm⟩
  obtain⟨a,b,e⟩:=List.append_of_mem hm
  rw[e,Hn,Gd]
  show f.1.length≤_+(f.1.length+_);omega
end Go.Proofs.Eng
end
section
namespace Go.Proofs.Eng
open Go.RowKit
def Sq (D:DS) (r:DS×Int) (M i:Nat) (Ok Mid Ful:(ByteArray→Option Fb)→Prop):Prop :=
  (r.2=0∧r.1.down=false∧(Up0 D→Up0 r.1)∧∃ V,Vw r.1 M i V∧Ok V) ∨
  (r.2=20∧¬ Up0 D∧r.1.down=true∧∃ V,Vw r.1 M i V∧Mid V) ∨
  (r.2=21∧r.1.down=false∧(Up0 D→Up0 r.1)∧∃ V,Vw r.1 M i V∧Ful V)
section
variable {D : DS} {r : DS × Int} {M i j : Nat} {V V' : ByteArray → Option Fb} {Ok Ok2 Mid Mid2 Ful Ful2 : (ByteArray → Option Fb) → Prop} {k : ByteArray}
theorem Sq.of (h:Oc D r M i V V') (h0:Ok V') (h1:Mid V) (h2:Mid V'):Sq D r M i Ok Mid Ful:=by
  rcases h with ⟨a,b,c,d⟩ | ⟨a,b,c,d⟩
  · exact .inl ⟨a,c,d,V',b,h0⟩
  · exact .inr (.inl ⟨a,b,c,d.elim (fun d=>⟨V,d,h1⟩) fun d=>⟨V',d,h2⟩⟩)
theorem Sq.and {f:DS→DS×Int} (h:Sq D r M i Ok Mid Ful) (hf:∀ D' V,D'.down=false→Vw D' M i V→Ok V→Sq D' (f D') M j Ok2 Mid Ful) (hij:i≤j):Sq D (andD r f) M j Ok2 Mid Ful:=by
  rcases h with ⟨a,b,c,V,d,e⟩ | ⟨a,b,c,V,d,e⟩ | ⟨a,b,c,V,d,e⟩
  · rw [Em a]
    rcases hf _ V b d e with ⟨a',b',c',x⟩ | ⟨a',b',c',x⟩ | ⟨a',b',c',x⟩
    · exact .inl ⟨a',b',fun u=>c' (c u),x⟩
    · exact .inr (.inl ⟨a',fun u=>b' (c u),c',x⟩)
    · exact .inr (.inr ⟨a',b',fun u=>c' (c u),x⟩)
  · rw[Jy (by rw[a];decide)];exact .inr (.inl ⟨a,b,c,V,d.mono hij,e⟩)
  · rw[Jy (by rw[a];decide)];exact .inr (.inr ⟨a,b,c,V,d.mono hij,e⟩)
theorem Sq.imp (h:Sq D r M i Ok Mid Ful) (h1:∀ V,Ok V→Ok2 V) (h2:∀ V,Mid V→Mid2 V) (h3:∀ V,Ful V→Ful2 V) (hij:i≤j):Sq D r M j Ok2 Mid2 Ful2:=by
  rcases h with ⟨a,b,c,V,d,e⟩ | ⟨a,b,c,V,d,e⟩ | ⟨a,b,c,V,d,e⟩
  · exact .inl ⟨a,b,c,V,d.mono hij,h1 V e⟩
  · exact .inr (.inl ⟨a,b,c,V,d.mono hij,h2 V e⟩)
  · exact .inr (.inr ⟨a,b,c,V,d.mono hij,h3 V e⟩)
theorem Sq.done (hd:D.down=false) (hV:Vw D M i V) (h:Ok V):Sq D (D,0) M i Ok Mid Ful := .inl ⟨rfl,hd,id,V,hV,h⟩
theorem Lr (h:Vw D M i V) (hn:A0 k=true) {f:Fb} (hk:V k=some f) {p:By} (h0:Ok (mset V k (some (f.1++p,f.2)))) (h1:Mid V) (h2:Mid (mset V k (some (f.1++p,f.2)))) (hf:M<usedL D.l+p.length→Ful V):Sq D (A3 D k p) M (i+1) Ok Mid Ful:=by
  rcases Xs h hn hk p with a | ⟨a,b,c⟩
  · exact .of a h0 h1 h2
  · rw[a];exact .inr (.inr ⟨rfl,b,id,V,h.mono (by omega),hf c⟩)
end
def shp (s:Nat) (A B N X:Option Fb):ByteArray→Option Fb:=fun k=>if k=nMan then A else if k=nSeg s then B else if k=nNew then N else if k=nSeg (s+1) then X else none
def ol (o:Option Fb):Nat:=(o.map fun f=>f.1.length).getD 0
section
variable {s : Nat} {A B N X o : Option Fb} (h1 : 1 ≤ s) (h2 : s + 1 ≤ 999999)
theorem Hp:shp s A B N X nMan=A:=if_pos rfl
include h1 h2
theorem Ek:shp s A B N X (nSeg s)=B:=by unfold shp;rw[if_neg (Cv h1 (by omega)),if_pos rfl]
theorem Fv:shp s A B N X nNew=N:=by unfold shp;rw[if_neg (fun e=>Dp e.symm),if_neg (fun e=>D4 h1 (by omega) e.symm),if_pos rfl]
theorem N9:nSeg (s+1)≠nSeg s:=fun e=>by have:=Z9 (by omega) h2 h1 (by omega) e;omega
theorem E8:shp s A B N X (nSeg (s+1))=X:=by unfold shp;rw[if_neg (Cv (by omega) h2),if_neg (N9 h1 h2),if_neg (D4 (by omega) h2),if_pos rfl]
theorem Ab6:mset (shp s A B N X) nMan o=shp s o B N X:=by
  funext k;unfold mset shp
  by_cases e:k=nMan
  · rw[if_pos e,if_pos e]
  · rw[if_neg e,if_neg e,if_neg e]
theorem Hq:mset (shp s A B N X) (nSeg s) o=shp s A o N X:=by
  funext k;unfold mset
  by_cases e:k=nSeg s
  · rw[if_pos e,e,Ek h1 h2]
  · rw[if_neg e];unfold shp;simp only[e,if_false]
theorem Fw:mset (shp s A B N X) nNew o=shp s A B o X:=by
  funext k;unfold mset
  by_cases e:k=nNew
  · rw[if_pos e,e,Fv h1 h2]
  · rw[if_neg e];unfold shp;simp only[e,if_false]
theorem Ib:mset (shp s A B N X) (nSeg (s+1)) o=shp s A B N o:=by
  funext k;unfold mset
  by_cases e:k=nSeg (s+1)
  · rw[if_pos e,e,E8 h1 h2]
  · rw[if_neg e];unfold shp;simp only[e,if_false]
theorem Adx:shp s A none none X=shp (s+1) A X none none:=by
  funext k
  unfold shp
  by_cases e:k=nMan
  · rw[if_pos e,if_pos e]
  · rw [if_neg e, if_neg e]
    by_cases e2:k=nSeg (s+1)
    · rw[if_pos e2,if_neg (by rw[e2];exact N9 h1 h2),if_neg (by rw[e2];exact D4 (by omega) h2),if_pos e2]
    · rw[if_neg e2,if_neg e2];simp
theorem Ia {D:DS} {M i:Nat} (h:Vw D M i (shp s A B N X)):usedL D.l≤ol A+ol B+ol N+ol X∧D.l.length<64:=by
  obtain⟨a,b⟩:=h.used (ks:=[nMan,nSeg s,nNew,nSeg (s+1)]) fun k hk=>by
    unfold shp at hk
    simp only[List.mem_cons,List.not_mem_nil,or_false]
    by_cases e1:k=nMan
    · exact .inl e1
    · by_cases e2 : k = nSeg s
      · exact .inr (.inl e2)
      · by_cases e3 : k = nNew
        · exact .inr (.inr (.inl e3))
        · by_cases e4 : k = nSeg (s + 1)
          · exact .inr (.inr (.inr e4))
          · simp[e1,e2,e3,e4] at hk
  simp only[List.map_cons,List.map_nil,List.sum_cons,List.sum_nil,flen,Hp,Ek h1 h2,Fv h1 h2,E8 h1 h2] at a
  simp only[List.length_cons,List.length_nil] at b
  exact⟨by unfold ol;omega,by omega⟩
theorem N4 {D:DS} {M i:Nat} {m:Mf} {Ok Mid Ful:(ByteArray→Option Fb)→Prop} (h:Vw D M i (shp s A B none X)) (hok:m.Ok) (hO:Ok (shp s (some (manB m,(manB m).length)) B none X)) (hm:∀ N,Mid (shp s A B N X)) (hm2:Mid (shp s (some (manB m,(manB m).length)) B none X))
    (hf:M<ol A+ol B+ol X+(manB m).length→Ful (shp s A B (some ([],0)) X)):Sq D (writeM D m) M (i+4) Ok Mid Ful:=by
  unfold writeM
  rw[if_pos (Nf.2 hok)]
  unfold writeD
  have hr:=(Ia h1 h2 h).2
  refine Sq.and (Ok:=fun V=>V=shp s A B (some ([],0)) X) (i:=i+1) (.of (Ll h Ec (Fv h1 h2) hr) (Fw h1 h2) (hm _) (by rw[Fw h1 h2];exact hm _)) (fun D V _ hV e=>?_) (by omega)
  subst e
  have hr:=(Ia h1 h2 hV).1
  refine Sq.and (Ok:=fun V=>V=shp s A B (some (manB m,0)) X) (i:=i+2) (Lr hV Ec (Fv h1 h2) (Fw h1 h2) (hm _) (by rw[Fw h1 h2];exact hm _) (fun q=>hf (by unfold ol at hr ⊢;simp only[Option.map_some,Option.getD_some,List.length_nil] at hr;omega))) (fun D V _ hV e=>?_) (by omega)
  subst e
  refine Sq.and (Ok:=fun V=>V=shp s A B (some (manB m,(manB m).length)) X) (i:=i+3) (.of (Rb hV Ec (Fv h1 h2)) (Fw h1 h2) (hm _) (by rw[Fw h1 h2];exact hm _)) (fun D V _ hV e=>?_) (by omega)
  subst e
  have e:mset (mset (shp s A B (some (manB m,(manB m).length)) X) nMan (some (manB m,(manB m).length))) nNew none=shp s (some (manB m,(manB m).length)) B none X:=by rw[Ab6 h1 h2,Fw h1 h2]
  exact .of (Adn hV Ec F7 (fun e=>Dp e.symm) (Fv h1 h2)) (by rw[e];exact hO) (hm _) (by rw[e];exact hm2)
theorem Wt {D:DS} {M i z s2:Nat} {b t:By} {Mid:(ByteArray→Option Fb)→Prop} (h:Vw D M i (shp s A (some (b++t,s2)) N X)) (hd:D.down=false) (hb:b.length=z) (ht:t=[]→s2=z) (hz:z≤s2) (st:Bool)
    (hm:∀ t s2 N X',z≤s2→Mid (shp s A (some (b++t,s2)) N X')):Sq D (undoD D s z st) M (i+3) (fun V=>V=shp s A (some (b,z)) none (if st=true then none else X)) Mid (fun _=>False):=by
  have hns:=Ct h1 (by omega:s≤999999)
  rw[Kl]
  refine Sq.and (Ok:=fun V=>V=shp s A (some (b,z)) N X) (i:=i+1) ?_ (fun D V hd hV e=>?_) (by omega)
  · unfold undo1
    rw[M6 h hd hns (Ek h1 h2)]
    by_cases ht0:t=[]
    · subst ht0
      rw[if_neg (by simp;omega)]
      have:=ht rfl
      subst this
      exact Sq.done hd (h.mono (by omega)) (by simp)
    · have : 0 < t.length := by cases t with | nil => exact absurd rfl ht0 | cons _ _ => simp
      rw[if_pos (by simp;omega)]
      have e:(b++t).take z=b:=by rw[← hb];simp
      have hc:=Ze h hns (Ek h1 h2) (n:=z) (by simp;omega)
      rw[Hq h1 h2,e] at hc
      exact .of hc rfl (hm _ _ _ _ hz) (by have:=hm [] z N X (Nat.le_refl _);rwa [List.append_nil] at this)
  · subst e
    have hmm:∀ N X',Mid (shp s A (some (b,z)) N X'):=fun N X'=>by have:=hm [] z N X' (Nat.le_refl _);rwa [List.append_nil] at this
    refine Sq.and (Ok:=fun V=>V=shp s A (some (b,z)) none X) (i:=i+2) ?_ (fun D V hd hV e=>?_) (by omega)
    · unfold undo2
      cases hN:N with
      | none =>
        subst hN
        rw[if_neg (fun q=>q ((hV.v _).trans (Fv h1 h2)))]
        exact Sq.done hd (hV.mono (by omega)) rfl
      | some f =>
        subst hN
        rw[if_pos (by show ascF D.l nNew≠none;rw[hV.v,Fv h1 h2];simp)]
        exact .of (G7 hV Ec (Fv h1 h2)) (Fw h1 h2) (hmm _ _) (by rw[Fw h1 h2];exact hmm _ _)
    · subst e
      cases st with
      | false=>rw[Wo];exact Sq.done hd (hV.mono (by omega)) (by simp)
      | true =>
        cases hX:X with
        | none =>
          subst hX
          rw[S8 (fun q=>q ((hV.v _).trans (E8 h1 h2)))]
          exact Sq.done hd (hV.mono (by omega)) (by simp)
        | some f =>
          subst hX
          rw[P7 (by show ascF D.l (nSeg (s+1))≠none;rw[hV.v,E8 h1 h2];simp)]
          exact .of (G7 hV (Ct (by omega) h2) (E8 h1 h2)) (by rw[Ib h1 h2];simp) (hmm _ _) (by rw[Ib h1 h2];exact hmm _ _)
end
end Go.Proofs.Eng
end
section
namespace Go.Proofs.Eng
open Go.RowKit
theorem Yv (c:By):findF [c] (shaF c)=some c:=by unfold findF;rw[List.find?_cons,decide_eq_true rfl]
theorem Gq {L l:List By} {h:Hash}:findF (L++l) h=none↔findF L h=none∧findF l h=none:=by rw[Bj,Option.or_eq_none_iff]
theorem Vx (cs:List By):∀ L,∀ x∈cs,findF (L++Au L cs) (shaF x)≠none:=by
  induction cs with
  | nil=>intro L x hx;cases hx
  | cons c cs ih =>
    intro L x hx
    unfold Au
    by_cases hc:findF L (shaF c)=none
    · rw [if_pos hc, show L ++ c :: Au (L ++ [c]) cs = L ++ [c] ++ Au (L ++ [c]) cs by simp]
      rcases List.mem_cons.1 hx with rfl | hx
      · intro h
        have:=(Gq.1 (Gq.1 h).1).2
        rw[Yv] at this;cases this
      · exact ih _ x hx
    · rw [if_neg hc]
      rcases List.mem_cons.1 hx with rfl | hx
      · intro h;exact hc (Gq.1 h).1
      · exact ih _ x hx
theorem Kb {L cs:List By} {c:By} (h:findF L (shaF c)=none):Au L (c :: cs)=c :: Au (L++[c]) cs:=by rw[Au];exact if_pos h
theorem Kc {L cs:List By} {c:By} (h:¬ findF L (shaF c)=none):Au L (c :: cs)=Au L cs:=by rw[Au];exact if_neg h
end Go.Proofs.Eng
end
section
namespace Go.Proofs.Eng
open Go.RowKit
structure Rec (V:ByteArray→Option Fb) (m:Mf) (F:List By):Prop where
  man:V nMan=some (manB m,(manB m).length)
  seg:∃ t s2,V (nSeg m.seg)=some (segB F++t,s2)∧m.size≤s2
  ok:m.Ok
  sz:(segB F).length=m.size
  cl:∀ c∈F,c.length≤1048576
  nm:∀ k,V k≠none→k=nMan∨k=nNew∨SegN k
def nxL (L:List By):Option (List Hash×Nat)→Nat
  | none=>0
  | some gz=>(segB (Ay L gz.1)).length
def Nx (L:List By) (X:Option Fb):Option (List Hash×Nat)→Prop
  | none=>X=none
  | some gz=>(∃ s2,X=some (segB (Ay L gz.1),s2))∧gz.2=(segB (Ay L gz.1)).length∧(∀ h∈gz.1,findF L h≠none)∧gz.1.Nodup
structure Bst (C:CS) (M i:Nat) (F:List By):Prop where
  vw:∃ X,Vw C.D M i (shp C.seg (some (manB ⟨C.seg,C.size,C.index⟩,(manB ⟨C.seg,C.size,C.index⟩).length)) (some (segB F,C.size)) none X)∧Nx C.L X C.next
  up:C.D.down=false
  ok:(Mf.mk C.seg C.size C.index).Ok
  hi:C.seg+1≤999999
  sz:(segB F).length=C.size
  cl:∀ c∈F,c.length≤1048576
  eq:∀ h,findF C.L h=findF F h
  nF:(F.map shaF).Nodup
  nL:(C.L.map shaF).Nodup
  cL:∀ c∈C.L,c.length≤1048576
  dead:C.dead=false
def Ded (C:CS) (M i:Nat) (P:Mf→List By→Prop):Prop:=C.dead=true∧C.D.down=true∧∃ V m G,Vw C.D M i V∧Rec V m G∧P m G
theorem Nx.ol {L:List By} {X:Option Fb} {o:Option (List Hash×Nat)} (h:Nx L X o):Eng.ol X=nxL L o:=by
  cases o with
  | none=>have h:X=none:=h;subst h;rfl
  | some gz=>obtain⟨⟨s2,e⟩,_⟩:=h;subst e;rfl
theorem Rm {s:Nat} {A B N X:Option Fb} (h1:1≤s) (h2:s+1≤999999):∀ k,shp s A B N X k≠none→k=nMan∨k=nNew∨SegN k:=fun k hk=>by
  unfold shp at hk
  by_cases e1:k=nMan
  · exact .inl e1
  · by_cases e2 : k = nSeg s
    · exact .inr (.inr ⟨s,h1,by omega,e2⟩)
    · by_cases e3 : k = nNew
      · exact .inr (.inl e3)
      · by_cases e4 : k = nSeg (s + 1)
        · exact .inr (.inr ⟨s+1,by omega,h2,e4⟩)
        · simp[e1,e2,e3,e4] at hk
theorem M9 {m:Mf} {F:List By} {t:By} {s2:Nat} {N X:Option Fb} (hok:m.Ok) (h2:m.seg+1≤999999) (hsz:(segB F).length=m.size) (hcl:∀ c∈F,c.length≤1048576) (hs:m.size≤s2):Rec (shp m.seg (some (manB m,(manB m).length)) (some (segB F++t,s2)) N X) m F :=
  ⟨Hp,⟨t,s2,Ek hok.lo h2,hs⟩,hok,hsz,hcl,Rm hok.lo h2⟩
theorem Ku (a b:List By):segB (a++b)=segB a++segB b:=by unfold segB;rw[List.flatMap_append]
theorem Lb {L l:List By} {h:Hash} (hn:findF L h≠none):findF (L++l) h=findF L h:=by
  rw[Bj];cases e:findF L h with
  | none=>exact absurd e hn
  | some c=>rfl
theorem My {L l:List By} {got:List Hash} (hg:∀ h∈got,findF L h≠none):Ay (L++l) got=Ay L got:=by
  unfold Ay
  exact List.map_congr_left fun h hh=>by rw[Lb (hg h hh)]
theorem Nx.app {L l:List By} {X:Option Fb} {o:Option (List Hash×Nat)} (h:Nx L X o):Nx (L++l) X o:=by
  cases o with
  | none=>exact h
  | some gz =>
    obtain⟨⟨s2,e⟩,h2,h3,h4⟩:=h
    exact⟨⟨s2,by rw[My h3];exact e⟩,by rw[My h3];exact h2,fun h hh=>by rw[Lb (h3 h hh)];exact h3 h hh,h4⟩
theorem Iq (cs:List By):∀ L:List By,(L.map shaF).Nodup→((L++Au L cs).map shaF).Nodup:=by
  induction cs with
  | nil=>intro L h;simpa [Au] using h
  | cons c cs ih =>
    intro L h
    by_cases hc:findF L (shaF c)=none
    · rw [Kb hc, show L ++ c :: Au (L ++ [c]) cs = L ++ [c] ++ Au (L ++ [c]) cs by simp]
      refine ih _ ?_
      rw[List.map_append,List.nodup_append]
      refine⟨h,by simp,?_⟩
      intro x hx y hy e
      obtain⟨d,hd,rfl⟩:=List.mem_map.1 hx
      simp only[List.map_cons,List.map_nil,List.mem_singleton] at hy
      exact Hh.1 hc d hd (e.trans hy)
    · rw[Kc hc];exact ih L h
theorem Yt (cs:List By):∀ L F:List By,(∀ h,findF L h=findF F h)→Au L cs=Au F cs:=by
  induction cs with
  | nil=>intro L F _;rfl
  | cons c cs ih =>
    intro L F h
    have e:∀ z,findF (L++[c]) z=findF (F++[c]) z:=fun z=>by rw[Bj,Bj,h z]
    by_cases hc:findF L (shaF c)=none
    · rw[Kb hc,Kb (by rw[← h];exact hc),ih _ _ e]
    · rw[Kc hc,Kc (by rw[← h];exact hc),ih _ _ h]
section
variable {C : CS} {M i : Nat} {F : List By}
theorem Bst.rest (h:Bst C M i F) {j:Nat} (hj:i≤j):Bst C M j F:=by
  obtain⟨X,hV,hN⟩:=h.vw
  exact⟨⟨X,hV.mono hj,hN⟩,h.up,h.ok,h.hi,h.sz,h.cl,h.eq,h.nF,h.nL,h.cL,h.dead⟩
theorem Bst.rec_ (h:Bst C M i F):∃ V,Vw C.D M i V∧Rec V ⟨C.seg,C.size,C.index⟩ F:=by
  obtain⟨X,hV,_⟩:=h.vw
  have:=M9 (t:=[]) (s2:=C.size) (N:=none) (X:=X) h.ok h.hi h.sz h.cl (Nat.le_refl _)
  rw[List.append_nil] at this
  exact⟨_,hV,this⟩
theorem Ac9 (h:Bst C M i F) {cs:List By} {ix:By} (hc:∀ c∈cs,c.length≤1048576) (hi:ix.length≤524288) (hM:M≤16777216) :
    ((putC C cs ix).2=0∧Bst (putC C cs ix).1 M (i+9) (F++Au C.L cs)∧(putC C cs ix).1.L=C.L++Au C.L cs∧(putC C cs ix).1.index=ix∧(putC C cs ix).1.seg=C.seg∧(Up0 C.D→Up0 (putC C cs ix).1.D)) ∨
    ((putC C cs ix).2 = 21 ∧ Bst (putC C cs ix).1 M (i + 9) F ∧ (putC C cs ix).1 = { C with D := (putC C cs ix).1.D } ∧ (Up0 C.D → Up0 (putC C cs ix).1.D) ∧
      M<(manB ⟨C.seg,C.size,C.index⟩).length+C.size+(segB (Au C.L cs)).length+(manB ⟨C.seg,C.size+(segB (Au C.L cs)).length,ix⟩).length+nxL C.L C.next) ∨
    ((putC C cs ix).2=20∧¬ Up0 C.D∧Ded (putC C cs ix).1 M (i+9) (fun m G=>m.seg=C.seg∧((G=F∧m.index=C.index)∨(G=F++Au C.L cs∧m.index=ix)))):=by
  obtain⟨X,hV,hN⟩:=h.vw
  have hlo:=h.ok.lo
  have hhi:=h.hi
  have hns:=Ct hlo (by omega:C.seg≤999999)
  have hmain:=Lt (C:=C) (cs:=cs) (ix:=ix) (by rw[h.dead];simp) (by rintro (e | ⟨c,hc1,hc2⟩);(· omega);(· have:=hc c hc1;omega))
  have hlc:∀ c∈Au C.L cs,c.length≤1048576:=fun c hcl=>hc c (Dc cs C.L c hcl).2
  have hfn:=Iq cs C.L h.nL
  have hfF:=Iq cs F h.nF
  rw[← Yt cs C.L F h.eq] at hfF
  have heq:∀ z,findF (C.L++Au C.L cs) z=findF (F++Au C.L cs) z:=fun z=>by rw[Bj,Bj,h.eq]
  obtain⟨l,hl⟩:∃ l,l=Au C.L cs:=⟨_,rfl⟩
  rw[← hl] at hmain hlc hfn hfF heq ⊢
  obtain⟨m0,hm0⟩:∃ m:Mf,m=⟨C.seg,C.size,C.index⟩:=⟨_,rfl⟩
  obtain⟨m1,hm1⟩:∃ m:Mf,m=⟨C.seg,C.size+(segB l).length,ix⟩:=⟨_,rfl⟩
  have hok0:m0.Ok:=by rw[hm0];exact h.ok
  rw[← hm0,← hm1]
  rw[← hm0] at hV
  have hs0:m0.seg=C.seg:=by rw[hm0]
  have hz0:m0.size=C.size:=by rw[hm0]
  have hi0:m0.index=C.index:=by rw[hm0]
  have hs1:m1.seg=C.seg:=by rw[hm1]
  have hz1:m1.size=C.size+(segB l).length:=by rw[hm1]
  have hi1:m1.index=ix:=by rw[hm1]
  have hcl1:∀ c∈F++l,c.length≤1048576:=fun c hcm=>(List.mem_append.1 hcm).elim (h.cl c) (hlc c)
  have hsz1:(segB (F++l)).length=m1.size:=by rw[Ku,List.length_append,h.sz,hz1]
  have hold:∀ t s2 N X',C.size≤s2→Rec (shp C.seg (some (manB m0,(manB m0).length)) (some (segB F++t,s2)) N X') m0 F:=fun t s2 N X' q=>by
    rw[← hs0];exact M9 hok0 (by rw[hs0];exact hhi) (by rw[hz0];exact h.sz) h.cl (by rw[hz0];exact q)
  obtain⟨Mid,hMid⟩:∃ P:(ByteArray→Option Fb)→Prop,P=fun V=>∃ m G,Rec V m G∧m.seg=C.seg∧((G=F∧m.index=C.index)∨(G=F++l∧m.index=ix)):=⟨_,rfl⟩
  have hmo:∀ t s2 N X',C.size≤s2→Mid (shp C.seg (some (manB m0,(manB m0).length)) (some (segB F++t,s2)) N X'):=fun t s2 N X' q=>by
    rw[hMid];exact⟨m0,F,hold t s2 N X' q,hs0,.inl ⟨rfl,hi0⟩⟩
  have hmn:m1.Ok→∀ s2 N X',m1.size≤s2→Mid (shp C.seg (some (manB m1,(manB m1).length)) (some (segB (F++l),s2)) N X'):=fun hok1 s2 N X' q=>by
    have:=M9 (t:=[]) (N:=N) (X:=X') hok1 (by rw[hs1];exact hhi) hsz1 hcl1 q
    rw[List.append_nil,hs1] at this
    rw[hMid];exact⟨m1,F++l,this,hs1,.inr ⟨rfl,hi1⟩⟩
  obtain⟨Ful,hFul⟩:∃ P:(ByteArray→Option Fb)→Prop,P=fun V=>∃ t s2 N,V=shp C.seg (some (manB m0,(manB m0).length)) (some (segB F++t,s2)) N X∧(t=[]→s2=C.size)∧C.size≤s2∧M<(manB m0).length+C.size+(segB l).length+(manB m1).length+nxL C.L C.next:=⟨_,rfl⟩
  have hXo:=hN.ol
  have hsF:=h.sz
  -- the calls
  have hsq:Sq C.D (putR C l ix) M (i+6) (fun V=>m1.Ok∧V=shp C.seg (some (manB m1,(manB m1).length)) (some (segB (F++l),C.size+(segB l).length)) none X) Mid Ful:=by
    unfold putR
    rw[← hm1]
    refine Sq.and (Ok:=fun V=>m1.Ok∧V=shp C.seg (some (manB m0,(manB m0).length)) (some (segB F++segB l,C.size+(segB l).length)) none X) (i:=i+2) ?_ (fun D V hd hV2 e=>?_) (by omega)
    · by_cases he : l = []
      · rw [Og he]
        refine Sq.done h.up (hV.mono (by omega)) ⟨?_,by rw[he];simp[segB]⟩
        rw[hm1,he];exact⟨hlo,by show C.seg≤_;omega,by have:=h.ok.sz;exact this,hi⟩
      · rw [Lv he]
        simp only[runD,Ej]
        refine Sq.and (Ok:=fun V=>V=shp C.seg (some (manB m0,(manB m0).length)) (some (segB F++segB l,C.size)) none X) (i:=i+1) (Lr hV hns (Ek hlo hhi) (Hq hlo hhi) ?_ ?_ fun q=>?_) (fun D V hd hV2 e=>?_) (by omega)
        · have:=hmo [] C.size none X (Nat.le_refl _);rwa [List.append_nil] at this
        · rw[Hq hlo hhi];exact hmo _ _ _ _ (Nat.le_refl _)
        · have hr := (Ia hlo hhi hV).1
          rw[hFul]
          refine⟨[],C.size,none,by rw[List.append_nil],fun _=>rfl,Nat.le_refl _,?_⟩
          simp only[Eng.ol,Option.map_some,Option.getD_some,Option.map_none,Option.getD_none] at hr hXo
          omega
        · subst e
          have hfl:=(hV2.flen (Ek hlo hhi)).1
          simp only[List.length_append] at hfl
          have hlen:(segB F++segB l).length=C.size+(segB l).length:=by rw[List.length_append,hsF]
          have hok1:m1.Ok:=by rw[hm1];exact⟨hlo,by show C.seg≤_;omega,by show C.size+_≤_;omega,hi⟩
          refine .of (Rb hV2 hns (Ek hlo hhi)) ⟨hok1,by rw[Hq hlo hhi,hlen]⟩ (hmo _ _ _ _ (Nat.le_refl _)) (by rw[Hq hlo hhi];exact hmo _ _ _ _ (by simp only[List.length_append];omega))
    · obtain ⟨hok1, e⟩ := e
      subst e
      refine N4 hlo hhi hV2 hok1 ⟨hok1,by rw[Ku]⟩ (fun N=>hmo _ _ _ _ (by omega)) (by have:=hmn hok1 (C.size+(segB l).length) none X (by omega);rwa [Ku] at this) fun q=>?_
      rw[hFul]
      refine⟨segB l,C.size+(segB l).length,some ([],0),rfl,fun e=>by rw[e];rfl,by omega,?_⟩
      simp only[Eng.ol,Option.map_some,Option.getD_some,List.length_append] at q hXo
      omega
  rcases hsq with ⟨a,b,c,V,d,⟨hok1,e⟩⟩ | ⟨a,b,c,V,d,e⟩ | ⟨a,b,c,V,d,e⟩
  · refine .inl ?_
    rw[hmain,if_neg (by rw[a];simp)]
    subst e
    refine⟨rfl,⟨⟨X,?_,hN.app⟩,b,?_,hhi,?_,hcl1,heq,hfF,hfn,fun x hx=>(List.mem_append.1 hx).elim (h.cL x) (hlc x),h.dead⟩,rfl,rfl,rfl,c⟩
    · rw[hm1] at d;exact d.mono (by omega)
    · rw[hm1] at hok1;exact hok1
    · show (segB (F++l)).length=C.size+_;rw[hsz1,hz1]
  · refine .inr (.inr ?_)
    rw[hmain,if_pos (by rw[a];decide),a,J4]
    rw[hMid] at e
    obtain⟨m,G,e1,e2⟩:=e
    exact⟨rfl,b,rfl,c,V,m,G,d.mono (by omega),e1,e2⟩
  · rw [hFul] at e
    obtain⟨t,s2,N,e,ht,hz,hroom⟩:=e
    subst e
    rw[hmain,if_pos (by rw[a];decide),a]
    have hu:=Wt hlo hhi d b hsF ht hz false (Mid:=Mid) (fun t s2 N X' q=>hmo t s2 N X' q)
    rcases hu with ⟨a',b',c',V',d',e'⟩ | ⟨a',b',c',V',d',e'⟩ | ⟨_,_,_,V',_,e'⟩
    · rw [A4 (by decide) rfl a']
      subst e'
      refine .inr (.inl ⟨rfl,⟨⟨X,?_,hN⟩,b',h.ok,hhi,hsF,h.cl,h.eq,h.nF,h.nL,h.cL,h.dead⟩,rfl,fun u=>c' (c u),hroom⟩)
      rw[hm0] at d';exact d'
    · rw [Cu (by decide) rfl (by rw [a']; decide)]
      rw[hMid] at e'
      obtain⟨m,G,e1,e2⟩:=e'
      exact .inr (.inr ⟨rfl,fun u=>b' (c u),rfl,c',V',m,G,d',e1,e2⟩)
    · exact e'.elim
end
end Go.Proofs.Eng
end
section
namespace Go.Proofs.Eng
open Go.RowKit
theorem Qn (keep:ByteArray):keepN nMan keep=true:=Fc.2 ⟨Dp,.inl Gu⟩
theorem Ox {s:Nat} (h1:1≤s) (h2:s≤999999):keepN (nSeg s) (nSeg s)=true:=Fc.2 ⟨D4 h1 h2,.inr rfl⟩
theorem Rec.rem {V:ByteArray→Option Fb} {m:Mf} {F:List By} (h:Rec V m F) {x:ByteArray} (h1:x≠nMan) (h2:x≠nSeg m.seg):Rec (mset V x none) m F:=by
  obtain⟨t,s2,a,b⟩:=h.seg
  refine⟨?_,⟨t,s2,?_,b⟩,h.ok,h.sz,h.cl,fun k hk=>h.nm k ?_⟩
  · unfold mset;rw[if_neg (fun e=>h1 e.symm)];exact h.man
  · unfold mset;rw[if_neg (fun e=>h2 e.symm)];exact a
  · unfold mset at hk; split at hk
    · exact absurd rfl hk
    · exact hk
theorem N5 {M:Nat} {m:Mf} {F:List By}:∀ (ns:List ByteArray) {D:DS} {i:Nat} {V:ByteArray→Option Fb},ns.Nodup→(∀ x∈ns,V x≠none∧A0 x=true)→Vw D M i V→D.down=false→Rec V m F →
    Sq D (cleanL (nSeg m.seg) D ns) M (i+ns.length) (fun V'=>∀ k,(k∈ns∧keepN k (nSeg m.seg)=false→V' k=none)∧(¬ (k∈ns∧keepN k (nSeg m.seg)=false)→V' k=V k)) (fun V'=>Rec V' m F) (fun _=>False)
  | [],D,i,V,_,_,hV,hd,_=>Sq.done hd hV fun k=>⟨fun h=>by simp at h,fun _=>rfl⟩
  | x :: ns, D, i, V, hn, hx, hV, hd, hR => by
    rw[List.nodup_cons] at hn
    unfold cleanL
    by_cases hk:keepN x (nSeg m.seg)=true
    · rw [if_pos hk]
      refine (N5 ns hn.2 (fun y hy=>hx y (by simp[hy])) hV hd hR).imp (fun V' hv k=>?_) (fun _ h=>h) (fun _ h=>h) (by rw[List.length_cons];omega)
      obtain⟨v1,v2⟩:=hv k
      by_cases e:k=x
      · subst e;exact⟨fun h=>by rw[hk] at h;exact absurd h.2 (by simp),fun _=>v2 fun h=>hn.1 h.1⟩
      · exact⟨fun h=>v1 ⟨(List.mem_cons.1 h.1).resolve_left e,h.2⟩,fun h=>v2 fun q=>h ⟨List.mem_cons_of_mem _ q.1,q.2⟩⟩
    · rw [if_neg hk]
      have hkf:keepN x (nSeg m.seg)=false:=by simpa using hk
      have hxm:x≠nMan:=fun e=>hk (by rw[e];exact Qn _)
      have hxs:x≠nSeg m.seg:=fun e=>hk (by rw[e];exact Ox hR.ok.lo hR.ok.hi)
      obtain⟨hx1,hx2⟩:=hx x (by simp)
      obtain⟨f,hf⟩:=Option.ne_none_iff_exists'.1 hx1
      have hR1:=hR.rem hxm hxs
      refine Sq.and (Ok:=fun V'=>V'=mset V x none) (i:=i+1) (.of (G7 hV hx2 hf) rfl hR hR1) (fun D' V' hd' hV' e=>?_) (by rw[List.length_cons];omega)
      subst e
      have hne:∀ y∈ns,y≠x:=fun y hy e=>hn.1 (by rw[← e];exact hy)
      refine (N5 ns hn.2 (fun y hy=>⟨by unfold mset;rw[if_neg (hne y hy)];exact(hx y (by simp[hy])).1,(hx y (by simp[hy])).2⟩) hV' hd' hR1).imp (fun V' hv k=>?_) (fun _ h=>h) (fun _ h=>h) (by rw[List.length_cons];omega)
      obtain⟨v1,v2⟩:=hv k
      have hm:mset V x none k=if k=x then none else V k:=rfl
      rw[hm] at v2
      by_cases e:k=x
      · subst e
        refine⟨fun h=>?_,fun h=>absurd ⟨by simp,hkf⟩ h⟩
        rw[v2 (fun q=>hn.1 q.1),if_pos rfl]
      · rw [if_neg e] at v2
        exact⟨fun h=>v1 ⟨(List.mem_cons.1 h.1).resolve_left e,h.2⟩,fun h=>v2 fun q=>h ⟨List.mem_cons_of_mem _ q.1,q.2⟩⟩
theorem Zv {D:DS} {M i:Nat} {V:ByteArray→Option Fb} {m:Mf} {F:List By} (hV:Vw D M i V) (hd:D.down=false) (hR:Rec V m F) (hhi:m.seg+1≤999999) (hF:(F.map shaF).Nodup) :
    ((openC D).2=0∧Bst (openC D).1 M (i+65) F∧(openC D).1.L=F∧(openC D).1.index=m.index∧(openC D).1.seg=m.seg∧(openC D).1.size=m.size∧(openC D).1.next=none∧(Up0 D→Up0 (openC D).1.D)) ∨
    ((openC D).2=20∧¬ Up0 D∧(openC D).1.D.down=true∧∃ V',Vw (openC D).1.D M (i+65) V'∧Rec V' m F):=by
  obtain⟨t,s2,hseg,hs2⟩:=hR.seg
  have hlo:=hR.ok.lo
  have hns:=Ct hlo hR.ok.hi
  have hfl:s2≤(segB F++t).length:=(hV.flen hseg).2
  have hrm:=M6 hV hd F7 hR.man
  have hrs:=M6 hV hd hns hseg
  have hsz:=hR.sz
  have htake:(segB F++t).take m.size=segB F:=by rw[← hsz];simp
  have hmo:ManOf (readD D nMan).1 m:=by rw[hrm];exact⟨hR.ok,rfl⟩
  have hsg:=L4 hR.cl
  have hso:loadS D m=⟨D,m.seg,m.size,m.index,F,none,false⟩:=by unfold loadS;rw[hrs,htake,hsg]
  rw[J9 (by rw[hrm]),Lz hmo]
  rw[if_neg (by rw[hrs,htake,hsg];simp only[List.length_append];rintro (h | h | h) <;> first | exact h rfl | omega),hso]
  have hsq:Sq D (loadR D m) M (i+65) (fun V'=>V'=shp m.seg (some (manB m,(manB m).length)) (some (segB F,m.size)) none none) (fun V'=>Rec V' m F) (fun _=>False):=by
    unfold loadR
    rw[hrs]
    refine Sq.and (Ok:=fun V'=>V'=mset V (nSeg m.seg) (some (segB F,m.size))) (i:=i+1) ?_ (fun D' V' hd' hV' e=>?_) (by omega)
    · by_cases ht : t = []
      · subst ht
        rw[List.append_nil] at hseg hfl ⊢
        rw[if_neg (by simp only;omega)]
        refine Sq.done hd (hV.mono (by omega)) ?_
        funext k;unfold mset
        by_cases e:k=nSeg m.seg
        · rw[if_pos e,e,hseg,show s2=m.size by omega]
        · rw[if_neg e]
      · have : 0 < t.length := by cases t with | nil => exact absurd rfl ht | cons _ _ => simp
        rw[if_pos (by simp only[List.length_append];omega)]
        have hc:=Ze hV hns hseg (n:=m.size) (by simp only[List.length_append];omega)
        rw[htake] at hc
        refine .of hc rfl hR ⟨?_,⟨[],m.size,?_,Nat.le_refl _⟩,hR.ok,hR.sz,hR.cl,fun k hk=>hR.nm k ?_⟩
        · unfold mset;rw[if_neg (fun e=>Cv hlo hR.ok.hi e.symm)];exact hR.man
        · unfold mset;rw[if_pos rfl,List.append_nil]
        · unfold mset at hk; split at hk
          · rename_i e;rw[e,hseg];simp
          · exact hk
    · subst e
      have hR':Rec (mset V (nSeg m.seg) (some (segB F,m.size))) m F:=by
        refine⟨?_,⟨[],m.size,?_,Nat.le_refl _⟩,hR.ok,hR.sz,hR.cl,fun k hk=>hR.nm k ?_⟩
        · unfold mset;rw[if_neg (fun e=>Cv hlo hR.ok.hi e.symm)];exact hR.man
        · unfold mset;rw[if_pos rfl,List.append_nil]
        · unfold mset at hk; split at hk
          · rename_i e;rw[e,hseg];simp
          · exact hk
      have hmem:∀ x∈D'.l.map (·.1),mset V (nSeg m.seg) (some (segB F,m.size)) x≠none:=fun x hx=>by rw[← hV'.v];exact Dj.2 hx
      unfold cleanD
      refine (N5 (D'.l.map (·.1)) hV'.good.ok.rise.nodup (fun x hx=>⟨hmem x hx,?_⟩) hV' hd' hR').imp (fun V2 hv=>?_) (fun _ h=>h) (fun _ h=>h) (j:=i+65) (by have:=hV'.good.ok.few;rw[List.length_map];omega)
      · obtain⟨y,hy,rfl⟩:=List.mem_map.1 hx;exact hV'.good.names y hy
      · funext k
        obtain⟨v1,v2⟩:=hv k
        by_cases e1:k=nMan
        · rw[v2 (by rw[e1,Qn];simp),e1,hR'.man,Hp]
        · by_cases e2 : k = nSeg m.seg
          · rw[v2 (by rw[e2,Ox hlo hR.ok.hi];simp),e2,Ek hlo hhi];unfold mset;rw[if_pos rfl]
          · have hr : shp m.seg (some (manB m, (manB m).length)) (some (segB F, m.size)) none none k = none := by
              unfold shp;rw[if_neg e1,if_neg e2];simp
            rw[hr]
            by_cases e3:mset V (nSeg m.seg) (some (segB F,m.size)) k=none
            · by_cases e4 : k ∈ D'.l.map (·.1) ∧ keepN k (nSeg m.seg) = false
              · exact v1 e4
              · rw[v2 e4,e3]
            · refine v1 ⟨Dj.1 (by rw [← hV'.v] at e3; exact e3), ?_⟩
              have hkk:=(hR'.nm k e3).resolve_left e1
              cases hq:keepN k (nSeg m.seg) with
              | false=>rfl
              | true =>
                obtain⟨a,b⟩:=Fc.1 hq
                rcases hkk with c | c
                · exact absurd c a
                · exact absurd c (b.resolve_right e2)
  rcases hsq with ⟨a,b,c,V',d,e⟩ | ⟨a,b,c,V',d,e⟩ | ⟨_,_,_,V',_,e⟩
  · subst e
    exact .inl ⟨a,⟨⟨none,d,rfl⟩,b,hR.ok,hhi,hsz,hR.cl,fun _=>rfl,hF,hF,hR.cl,rfl⟩,rfl,rfl,rfl,rfl,rfl,c⟩
  · exact .inr ⟨a,b,c,V',d,e⟩
  · exact e.elim
end Go.Proofs.Eng
end
section
namespace Go.Proofs.Eng
open Go.RowKit
theorem Hr {xs ys:List Hash} {x:Hash}:x∈sel ys false xs↔x∈xs∧x∉ys:=by unfold sel;simp
theorem N3 {l:List Hash}:srt l=[]↔l=[]:=by
  constructor
  · intro h
    cases l with
    | nil=>rfl
    | cons x l=>have:x∈srt (x :: l):=mem_srt.2 (by simp);rw[h] at this;cases this
  · intro h;rw[h];rfl
theorem Mx {L:List By} {got:List Hash} (hg:∀ h∈got,findF L h≠none):(Ay L got).map shaF=got:=by
  unfold Ay
  rw[List.map_map]
  conv=>rhs;rw[← List.map_id got]
  refine List.map_congr_left fun h hh=>?_
  obtain⟨c,hc⟩:=Option.ne_none_iff_exists'.1 (hg h hh)
  show shaF ((findF L h).getD [])=h
  rw[hc];exact(C9 hc).1
theorem Pz {L:List By} {got:List Hash} (hg:∀ h∈got,findF L h≠none) (z:Hash):findF (Ay L got) z=if z∈got then findF L z else none:=by
  induction got with
  | nil=>rfl
  | cons x got ih =>
    obtain⟨c,hc⟩:=Option.ne_none_iff_exists'.1 (hg x (by simp))
    have hs:=(C9 hc).1
    have e:Ay L (x :: got)=c :: Ay L got:=by unfold Ay;rw[List.map_cons,hc];rfl
    have ih:=ih fun h hh=>hg h (by simp[hh])
    rw[e]
    unfold findF at ih ⊢
    rw[List.find?_cons]
    by_cases q:x=z
    · rw [decide_eq_true (hs.trans q)]
      have:List.find? (fun c=>decide (shaF c=z)) L=some c:=by rw[← q];exact hc
      simp[q,this]
    · rw [decide_eq_false (by rw [hs]; exact q)]
      simp only[List.mem_cons,Ne.symm q,false_or]
      exact ih
def rankS (live:List Hash):Option (List Hash×Nat)→Nat
  | none=>11
  | some gz=>if srt (sel live false (srt gz.1))=[] then (srt (sel (srt gz.1) false live)).length else 12
theorem Tb {l:List Hash}:∀ x∈l.take 4,x∈l:=fun x hx=>List.mem_of_mem_take hx
theorem Vd {live got:List Hash} (h1:srt (sel live false (srt got))=[]) (h2:srt (sel (srt got) false live)≠[]):rankS live (some (got++(srt (sel (srt got) false live)).take 4,0))<(srt (sel (srt got) false live)).length:=by
  obtain⟨l,hl⟩:∃ l,l=srt (sel (srt got) false live):=⟨_,rfl⟩
  have hml:∀ x,x∈l↔x∈live∧x∉got:=fun x=>by rw[hl,mem_srt,Hr,mem_srt]
  have hgl:∀ x∈got,x∈live:=fun x hx=>Classical.byContradiction fun hn=>by
    have:x∈srt (sel live false (srt got)):=mem_srt.2 (Hr.2 ⟨mem_srt.2 hx,hn⟩)
    rw[h1] at this;cases this
  rw[← hl] at h2 ⊢
  have e1:srt (sel live false (srt (got++l.take 4)))=[]:=by
    rw[N3]
    refine List.eq_nil_iff_forall_not_mem.2 fun x hx=>?_
    obtain⟨a,b⟩:=Hr.1 hx
    rcases List.mem_append.1 (mem_srt.1 a) with c | c
    · exact b (hgl x c)
    · exact b ((hml x).1 (Tb x c)).1
  show (if srt (sel live false (srt (got++l.take 4)))=[] then (srt (sel (srt (got++l.take 4)) false live)).length else 12)<_
  rw[if_pos e1]
  have hnd:(srt (sel (srt (got++l.take 4)) false live)).Nodup:=(Dr _).nodup
  have hle:(srt (sel (srt (got++l.take 4)) false live)).length≤(l.drop 4).length:=by
    refine Du hnd fun x hx=>?_
    obtain⟨a,b⟩:=Hr.1 (mem_srt.1 hx)
    rw[mem_srt,List.mem_append,not_or] at b
    have hx2:x∈l:=(hml x).2 ⟨a,b.1⟩
    rw[← List.take_append_drop 4 l] at hx2
    exact(List.mem_append.1 hx2).resolve_left b.2
  have:0<l.length:=by cases l with | nil=>exact absurd rfl h2 | cons _ _=>simp
  rw[List.length_drop] at hle
  omega
section
variable {C : CS} {M i : Nat} {F : List By}
def LiveP (C:CS) (live:List Hash) (G:List By):Prop:=(∀ h,findF G h=if h∈live then findF C.L h else none)∧(G.map shaF).Nodup∧∀ c∈G,c∈C.L
theorem Abh (h:Bst C M i F) (hM:M≤16777216) {live:List Hash} (hl:∀ h∈live,findF C.L h≠none) (hseg:C.seg+2≤999999) :
    ((stepF C live).2=(false,0)∧Bst (stepF C live).1 M (i+12) F∧(stepF C live).1={ C with D:=(stepF C live).1.D,next:=(stepF C live).1.next }∧(Up0 C.D→Up0 (stepF C live).1.D)∧((srt (srt live)).length≤10→rankS (srt live) (stepF C live).1.next<rankS (srt live) C.next)) ∨
    ((stepF C live).2=(true,0)∧(∃ G,Bst (stepF C live).1 M (i+12) G∧LiveP C live G)∧LiveP C live (stepF C live).1.L∧(stepF C live).1.index=C.index∧(stepF C live).1.seg=C.seg+1∧(stepF C live).1.next=none∧(Up0 C.D→Up0 (stepF C live).1.D)) ∨
    ((stepF C live).2=(false,21)∧Bst (stepF C live).1 M (i+12) F∧(stepF C live).1={ C with D:=(stepF C live).1.D,next:=none }∧(Up0 C.D→Up0 (stepF C live).1.D)∧∃ Z,(∃ l:List Hash,Z=(segB (Ay C.L l)).length∧l.Nodup∧∀ h∈l,findF C.L h≠none)∧M<(manB ⟨C.seg,C.size,C.index⟩).length+C.size+Z+(C.index.length+35)) ∨
    ((stepF C live).2=(false,20)∧¬ Up0 C.D∧Ded (stepF C live).1 M (i+12) (fun m G=>m.index=C.index∧((m.seg=C.seg∧G=F)∨(m.seg=C.seg+1∧LiveP C live G)))):=by
  obtain⟨X,hV,hN⟩:=h.vw
  have hlo:=h.ok.lo
  have hhi:=h.hi
  have hsF:=h.sz
  have hmain:=Ny (C:=C) (live:=live) (by rw[h.dead];simp) hl (by omega)
  obtain⟨m0,hm0⟩:∃ m:Mf,m=⟨C.seg,C.size,C.index⟩:=⟨_,rfl⟩
  have hok0:m0.Ok:=by rw[hm0];exact h.ok
  rw[← hm0] at hV ⊢
  have hs0:m0.seg=C.seg:=by rw[hm0]
  have hz0:m0.size=C.size:=by rw[hm0]
  have hi0:m0.index=C.index:=by rw[hm0]
  obtain⟨Mid,hMid⟩:∃ P:(ByteArray→Option Fb)→Prop,P=fun V=>∃ m G,Rec V m G∧m.index=C.index∧((m.seg=C.seg∧G=F)∨(m.seg=C.seg+1∧LiveP C live G)):=⟨_,rfl⟩
  have hmo:∀ t s2 N X',C.size≤s2→Mid (shp C.seg (some (manB m0,(manB m0).length)) (some (segB F++t,s2)) N X'):=fun t s2 N X' q=>by
    have:=M9 (t:=t) (N:=N) (X:=X') hok0 (by rw[hs0];exact hhi) (by rw[hz0];exact hsF) h.cl (by rw[hz0];exact q)
    rw[hs0] at this
    rw[hMid];exact⟨m0,F,this,hi0,.inl ⟨hs0,rfl⟩⟩
  have hmo0:∀ N X',Mid (shp C.seg (some (manB m0,(manB m0).length)) (some (segB F,C.size)) N X'):=fun N X'=>by have:=hmo [] C.size N X' (Nat.le_refl _);rwa [List.append_nil] at this
  have hlm:=Gi hok0
  -- what becomes of a call that failed
  have hdead:∀ {r:CS×Bool×Int},stepS C (srt live)=r→r.1={ C with D:=r.1.D }→r.2.2=20→¬ Up0 C.D→r.1.D.down=true→(∃ V,Vw r.1.D M (i+9) V∧Mid V) →
      ((stepF C live).2=(false,20)∧¬ Up0 C.D∧Ded (stepF C live).1 M (i+12) (fun m G=>m.index=C.index∧((m.seg=C.seg∧G=F)∨(m.seg=C.seg+1∧LiveP C live G)))):=by
    intro r hr h1 h2 h3 h4 ⟨V,hV',hm'⟩
    rw[hmain,hr,if_pos (by rw[h2];decide),h2,J4]
    rw[hMid] at hm'
    obtain⟨m,G,e1,e2⟩:=hm'
    exact⟨rfl,h3,rfl,h4,V,m,G,hV'.mono (by omega),e1,e2⟩
  have hfull:∀ {r:CS×Bool×Int} {N X':Option Fb},stepS C (srt live)=r→r.1={ C with D:=r.1.D }→r.2.2=21→(Up0 C.D→Up0 r.1.D)→r.1.D.down=false→Vw r.1.D M (i+9) (shp C.seg (some (manB m0,(manB m0).length)) (some (segB F,C.size)) N X') →
      (∃ Z,(∃ l:List Hash,Z=(segB (Ay C.L l)).length∧l.Nodup∧∀ h∈l,findF C.L h≠none)∧M<(manB m0).length+C.size+Z+(C.index.length+35)) →
      ((stepF C live).2=(false,21)∧Bst (stepF C live).1 M (i+12) F∧(stepF C live).1={ C with D:=(stepF C live).1.D,next:=none }∧(Up0 C.D→Up0 (stepF C live).1.D)∧∃ Z,(∃ l:List Hash,Z=(segB (Ay C.L l)).length∧l.Nodup∧∀ h∈l,findF C.L h≠none)∧M<(manB m0).length+C.size+Z+(C.index.length+35)) ∨
      ((stepF C live).2=(false,20)∧¬ Up0 C.D∧Ded (stepF C live).1 M (i+12) (fun m G=>m.index=C.index∧((m.seg=C.seg∧G=F)∨(m.seg=C.seg+1∧LiveP C live G)))):=by
    intro r N X' hr h1 h2 h3 h4 hV' hroom
    have hV'':Vw r.1.D M (i+9) (shp C.seg (some (manB m0,(manB m0).length)) (some (segB F++[],C.size)) N X'):=by rw[List.append_nil];exact hV'
    have hu:=Wt hlo hhi hV'' h4 hsF (fun _=>rfl) (Nat.le_refl _) true (Mid:=Mid) (fun t s2 N X' q=>hmo t s2 N X' q)
    rw[hmain,hr,if_pos (by rw[h2];decide),h2]
    have e1:r.1.seg=C.seg:=by rw[h1]
    have e2:r.1.size=C.size:=by rw[h1]
    rcases hu with ⟨a',b',c',V',d',e'⟩ | ⟨a',b',c',V',d',e'⟩ | ⟨_,_,_,V',_,e'⟩
    · rw [A4 (by decide) rfl (by rw [e1, e2]; exact a'), e1, e2]
      subst e'
      refine .inl ⟨rfl,?_,by rw[h1];rfl,fun u=>c' (h3 u),hroom⟩
      rw[if_pos rfl] at d'
      rw[hm0] at d'
      rw[h1]
      exact⟨⟨none,d',rfl⟩,b',h.ok,hhi,hsF,h.cl,h.eq,h.nF,h.nL,h.cL,h.dead⟩
    · rw [Cu (by decide) rfl (by rw [e1, e2, a']; decide), e1, e2]
      rw[hMid] at e'
      obtain⟨m,G,e3,e4⟩:=e'
      exact .inr ⟨rfl,fun u=>b' (h3 u),rfl,c',V',m,G,d',e3,e4⟩
    · exact e'.elim
  have hgood:∀ {r:CS×Bool×Int},stepS C (srt live)=r→r.2.2=0→stepF C live=r:=fun hr h2=>by rw[hmain,hr,if_neg (by rw[h2];simp)]
  cases hnx:C.next with
  | none =>
    rw[hnx] at hN
    have hX:X=none:=hN
    subst hX
    have hst:=Gf (live:=srt live) hnx
    have ho:=Ll hV (Ct (by omega) hhi) (E8 hlo hhi) (Ia hlo hhi hV).2
    rw[Ib hlo hhi] at ho
    rcases ho with ⟨a,b,c,d⟩ | ⟨a,b,c,d⟩
    · rw [if_pos a] at hst
      refine .inl ?_
      rw[hgood hst a]
      refine⟨by rw[a],⟨⟨some ([],0),?_,⟨0,rfl⟩,rfl,(fun h hh=>by cases hh),List.nodup_nil⟩,c,h.ok,hhi,hsF,h.cl,h.eq,h.nF,h.nL,h.cL,h.dead⟩,rfl,d,fun q=>?_⟩
      · rw[hm0] at b;exact b.mono (by omega)
      · have e0 : srt (sel (srt live) false (srt ([] : List Hash))) = [] := by rw [N3]; rfl
        have e2:(srt (sel (srt ([]:List Hash)) false (srt live)))=srt (srt live):=congrArg srt (List.filter_eq_self.2 fun x _=>by simp[show srt ([]:List Hash)=[] from rfl])
        have e3:rankS (srt live) (some ([],0))=(srt (srt live)).length:=by unfold rankS;simp only[];rw[if_pos e0,e2]
        show rankS (srt live) (some ([],0))<11
        rw[e3];omega
    · rw [if_neg (by rw [a]; decide)] at hst
      exact .inr (.inr (.inr (hdead hst (by rw[← hnx]) a b c (d.elim (fun d=>⟨_,d.mono (by omega),hmo0 _ _⟩) fun d=>⟨_,d.mono (by omega),hmo0 _ _⟩))))
  | some gz =>
    obtain⟨got,z⟩:=gz
    rw[hnx] at hN
    obtain⟨⟨s2,hX⟩,hz,hgin,hgnd⟩:=hN
    simp only at hz hgin hgnd
    subst hX
    by_cases h1:srt (sel (srt live) false (srt got))=[]
    · by_cases h2 : srt (sel (srt got) false (srt live)) = []
      · -- the end
        have hst:=E7 (live:=srt live) hnx h1 h2
        have hgl:∀ x,x∈got↔x∈live:=fun x=>by
          constructor
          · intro hx
            refine Classical.byContradiction fun hn=>?_
            have:x∈srt (sel (srt live) false (srt got)):=mem_srt.2 (Hr.2 ⟨mem_srt.2 hx,fun q=>hn (mem_srt.1 q)⟩)
            rw[h1] at this;cases this
          · intro hx
            refine Classical.byContradiction fun hn=>?_
            have:x∈srt (sel (srt got) false (srt live)):=mem_srt.2 (Hr.2 ⟨mem_srt.2 hx,fun q=>hn (mem_srt.1 q)⟩)
            rw[h2] at this;cases this
        obtain⟨G,hG⟩:∃ G,G=Ay C.L got:=⟨_,rfl⟩
        have hGs:G.map shaF=got:=by rw[hG];exact Mx hgin
        have hGf:∀ z,findF G z=if z∈live then findF C.L z else none:=fun z=>by
          rw[hG,Pz hgin];simp only[hgl z]
        have hGm:∀ c∈G,c∈C.L:=fun c hc=>by
          rw[hG] at hc
          obtain⟨y,hy,rfl⟩:=List.mem_map.1 hc
          obtain⟨d,hd⟩:=Option.ne_none_iff_exists'.1 (hgin y hy)
          rw[hd];exact(C9 hd).2
        have hGP:LiveP C live G:=⟨hGf,by rw[hGs];exact hgnd,hGm⟩
        obtain⟨m1,hm1⟩:∃ m:Mf,m=⟨C.seg+1,z,C.index⟩:=⟨_,rfl⟩
        have hs1:m1.seg=C.seg+1:=by rw[hm1]
        have hz1:m1.size=z:=by rw[hm1]
        have hfl:=(hV.flen (E8 hlo hhi)).1
        simp only at hfl
        have hok1:m1.Ok:=by rw[hm1];exact⟨by show 1≤C.seg+1;omega,by show C.seg+1≤_;omega,by show z≤_;omega,h.ok.ix⟩
        rw[← hG] at hV hz
        have hzG:(segB G).length=m1.size:=by rw[hz1,hz]
        have hclG:∀ c∈G,c.length≤1048576:=fun c hc=>h.cL c (hGm c hc)
        have hnew:∀ {V},V nMan=some (manB m1,(manB m1).length)→V (nSeg (C.seg+1))=some (segB G,(segB G).length)→(∀ k,V k≠none→k=nMan∨k=nNew∨SegN k)→Mid V:=fun {V} a b c=>by
          rw[hMid]
          exact⟨m1,G,⟨a,⟨[],(segB G).length,by rw[hs1,List.append_nil];exact b,by rw[hzG];exact Nat.le_refl _⟩,hok1,hzG,hclG,c⟩,by rw[hm1],.inr ⟨hs1,hGP⟩⟩
        have hsq:Sq C.D (runD (lastOps C z) C.D) M (i+6) (fun V=>V=shp (C.seg+1) (some (manB m1,(manB m1).length)) (some (segB G,(segB G).length)) none none) Mid (fun V=>V=shp C.seg (some (manB m0,(manB m0).length)) (some (segB F,C.size)) (some ([],0)) (some (segB G,(segB G).length))∧M<(manB m0).length+C.size+(segB G).length+(C.index.length+35)):=by
          simp only[lastOps,runD,Ej]
          rw[← hm1]
          refine Sq.and (Ok:=fun V=>V=shp C.seg (some (manB m0,(manB m0).length)) (some (segB F,C.size)) none (some (segB G,(segB G).length))) (i:=i+1) (.of (Rb hV (Ct (by omega) hhi) (E8 hlo hhi)) (Ib hlo hhi) (hmo0 _ _) (by rw[Ib hlo hhi];exact hmo0 _ _)) (fun D V hd hV e=>?_) (by omega)
          subst e
          refine Sq.and (Ok:=fun V=>V=shp C.seg (some (manB m1,(manB m1).length)) (some (segB F,C.size)) none (some (segB G,(segB G).length))) (i:=i+5) (N4 hlo hhi hV hok1 rfl (fun N=>hmo0 _ _) (hnew Hp (E8 hlo hhi) (Rm hlo hhi)) fun q=>⟨rfl,?_⟩) (fun D V hd hV e=>?_) (by omega)
          · have hl1 := Gi hok1
            have e5:m1.index.length=C.index.length:=by rw[hm1]
            simp only[Eng.ol,Option.map_some,Option.getD_some] at q
            omega
          · subst e
            refine .of (G7 hV (Ct hlo (by omega)) (Ek hlo hhi)) ?_ (hnew Hp (E8 hlo hhi) (Rm hlo hhi)) ?_
            · rw[Hq hlo hhi,Adx hlo hhi]
            · rw[Hq hlo hhi];exact hnew Hp (E8 hlo hhi) (Rm hlo hhi)
        rcases hsq with ⟨a,b,c,V,d,e⟩ | ⟨a,b,c,V,d,e⟩ | ⟨a,b,c,V,d,e,hroom⟩
        · rw [if_neg (by rw [a]; simp)] at hst
          subst e
          refine .inr (.inl ?_)
          rw[hgood hst rfl]
          have hLf:∀ y,findF (C.L.filter fun c=>decide (shaF c∈got)) y=if y∈live then findF C.L y else none:=fun y=>by
            have:=H1 C.L (fun x=>decide (x∈got)) y
            rw[this]
            simp only[decide_eq_true_eq,hgl y]
          have hLn:((C.L.filter fun c=>decide (shaF c∈got)).map shaF).Nodup:=(List.filter_sublist.map shaF).nodup h.nL
          have hLm:∀ c∈C.L.filter fun c=>decide (shaF c∈got),c∈C.L:=fun c hc=>(List.mem_filter.1 hc).1
          have hd2:Vw (runD (lastOps C z) C.D).1 M (i+12) (shp (C.seg+1) (some (manB ⟨C.seg+1,z,C.index⟩,(manB ⟨C.seg+1,z,C.index⟩).length)) (some (segB G,z)) none none):=by
            rw[hm1,show (segB G).length=z from hz.symm] at d;exact d.mono (by omega)
          rw[hm1] at hok1
          exact⟨rfl,⟨G,⟨⟨none,hd2,rfl⟩,b,hok1,by show C.seg+1+1≤_;omega,hz.symm,hclG,fun y=>by rw[hGf];exact hLf y,hGP.2.1,hLn,fun c hc=>h.cL c (hLm c hc),h.dead⟩,hGP⟩,⟨hLf,hLn,hLm⟩,rfl,rfl,rfl,c⟩
        · rw [if_pos (by rw [a]; decide)] at hst
          exact .inr (.inr (.inr (hdead hst rfl a b c ⟨V,d.mono (by omega),e⟩)))
        · rw [if_pos (by rw [a]; decide)] at hst
          subst e
          rcases hfull hst rfl a c b (d.mono (by omega)) ⟨_,⟨got,by rw[← hG],hgnd,hgin⟩,hroom⟩ with q | q
          · exact .inr (.inr (.inl q))
          · exact .inr (.inr (.inr q))
      · -- some are brought
        have hst:=Gs (live:=srt live) hnx h1 h2
        have hrk:=Vd h1 h2
        have hml0:∀ x∈(srt (sel (srt got) false (srt live))).take 4,x∈live∧x∉got:=fun x hx=>by
          have:=Tb x hx
          rw[mem_srt,Hr,mem_srt,mem_srt] at this;exact this
        have hlnd:((srt (sel (srt got) false (srt live))).take 4).Nodup:=(List.take_sublist _ _).nodup ((Dr _).nodup)
        obtain⟨left,hleft⟩:∃ l,l=(srt (sel (srt got) false (srt live))).take 4:=⟨_,rfl⟩
        rw[← hleft] at hst hrk hml0 hlnd
        have hall:∀ y∈got++left,findF C.L y≠none:=fun y hy=>(List.mem_append.1 hy).elim (hgin y) fun q=>hl y (hml0 y q).1
        have hand:(got++left).Nodup:=List.nodup_append.2 ⟨hgnd,hlnd,fun a ha b hb e=>(hml0 b hb).2 (by rw[← e];exact ha)⟩
        have happ:segB (Ay C.L (got++left))=segB (Ay C.L got)++segB (Ay C.L left):=by unfold Ay;rw[List.map_append,Ku]
        have hsq:Sq C.D (A3 C.D (nSeg (C.seg+1)) (segB (Ay C.L left))) M (i+1) (fun V=>V=shp C.seg (some (manB m0,(manB m0).length)) (some (segB F,C.size)) none (some (segB (Ay C.L (got++left)),s2))) Mid (fun V=>V=shp C.seg (some (manB m0,(manB m0).length)) (some (segB F,C.size)) none (some (segB (Ay C.L got),s2))∧M<(manB m0).length+C.size+(segB (Ay C.L (got++left))).length+(C.index.length+35)):=by
          refine Lr hV (Ct (by omega) hhi) (E8 hlo hhi) (by rw[Ib hlo hhi,happ]) (hmo0 _ _) (by rw[Ib hlo hhi];exact hmo0 _ _) fun q=>⟨rfl,?_⟩
          have hr:=(Ia hlo hhi hV).1
          simp only[Eng.ol,Option.map_some,Option.getD_some,Option.map_none,Option.getD_none] at hr
          rw[happ,List.length_append];omega
        rcases hsq with ⟨a,b,c,V,d,e⟩ | ⟨a,b,c,V,d,e⟩ | ⟨a,b,c,V,d,e,hroom⟩
        · subst e
          have hbr:Eh C got z (nSeg (C.seg+1)) left=({ C with D:=(A3 C.D (nSeg (C.seg+1)) (segB (Ay C.L left))).1,next:=some (got++left,z+(segB (Ay C.L left)).length) },0):=by unfold Eh;rw[if_pos a,a]
          rw[hbr] at hst
          refine .inl ?_
          rw[hgood hst rfl]
          refine⟨rfl,⟨⟨some (segB (Ay C.L (got++left)),s2),?_,⟨s2,rfl⟩,?_,hall,hand⟩,b,h.ok,hhi,hsF,h.cl,h.eq,h.nF,h.nL,h.cL,h.dead⟩,rfl,c,fun _=>?_⟩
          · rw[hm0] at d;exact d.mono (by omega)
          · show z+_=_;rw[happ,List.length_append,hz]
          · show rankS (srt live) (some (got ++ left, _)) < (if srt (sel (srt live) false (srt got)) = [] then _ else 12)
            rw[if_pos h1];exact hrk
        · have hbr : Eh C got z (nSeg (C.seg + 1)) left = ({ C with D := (A3 C.D (nSeg (C.seg + 1)) (segB (Ay C.L left))).1, next := some (got, z) }, 20) := by unfold Eh; rw [if_neg (by rw [a]; decide), a]
          rw[hbr] at hst
          exact .inr (.inr (.inr (hdead hst (by rw[← hnx]) rfl b c ⟨V,d.mono (by omega),e⟩)))
        · subst e
          have hbr:Eh C got z (nSeg (C.seg+1)) left=({ C with D:=(A3 C.D (nSeg (C.seg+1)) (segB (Ay C.L left))).1,next:=some (got,z) },21):=by unfold Eh;rw[if_neg (by rw[a];decide),a]
          rw[hbr] at hst
          rcases hfull hst (by rw[← hnx]) rfl c b (d.mono (by omega)) ⟨_,⟨got++left,rfl,hand,hall⟩,hroom⟩ with q | q
          · exact .inr (.inr (.inl q))
          · exact .inr (.inr (.inr q))
    · -- begun anew
      have hst:=G9 (live:=srt live) hnx h1
      have ho:=G7 hV (Ct (by omega) hhi) (E8 hlo hhi)
      rw[Ib hlo hhi] at ho
      rcases ho with ⟨a,b,c,d⟩ | ⟨a,b,c,d⟩
      · rw [if_pos a] at hst
        refine .inl ?_
        rw[hgood hst a]
        refine⟨by rw[a],⟨⟨none,?_,rfl⟩,c,h.ok,hhi,hsF,h.cl,h.eq,h.nF,h.nL,h.cL,h.dead⟩,rfl,d,fun q=>?_⟩
        · rw[hm0] at b;exact b.mono (by omega)
        · show 11 < (if srt (sel (srt live) false (srt got)) = [] then _ else 12)
          rw[if_neg h1];omega
      · rw [if_neg (by rw [a]; decide)] at hst
        exact .inr (.inr (.inr (hdead hst (by rw[← hnx]) a b c (d.elim (fun d=>⟨_,d.mono (by omega),hmo0 _ _⟩) fun d=>⟨_,d.mono (by omega),hmo0 _ _⟩))))
end
end Go.Proofs.Eng
end
section
namespace Go.Proofs.Eng
open Go.RowKit
theorem Ad3 (most:Int) (M:Nat) (hm:M=(max 0 (min most 16777216)).toNat) :
    ((openC (newD most)).2=0∧Bst (openC (newD most)).1 M 5 []∧(openC (newD most)).1.L=[]∧(openC (newD most)).1.index=[]∧(openC (newD most)).1.seg=1∧(openC (newD most)).1.size=0∧(openC (newD most)).1.next=none∧Up0 (openC (newD most)).1.D)∨((openC (newD most)).2=21∧M<64):=by
  have hV:Vw (newD most) M 0 (fun _=>none):=⟨Ua most,hm.symm,fun _=>rfl⟩
  have hu:Up0 (newD most):=⟨rfl,rfl⟩
  have hok:(Mf.mk 1 0 []).Ok:=⟨by show 1≤1;omega,by show 1≤999999;omega,by show 0≤_;omega,by show 0≤_;omega⟩
  have hlm:=Gi hok
  have hcl:cleanD (newD most) (toStr [])=(newD most,0):=rfl
  have hsq:Sq (newD most) (runD openOps (newD most)) M 5 (fun V=>V=shp 1 (some (manB ⟨1,0,[]⟩,(manB ⟨1,0,[]⟩).length)) (some ([],0)) none none) (fun _=>True) (fun _=>M<64):=by
    simp only[openOps,runD,Ej]
    rw[hcl,Em (r:=(newD most,0)) rfl]
    refine Sq.and (Ok:=fun V=>V=shp 1 none (some ([],0)) none none) (i:=1) (.of (Ll hV (Ct (k:=1) (by omega) (by omega)) rfl (by show 0<64;omega)) ?_ trivial trivial) (fun D V hd hV e=>?_) (by omega)
    · funext k; unfold mset shp
      by_cases e:k=nSeg 1
      · rw[if_pos e,if_neg (by rw[e];exact Cv (by omega) (by omega)),if_pos e]
      · rw[if_neg e];simp[e]
    · subst e
      refine N4 (by omega) (by omega) hV hok rfl (fun _=>trivial) trivial fun q=>?_
      simp only[Eng.ol,Option.map_some,Option.getD_some,Option.map_none,Option.getD_none,List.length_nil] at q hlm
      omega
  have ho:=Lw (D:=newD most) (by rw[Zd hV rfl F7 rfl])
  rcases hsq with ⟨a,b,c,V,d,e⟩ | ⟨_,b,_⟩ | ⟨a,_,_,V,_,e⟩
  · rw [ho]
    subst e
    exact .inl ⟨a,⟨⟨none,d,rfl⟩,b,hok,by show 1+1≤999999;omega,rfl,(fun c hc=>by cases hc),fun _=>rfl,List.nodup_nil,List.nodup_nil,(fun c hc=>by cases hc),rfl⟩,rfl,rfl,rfl,rfl,rfl,c hu⟩
  · exact absurd hu b
  · rw[ho];exact .inr ⟨a,e⟩
theorem Bst.cn {C:CS} {M i:Nat} {F:List By} (h:Bst C M i F) (hl:C.L.length≤100000):CN C i:=by
  obtain⟨X,hV,hN⟩:=h.vw
  have hz:=h.ok.sz
  have hx:=h.ok.ix
  have hh:=h.hi
  refine⟨hV.good,by omega,by have:C.size≤16777216:=hz;omega,by have:C.index.length≤524288:=hx;omega,fun g z e=>?_,by omega,h.cL⟩
  rw[e] at hN
  obtain⟨_,h2,h3,h4⟩:=hN
  simp only at h2 h3 h4
  have hk:=O4 h3 g h4 (fun z hz=>by unfold gotS;rw[if_pos hz];simp)
  have hc:∀ x∈Ay C.L g,x.length≤1048576:=fun x hx=>by
    obtain⟨y,_,rfl⟩:=List.mem_map.1 hx
    cases e:findF C.L y with
    | none=>simp
    | some c=>exact h.cL c (C9 e).2
  have:=Ks hc
  rw[I3] at this
  omega
theorem Bst.gn {C:CS} {M i:Nat} {F:List By} (h:Bst C M i F):∀ got z,C.next=some (got,z)→∀ x∈got,findF C.L x≠none:=fun got z e=>by
  obtain⟨X,hV,hN⟩:=h.vw
  rw[e] at hN;exact hN.2.2.1
theorem Sj {L all:List By} (hn:(L.map shaF).Nodup) (hs:∀ c∈L,c∈all):L.length≤all.length:=by
  have:=Du hn (ks:=all.map shaF) fun z hz=>by
    obtain⟨c,hc,rfl⟩:=List.mem_map.1 hz;exact List.mem_map.2 ⟨c,hs c hc,rfl⟩
  simpa using this
theorem Acq {L F:List By} (h:∀ z,findF L z=findF F z):srt (L.map shaF)=srt (F.map shaF) :=
  Lq (Dr _) fun z=>by
    have hk:∀ G:List By,z∈G.map shaF↔findF G z≠none:=fun G=>by
      constructor
      · intro hz hn
        obtain⟨c,hc,e⟩:=List.mem_map.1 hz
        exact Hh.1 hn c hc e
      · intro hz
        obtain⟨c,hc⟩:=Option.ne_none_iff_exists'.1 hz
        obtain⟨e,hm⟩:=C9 hc
        exact List.mem_map.2 ⟨c,hm,e⟩
    rw[mem_srt,hk L,h z,← hk F]
theorem T1 {L:List By}:∀ h∈srt (L.map shaF),findF L h≠none:=fun h hh hn=>by
  obtain⟨c,hc,e⟩:=List.mem_map.1 (mem_srt.1 hh)
  exact Hh.1 hn c hc e
def pickL (xss:List By) (ps:By):List By:=if xss=[] then [] else (ps.take 10).map fun b=>xss.getD (b.toNat % xss.length) []
theorem Oi {xss:List By} {ps:By}:∀ x∈pickL xss ps,x∈xss:=fun x hx=>by
  unfold pickL at hx
  split at hx
  · cases hx
  · rename_i hn
    obtain⟨b,_,rfl⟩:=List.mem_map.1 hx
    exact Bz (z:=[]) (i:=b.toNat % xss.length) (Nat.mod_lt _ (by cases xss with | nil=>exact absurd rfl hn | cons _ _=>simp)) rfl
theorem Oj {xss:List By} {ps:By}:(pickL xss ps).length≤10:=by
  unfold pickL;split
  · simp
  · simp;omega
theorem Aaa {l:List By} (h:msum l≤4000):∀ x∈l,x.length≤4000:=(Rz h).1
end Go.Proofs.Eng
end
section
set_option maxRecDepth 100000
set_option maxHeartbeats 4000000
namespace Go.Proofs.Eng
open Go.RowKit
open Extern.Stop (cell)
theorem fb33:Tryz.f33.body.isNone=false:=by kernel_rfl
theorem fn33 : ngB Tryz.f33 = false := by kernel_rfl
theorem Ad8:Bg Tryz.prog 26 0=some (5,0):=by kernel_rfl
theorem Aaz:Bg Tryz.prog 26 1=some (23,1):=by kernel_rfl
end Go.Proofs.Eng
end
section
set_option maxRecDepth 100000
set_option maxHeartbeats 4000000
namespace Go.Proofs.Eng
open Go.RowKit
open Extern.Stop (cell)
theorem Ht (xss : List By) (B : Nat) (p : Option Addr) (n c : Nat) (w : World) (hl : Sl kLo 23 B w p n c xss) (hBw : B ≤ w.heap.size) (ps : By) (e2 B2 : Nat) (q : Option Addr) (m c2 : Nat) (hp : Sl kByte e2 B2 w q m c2 ps) :
    Ret Tryz.prog 33 [.slice p n c, .slice q m c2] w (fun v w' => (∃ q1 m1 c1, v = .slice q1 m1 c1 ∧ Own kLo 23 B w.heap.size w' q1 m1 c1 (pickL xss ps)) ∧ Ext w w') := by
 have hX := Ext.refl w
 refine enter 37 _ Tryz.func33 rfl rfl (Nat.le_of_ble_eq_true rfl) rfl ?_
 refine Ab (Aa ?_)
 refine p1 (Aw (by conv => lhs; whnf)) ?_
 refine Ac (t_n (Ab ?_))
 have hln := hl.len
 have hlc := hl.cap
 have hlf := hl.fit
 have hpn := hp.len
 have hpc := hp.cap
 have hpf := hp.fit
 refine Aa ?_
 refine p1 (Aw (by conv => lhs; whnf)) ?_
 refine Ac (t_n (Ab (Ab (Aa ?_))))
 refine p1 (Aw (by conv => lhs; whnf)) ?_
 refine Ac (t_n (Al ?_))
 refine A9 (ι := Nat × Option Addr × Nat × Nat) [5, 6, 7, 8, 9, 10, 11, 12, 13, 14, 15, 16, 17, 18, 19, 20, 21, 22, 23, 24, 25, 26, 27, 28, 29, 30, 31, 32, 33, 34, 35] (fun (k, ql, ml, cl) => [(5, .slice ql ml cl), (6, .int .i64 (k : Int))]) (fun (k, ql, ml, cl) w' => Ext w w' ∧ (k ≤ m ∧ k ≤ 10 ∧ (n = 0 → k = 0) ∧ Own kLo 23 B w.heap.size w' ql ml cl ((ps.take k).map fun b : UInt8 => xss.getD (b.toNat % xss.length) []))) (fun (k, ql, ml, cl) => 10 - k) ((0, none, 0, 0)) ⟨rfl, rfl, trivial⟩ ⟨hX, Nat.zero_le _, Nat.zero_le _, fun _ => rfl, by rw [List.take_zero]; exact Own.nil _ _ _ _ _⟩ ?_
 rintro ⟨k, ql, ml, cl⟩ GL0 w1 ⟨hE1, hk, hk2, hk3, hO⟩
 have hX := hE1
 have hol := hO.len
 rw [List.length_map, List.length_take] at hol
 refine Ab (Ab (Aa ?_))
 refine p1 (Am (by conv => lhs; whnf)) ?_
 refine p1 (Am (by conv => lhs; whnf)) ?_
 refine p1 (Aj u23 rfl) ?_
 refine p1 (Bq rfl rfl) ?_
 refine p1b (Am (by conv => lhs; whnf)) (fun hb3_4 => ?_) (fun hb3_4 => ?_)
 ·try simp only [dA, dB, dC, dD, dE, dF, dG, Int.not_lt, Int.not_le] at hb3_4
  refine g1 11 rfl rfl (Am (by conv => lhs; whnf)) ?_
  refine g1 11 rfl rfl (Bq rfl rfl) ?_
  refine p1 (Aq rfl (by conv => lhs; whnf)) ?_
  refine p1b (Am (by conv => lhs; whnf)) (fun hb3_8 => ?_) (fun hb3_8 => ?_)
  ·try simp only [dA, dB, dC, dD, dE, dF, dG, Int.not_lt, Int.not_le] at hb3_8
   refine g1 15 rfl rfl (Am (by conv => lhs; whnf)) ?_
   refine g1 15 rfl rfl (Aj u22 rfl) ?_
   refine g1 15 rfl rfl (De rfl rfl) ?_
   refine p1 (Aq rfl (by conv => lhs; whnf)) ?_
   refine Ac (t_n ?_)
   first | refine As rfl (fun hc19 => ?_) (fun hc19 => ?_) | refine H3 rfl (fun hc19 => ?_) (fun hc19 => ?_)
   ·try simp only [dA, dB, dC, dD, dE, dF, dG, Int.not_lt, Int.not_le] at hc19
    refine Ah (t_n (Ab (Al ?_)))
    obtain ⟨q1, m1, c1, hck, hrow⟩ := hl.loAt ((ps.getD k 0).toNat % n) (Nat.mod_lt _ (by omega))
    refine Aa ?_
    refine p1 (Am (by conv => lhs; whnf)) ?_
    refine p1 (Am (by conv => lhs; whnf)) ?_
    refine p1 (Am (by conv => lhs; whnf)) ?_
    refine p1 (Am (by conv => lhs; whnf)) ?_
    refine p1 (Er u23 sz5 rfl rfl ((hp.ext hX).adr B5 (by omega)) (by omega) (by omega)) ?_
    refine p1 (Ae un5 rfl ((hp.ext hX).byteAtI (k : Int) (by omega) (by omega))) ?_
    refine p1 (C3 u3 us5 rfl (Ai (by have := (ps.getD ((k : Int)).toNat 0).toNat_lt; omega) (by have := (ps.getD ((k : Int)).toNat 0).toNat_lt; omega))) ?_
    refine p1 (Am (by conv => lhs; whnf)) ?_
    refine p1 (Aj u22 rfl) ?_
    refine p1 ((Y5 rfl rfl (by omega) (by omega)).cast (congrArg (Value.int .i64) (by simp : _ = (((ps.getD k 0).toNat % n : Nat) : Int)))) ?_
    refine p1 (Cl (i := (ps.getD k 0).toNat % n) u22 sz23 rfl rfl ((hl.ext hX).adr Ed (by omega)) (Nat.mod_lt _ (by omega))) ?_
    refine p1 (Ae un23 rfl (hX.cell hck)) ?_
    have hXp := hX.size
    refine Av u22 inf23 rfl (by decide) (fun base hb => Ce (by rfl) base hb) ?_
    intro w2 g34 hN34
    have hE2 := hN34.ext
    have hX := hX.ext hE2
    have hO := hO.ext hE2
    have hJ := Acn hN34 (hrow.ext hX) (Nat.le_trans hBw hXp)
    obtain ⟨cssJ, hAJ, hsrJ⟩ := H8 u22 hJ Ed
    have hB1 := hX.size
    refine Cg (d := kLo) ([xss.getD ((ps.getD k 0).toNat % n) []]) u22 inf23 rfl Ed rfl rfl hO (hsrJ) rfl (hAJ) (rfl) (by omega) (by omega) (by omega) (by omega) (by simp [kLo]) ?_
    intro p35 c35 w3 hO hM3
    have hX := hX.mod hM3 (Nat.le_refl _)
    refine p1 (Aw (by conv => lhs; whnf)) ?_
    refine Ac (b_n (t_n (Aa ?_)))
    refine p1 (Am (by conv => lhs; whnf)) ?_
    refine p1 (Ax rfl rfl (Ai (by omega) (by omega))) ?_
    refine p1 (Aw (by conv => lhs; whnf)) ?_
    refine Ac ?_
    refine t_n (At.mk ((k + 1, p35, ml + 1, c35)) (by repeat (first | exact Agr.refl _ _ | exact Agr.hav _ _ _ | refine Agr.upd rfl ?_ | refine Agr.updR rfl ?_ | refine Agr.updL ?_ _ rfl | refine Agr.hav' rfl ?_)) ⟨rfl, rfl, trivial⟩ ?_)
    exact ⟨⟨hX, by omega, by omega, by omega, by rw [List.take_succ_eq_append_getElem (by omega), List.map_append, List.map_cons, List.map_nil]; have e := hO; rw [← hln, List.getD_eq_getElem?_getD (l := ps), List.getElem?_eq_getElem (by omega)] at e; exact e⟩, by first | (dsimp only; omega) | ((show _ < _); omega)⟩
   ·try simp only [dA, dB, dC, dD, dE, dF, dG, Int.not_lt, Int.not_le] at hc19
    have hex : n = 0 ∨ k = m ∨ k = 10 := by omega
    have hfin : (ps.take k).map (fun b : UInt8 => xss.getD (b.toNat % xss.length) []) = pickL xss ps := by
      unfold pickL
      split
      · rename_i e; rw [hk3 (by rw [← hln, e]; rfl)]; rfl
      · rename_i e
        have hn0 : n ≠ 0 := fun q => e (List.length_eq_zero_iff.1 (by omega))
        rcases hex with q | q | q
        · exact absurd q hn0
        · rw [List.take_of_length_le (by omega : ps.length ≤ k), List.take_of_length_le (by omega)]
        · rw [q]
    rw [hfin] at hO
    refine A5 (t_e (t_e (Bo (t_n (Ab (Aa ?_))))))
    refine p1 (Am (by conv => lhs; whnf)) ?_
    refine p1 (Aw (by conv => lhs; whnf)) ?_
    refine Ac (t_n (Ak ?_))
    refine end1 rfl (by conv => lhs; whnf) ?_
    exact ⟨⟨_, _, _, rfl, hO⟩, hX⟩
  ·try simp only [dA, dB, dC, dD, dE, dF, dG, Int.not_lt, Int.not_le] at hb3_8
   refine g0 15 rfl (by first | exact .inl rfl | exact .inr rfl) ?_
   refine g0 15 rfl (by first | exact .inl rfl | exact .inr rfl) ?_
   refine g0 15 rfl (by first | exact .inl rfl | exact .inr rfl) ?_
   refine p1 (Ap rfl (by conv => lhs; whnf)) ?_
   refine Ac (t_n ?_)
   refine c_f rfl ?_
   have hex : n = 0 ∨ k = m ∨ k = 10 := by omega
   have hfin : (ps.take k).map (fun b : UInt8 => xss.getD (b.toNat % xss.length) []) = pickL xss ps := by
     unfold pickL
     split
     · rename_i e; rw [hk3 (by rw [← hln, e]; rfl)]; rfl
     · rename_i e
       have hn0 : n ≠ 0 := fun q => e (List.length_eq_zero_iff.1 (by omega))
       rcases hex with q | q | q
       · exact absurd q hn0
       · rw [List.take_of_length_le (by omega : ps.length ≤ k), List.take_of_length_le (by omega)]
       · rw [q]
   rw [hfin] at hO
   refine A5 (t_e (t_e (Bo (t_n (Ab (Aa ?_))))))
   refine p1 (Am (by conv => lhs; whnf)) ?_
   refine p1 (Aw (by conv => lhs; whnf)) ?_
   refine Ac (t_n (Ak ?_))
   refine end1 rfl (by conv => lhs; whnf) ?_
   exact ⟨⟨_, _, _, rfl, hO⟩, hX⟩
 ·try simp only [dA, dB, dC, dD, dE, dF, dG, Int.not_lt, Int.not_le] at hb3_4
  refine g0 11 rfl (by first | exact .inl rfl | exact .inr rfl) ?_
  refine g0 11 rfl (by first | exact .inl rfl | exact .inr rfl) ?_
  refine p1 (Ap rfl (by conv => lhs; whnf)) ?_
  refine p1 (Am (by conv => lhs; whnf)) ?_
  refine g0 15 rfl (by first | exact .inl rfl | exact .inr rfl) ?_
  refine g0 15 rfl (by first | exact .inl rfl | exact .inr rfl) ?_
  refine g0 15 rfl (by first | exact .inl rfl | exact .inr rfl) ?_
  refine p1 (Ap rfl (by conv => lhs; whnf)) ?_
  refine Ac (t_n ?_)
  refine c_f rfl ?_
  have hex : n = 0 ∨ k = m ∨ k = 10 := by omega
  have hfin : (ps.take k).map (fun b : UInt8 => xss.getD (b.toNat % xss.length) []) = pickL xss ps := by
    unfold pickL
    split
    · rename_i e; rw [hk3 (by rw [← hln, e]; rfl)]; rfl
    · rename_i e
      have hn0 : n ≠ 0 := fun q => e (List.length_eq_zero_iff.1 (by omega))
      rcases hex with q | q | q
      · exact absurd q hn0
      · rw [List.take_of_length_le (by omega : ps.length ≤ k), List.take_of_length_le (by omega)]
      · rw [q]
  rw [hfin] at hO
  refine A5 (t_e (t_e (Bo (t_n (Ab (Aa ?_))))))
  refine p1 (Am (by conv => lhs; whnf)) ?_
  refine p1 (Aw (by conv => lhs; whnf)) ?_
  refine Ac (t_n (Ak ?_))
  refine end1 rfl (by conv => lhs; whnf) ?_
  exact ⟨⟨_, _, _, rfl, hO⟩, hX⟩
end Go.Proofs.Eng
end
section
namespace Go.Proofs.Eng
open Go.RowKit
structure FI (all:List By) (M k:Nat) (C:CS) (F:List By):Prop where
  b:Bst C M (70+12 * k) F
  u:Up0 C.D
  s:C.seg≤1+k
  i:C.index.length≤4000
  L:∀ c∈C.L,c∈all
  F:∀ c∈F,c∈all
section
variable {all F : List By} {M k : Nat} {C : CS}
theorem FI.len (h:FI all M k C F):C.L.length≤all.length:=Sj h.b.nL h.L
theorem FI.cn (h:FI all M k C F) (ha:all.length≤20):CN C (70+12 * k):=h.b.cn (by have:=h.len;omega)
theorem Aea (most:Int) (hm:M=(max 0 (min most 16777216)).toNat) :
    ((openC (newD most)).2=0∧FI all M 0 (openC (newD most)).1 []∧(openC (newD most)).1.L=[]∧(openC (newD most)).1.index=[])∨((openC (newD most)).2=21∧M<64):=by
  rcases Ad3 most M hm with ⟨a,b,c,d,e,f,g,h⟩ | h
  · exact .inl ⟨a,⟨b.rest (by omega),h,by omega,by rw[d];exact Nat.zero_le _,(by rw[c];exact fun _ h=>by cases h),fun _ h=>by cases h⟩,c,d⟩
  · exact .inr h
theorem Ad9 (h:FI all M k C F) (hM:M≤16777216) (hal:∀ c∈all,c.length≤4000) {cs:List By} (hc:∀ c∈cs,c∈all) {ix:By} (hi:ix.length≤4000) :
    ((putC C cs ix).2=0∧FI all M (k+1) (putC C cs ix).1 (F++Au C.L cs)∧(putC C cs ix).1.L=C.L++Au C.L cs∧(putC C cs ix).1.index=ix) ∨
    ((putC C cs ix).2 = 21 ∧ FI all M (k + 1) (putC C cs ix).1 F ∧ (putC C cs ix).1.L = C.L ∧ (putC C cs ix).1.index = C.index ∧ (putC C cs ix).1.size = C.size ∧
      M<(manB ⟨C.seg,C.size,C.index⟩).length+C.size+(segB (Au C.L cs)).length+(manB ⟨C.seg,C.size+(segB (Au C.L cs)).length,ix⟩).length+nxL C.L C.next):=by
  have hs:=h.s
  have hfr:∀ c∈Au C.L cs,c∈all:=fun c q=>hc c (Dc cs C.L c q).2
  rcases Ac9 h.b (cs:=cs) (ix:=ix) (fun c q=>by have:=hal c (hc c q);omega) (by omega) hM with ⟨a,b,c,d,e,f⟩ | ⟨a,b,c,d,e⟩ | ⟨_,b,_⟩
  · exact .inl ⟨a,⟨b.rest (by omega),f h.u,by omega,by rw[d];exact hi,(by rw[c];exact fun x q=>(List.mem_append.1 q).elim (h.L x) (hfr x)),fun x q=>(List.mem_append.1 q).elim (h.F x) (hfr x)⟩,c,d⟩
  · refine .inr ⟨a, ⟨b.rest (by omega), d h.u, ?_, ?_, ?_, h.F⟩, ?_, ?_, ?_, e⟩
    · rw[c];show C.seg≤_;omega
    · rw[c];exact h.i
    · rw[c];exact h.L
    · rw[c]
    · rw[c]
    · rw[c]
  · exact absurd h.u b
theorem Xf (h:FI all M k C F) (hk:k≤1000) (hM:M≤16777216) {live:List Hash} (hl:∀ h∈live,findF C.L h≠none) :
    ((stepF C live).2=(false,0)∧FI all M (k+1) (stepF C live).1 F∧(stepF C live).1.L=C.L∧(stepF C live).1.index=C.index∧((srt (srt live)).length≤10→rankS (srt live) (stepF C live).1.next<rankS (srt live) C.next)) ∨
    ((stepF C live).2=(true,0)∧(∃ G,FI all M (k+1) (stepF C live).1 G∧LiveP C live G)∧LiveP C live (stepF C live).1.L∧(stepF C live).1.index=C.index∧(stepF C live).1.next=none) ∨
    ((stepF C live).2 = (false, 21) ∧ FI all M (k + 1) (stepF C live).1 F ∧ (stepF C live).1.L = C.L ∧ (stepF C live).1.index = C.index ∧ (stepF C live).1.size = C.size ∧
      ∃ Z,(∃ l:List Hash,Z=(segB (Ay C.L l)).length∧l.Nodup∧∀ h∈l,findF C.L h≠none)∧M<(manB ⟨C.seg,C.size,C.index⟩).length+C.size+Z+(C.index.length+35)):=by
  have hs:=h.s
  rcases Abh h.b hM hl (by omega) with ⟨a,b,c,d,e⟩ | ⟨a,⟨G,b,b2⟩,c,d,e,f,g⟩ | ⟨a,b,c,d,e⟩ | ⟨_,b,_⟩
  · refine .inl ⟨a, ⟨b.rest (by omega), d h.u, ?_, ?_, ?_, h.F⟩, ?_, ?_, e⟩
    · rw[c];show C.seg≤_;omega
    · rw[c];exact h.i
    · rw[c];exact h.L
    · rw[c]
    · rw[c]
  · exact .inr (.inl ⟨a,⟨G,⟨b.rest (by omega),g h.u,by omega,by rw[d];exact h.i,fun x q=>h.L x (c.2.2 x q),fun x q=>h.L x (b2.2.2 x q)⟩,b2⟩,c,d,f⟩)
  · refine .inr (.inr ⟨a, ⟨b.rest (by omega), d h.u, ?_, ?_, ?_, h.F⟩, ?_, ?_, ?_, e⟩)
    · rw[c];show C.seg≤_;omega
    · rw[c];exact h.i
    · rw[c];exact h.L
    · rw[c]
    · rw[c]
    · rw[c]
  · exact absurd h.u b
theorem Ac5 (h:FI all M k C F) (hk:k≤1000):(openC C.D).2=0∧Bst (openC C.D).1 M (70+12 * k+65) F∧(openC C.D).1.L=F∧srt ((openC C.D).1.L.map shaF)=srt (C.L.map shaF)∧(openC C.D).1.index=C.index∧(openC C.D).1.size=C.size∧(openC C.D).1.next=none∧(openC C.D).1.seg=C.seg:=by
  obtain⟨V,hV,hR⟩:=h.b.rec_
  have hs:=h.s
  rcases Zv hV h.b.up hR (by show C.seg+1≤_;omega) h.b.nF with ⟨a,b,c,d,e,f,g,_⟩ | ⟨_,b,_⟩
  · exact⟨a,b,c,by rw[c];exact(Acq h.b.eq).symm,d,f,g,e⟩
  · exact absurd h.u b
theorem Ld {l all:List By} (hn:(l.map shaF).Nodup) (hs:∀ c∈l,c∈all) (ha:all.length≤20) (hal:∀ c∈all,c.length≤4000):(segB l).length≤80300:=by
  have h1:=Sj hn hs
  have h2:∀ l:List By,(∀ c∈l,c.length≤4000)→(segB l).length≤l.length * 4015:=fun l=>by
    induction l with
    | nil=>intro _;simp[segB]
    | cons c l ih =>
      intro h
      have h0:=Oa 1 c (by have:=h c (by simp);omega)
      have hi:=ih fun x hx=>h x (by simp[hx])
      have hc:=h c (by simp)
      have e:segB (c :: l)=sealF 1 c++segB l:=rfl
      rw[e,List.length_append,List.length_cons];omega
  have h3:=h2 l fun c hc=>hal c (hs c hc)
  omega
theorem V9 {L:List By} {l:List Hash} (hl:∀ h∈l,findF L h≠none):∀ c∈Ay L l,c∈L:=fun c hc=>by
  obtain⟨y,hy,rfl⟩:=List.mem_map.1 hc
  obtain⟨d,hd⟩:=Option.ne_none_iff_exists'.1 (hl y hy)
  rw[hd];exact(C9 hd).2
theorem Mu {L all:List By} {l:List Hash} (hn:l.Nodup) (hl:∀ h∈l,findF L h≠none) (hL:∀ c∈L,c∈all) (ha:all.length≤20) (hal:∀ c∈all,c.length≤4000):(segB (Ay L l)).length≤80300 :=
  Ld (by rw[Mx hl];exact hn) (fun c hc=>hL c (V9 hl c hc)) ha hal
theorem Bst.nxl {i:Nat} (h:Bst C M i F) (hL:∀ c∈C.L,c∈all) (ha:all.length≤20) (hal:∀ c∈all,c.length≤4000):nxL C.L C.next≤80300:=by
  obtain⟨X,hV,hN⟩:=h.vw
  cases e:C.next with
  | none=>exact Nat.zero_le _
  | some gz=>rw[e] at hN;exact Mu hN.2.2.2 hN.2.2.1 hL ha hal
theorem Bst.room {i:Nat} (h:Bst C M i F) (hF:∀ c∈F,c∈all) (hi:C.index.length≤4000) (ha:all.length≤20) (hal:∀ c∈all,c.length≤4000):C.size≤80300∧(manB ⟨C.seg,C.size,C.index⟩).length≤4035:=by
  have h1:=Ld h.nF hF ha hal
  have h2:=Gi h.ok
  rw[h.sz] at h1
  exact⟨h1,by simp only at h2;omega⟩
theorem Bst.no21 {i:Nat} (h:Bst C M i F) (hM:1048576≤M) (hL:∀ c∈C.L,c∈all) (hF:∀ c∈F,c∈all) (hi:C.index.length≤4000) (ha:all.length≤20) (hal:∀ c∈all,c.length≤4000) {cs:List By} (hc:∀ c∈cs,c∈all) {ix:By} (hix:ix.length≤4000) :
    ¬ M<(manB ⟨C.seg,C.size,C.index⟩).length+C.size+(segB (Au C.L cs)).length+(manB ⟨C.seg,C.size+(segB (Au C.L cs)).length,ix⟩).length+nxL C.L C.next:=by
  obtain⟨h1,h2⟩:=h.room hF hi ha hal
  have h3:=h.nxl hL ha hal
  have hnd:=Iq cs C.L h.nL
  rw[List.map_append,List.nodup_append] at hnd
  have h4:=Ld hnd.2.1 (fun c q=>hc c (Dc cs C.L c q).2) ha hal
  have hlo:=h.ok.lo
  have hhi:=h.hi
  have h5:=Gi (m:=⟨C.seg,C.size+(segB (Au C.L cs)).length,ix⟩) ⟨hlo,by show C.seg≤_;omega,by show C.size+_≤_;omega,by show ix.length≤_;omega⟩
  simp only at h5
  omega
theorem Bst.no21s {i:Nat} (h:Bst C M i F) (hM:1048576≤M) (hL:∀ c∈C.L,c∈all) (hF:∀ c∈F,c∈all) (hi:C.index.length≤4000) (ha:all.length≤20) (hal:∀ c∈all,c.length≤4000) :
    ¬ ∃ Z,(∃ l:List Hash,Z=(segB (Ay C.L l)).length∧l.Nodup∧∀ h∈l,findF C.L h≠none)∧M<(manB ⟨C.seg,C.size,C.index⟩).length+C.size+Z+(C.index.length+35):=by
  rintro⟨Z,⟨l,rfl,hn,hl⟩,h3⟩
  obtain⟨h1,h2⟩:=h.room hF hi ha hal
  have h4:=Mu hn hl hL ha hal
  omega
end
def KeyE (L H:List By):Prop:=∀ z,z∈L.map shaF↔z∈H.map shaF
theorem Fp {L:List By} {z:Hash}:z∈L.map shaF↔findF L z≠none:=by
  constructor
  · intro hz hn
    obtain⟨c,hc,e⟩:=List.mem_map.1 hz
    exact Hh.1 hn c hc e
  · intro hz
    obtain⟨c,hc⟩:=Option.ne_none_iff_exists'.1 hz
    obtain⟨e,hm⟩:=C9 hc
    exact List.mem_map.2 ⟨c,hm,e⟩
theorem KeyE.srt {L H:List By} (h:KeyE L H):Eng.srt (L.map shaF)=Eng.srt (H.map shaF):=Lq (Dr _) fun z=>by rw[mem_srt];exact h z
theorem KeyE.put {L H:List By} (h:KeyE L H) (cs:List By):KeyE (L++Au L cs) (H++cs):=fun z=>by
  rw[List.map_append,List.map_append,List.mem_append,List.mem_append]
  constructor
  · rintro (q | q)
    · exact .inl ((h z).1 q)
    · obtain ⟨c, hc, e⟩ := List.mem_map.1 q
      exact .inr (List.mem_map.2 ⟨c,(Dc cs L c hc).2,e⟩)
  · rintro (q | q)
    · exact .inl ((h z).2 q)
    · obtain ⟨c, hc, rfl⟩ := List.mem_map.1 q
      have:=Fp.2 (Vx cs L c hc)
      rw[List.map_append,List.mem_append] at this;exact this
theorem KeyE.eqF {L F:List By} (h:∀ z,findF L z=findF F z):KeyE L F:=fun z=>by rw[Fp,Fp,h]
theorem KeyE.trans {A B D:List By} (h:KeyE A B) (h2:KeyE B D):KeyE A D:=fun z=>(h z).trans (h2 z)
theorem KeyE.symm {A B:List By} (h:KeyE A B):KeyE B A:=fun z=>(h z).symm
theorem KeyE.live {C:CS} {G H:List By} (h:LiveP C (Eng.srt (C.L.map shaF)) G) (hk:KeyE C.L H):KeyE G H:=fun z=>by
  rw[Fp,h.1,← hk z,← mem_srt (xs:=C.L.map shaF)]
  split
  · rename_i q;exact⟨fun _=>q,fun _=>T1 z q⟩
  · rename_i q;exact⟨fun h=>absurd rfl h,fun h=>absurd h q⟩
theorem KeyE.picked {C:CS} {G H l:List By} (h:LiveP C (l.map shaF) G) (hk:KeyE C.L H) (hl:∀ x∈l,x∈H):KeyE G l:=fun z=>by
  rw[Fp,h.1]
  split
  · rename_i q
    refine⟨fun _=>q,fun _=>Fp.1 ((hk z).2 ?_)⟩
    obtain⟨x,hx,e⟩:=List.mem_map.1 q
    exact List.mem_map.2 ⟨x,hl x hx,e⟩
  · rename_i q;exact⟨fun h=>absurd rfl h,fun h=>absurd h q⟩
theorem Xa {C:CS} {all l:List By} (hap:∀ x∈all,∀ y∈all,shaF x=shaF y→x=y) (hL:∀ c∈C.L,c∈all) (hl:∀ c∈l,c∈all) (hk:KeyE C.L l):HasP C l C.index:=by
  refine⟨fun x hx=>?_,hk.srt,rfl⟩
  have:=Fp.1 ((hk (shaF x)).2 (List.mem_map.2 ⟨x,hx,rfl⟩))
  obtain⟨c,hc⟩:=Option.ne_none_iff_exists'.1 this
  obtain⟨e,hm⟩:=C9 hc
  rw[hc,hap c (hL c hm) x (hl x hx) e]
theorem Adv (l:List Hash):(srt l).length≤l.length:=Du (Dr l).nodup fun z hz=>mem_srt.1 hz
end Go.Proofs.Eng
end
section
namespace Go.Proofs.Eng
open Go.RowKit
theorem Adq {α:Type} {l:List α} {a b:α} (hn:l.Nodup) (hm:∀ x,x∈l↔x=a∨x=b) (hab:a≠b):l=[a,b]∨l=[b,a]:=by
  match l,hn,hm with
  | [],_,hm=>exact absurd ((hm a).2 (.inl rfl)) (by simp)
  | [x], _, hm =>
    have h1:=(hm a).2 (.inl rfl)
    have h2:=(hm b).2 (.inr rfl)
    rw[List.mem_singleton] at h1 h2
    exact absurd (h1.trans h2.symm) hab
  | [x, y], hn, hm =>
    have hxy:x≠y:=by intro e;subst e;simp at hn
    rcases (hm x).1 (by simp) with rfl | rfl
    · rcases (hm y).1 (by simp) with rfl | rfl
      · exact absurd rfl hxy
      · exact .inl rfl
    · rcases (hm y).1 (by simp) with rfl | rfl
      · exact .inr rfl
      · exact absurd rfl hxy
  | x :: y :: z :: r, hn, hm =>
    simp only[List.nodup_cons,List.mem_cons,not_or] at hn
    obtain⟨⟨h1,h2,_⟩,⟨h3,_⟩,_⟩:=hn
    have hx:=(hm x).1 (by simp)
    have hy:=(hm y).1 (by simp)
    have hz:=(hm z).1 (by simp)
    exfalso
    rcases hx with rfl | rfl <;> rcases hy with rfl | rfl <;> rcases hz with rfl | rfl <;> simp_all
theorem Bst.names {C:CS} {M i:Nat} {F:List By} (h:Bst C M i F) (hn:C.next=none) :
    (C.D.l.map (·.1)=[nMan,nSeg C.seg]∨C.D.l.map (·.1)=[nSeg C.seg,nMan])∧readD C.D (nSeg C.seg)=(segB F,0)∧SegN (nSeg C.seg):=by
  obtain⟨X,hV,hN⟩:=h.vw
  rw[hn] at hN
  have hX:X=none:=hN
  subst hX
  have hlo:1≤C.seg:=h.ok.lo
  have hhi:=h.hi
  refine⟨Adq hV.good.ok.rise.nodup (fun x=>?_) (fun e=>Cv hlo (by omega) e.symm),M6 hV h.up (Ct hlo (by omega)) (Ek hlo hhi),C.seg,hlo,by omega,rfl⟩
  constructor
  · intro hx
    have:shp C.seg (some (manB ⟨C.seg,C.size,C.index⟩,(manB ⟨C.seg,C.size,C.index⟩).length)) (some (segB F,C.size)) none none x≠none:=by rw[← hV.v];exact Dj.2 hx
    unfold shp at this
    by_cases e1:x=nMan
    · exact .inl e1
    · by_cases e2 : x = nSeg C.seg
      · exact .inr e2
      · simp[e1,e2] at this
  · rintro (rfl | rfl)
    · exact Dj.1 (fun q=>by have e:=hV.v nMan;rw[Hp] at e;have e2:=e.symm.trans q;cases e2)
    · exact Dj.1 (fun q=>by have e:=hV.v (nSeg C.seg);rw[Ek hlo hhi] at e;have e2:=e.symm.trans q;cases e2)
def segsN (s:Nat) (l:List ByteArray):Nat:=(l.filter fun x=>decide (x=nSeg s)).length
theorem Qb {s:Nat} {l:List ByteArray} {k:Nat} (h:k<l.length):segsN s (l.take (k+1))=segsN s (l.take k)+if l.getD k ByteArray.empty=nSeg s then 1 else 0:=by
  rw[List.take_succ_eq_append_getElem h,List.getD_eq_getElem?_getD,List.getElem?_eq_getElem h]
  unfold segsN
  rw[List.filter_append,List.length_append,Option.getD_some]
  by_cases e:l[k]=nSeg s <;> simp[e]
theorem Bst.segs {C:CS} {M i:Nat} {F:List By} (h:Bst C M i F) (hn:C.next=none):segsN C.seg (C.D.l.map (·.1))=1∧(C.D.l.map (·.1)).length=2∧∀ x∈C.D.l.map (·.1),x=nSeg C.seg∨(x=nMan∧¬ SegN x):=by
  have hne:nMan≠nSeg C.seg:=fun e=>Cv (show 1≤C.seg from h.ok.lo) (by have:=h.hi;omega) e.symm
  rcases (h.names hn).1 with e | e <;> rw[e]
  · exact⟨by unfold segsN;simp[hne],rfl,fun x hx=>by
      rcases List.mem_cons.1 hx with rfl | hx
      · exact .inr ⟨rfl,Gu⟩
      · exact .inl (List.mem_singleton.1 hx)⟩
  · exact⟨by unfold segsN;simp[hne],rfl,fun x hx=>by
      rcases List.mem_cons.1 hx with rfl | hx
      · exact .inl rfl
      · exact .inr ⟨List.mem_singleton.1 hx,by rw[List.mem_singleton.1 hx];exact Gu⟩⟩
theorem Zo {l:List Hash} (h:l.Nodup):(srt l).length=l.length :=
  Nat.le_antisymm (Du (Dr l).nodup fun z hz=>mem_srt.1 hz) (Du h fun z hz=>mem_srt.2 hz)
theorem Yj {F l:List By} (hn:(F.map shaF).Nodup) (hk:KeyE F l):(srt (l.map shaF)).length=F.length:=by
  rw[← hk.srt,Zo hn,List.length_map]
structure Cmp (all H:List By) (ix:By) (live:List By) (k:Nat) (C:CS):Prop where
  f:∃ F,FI all 1048576 k C F
  k:KeyE C.L H
  i:C.index=ix
theorem Cmp.step {all H live:List By} {ix:By} {k:Nat} {C:CS} (h:Cmp all H ix live k C) (hk:k≤1000) (ha:all.length≤20) (hal:∀ c∈all,c.length≤4000) (hl:∀ x∈live,x∈H) (hn:live.length≤10) :
    ((stepF C (live.map shaF)).2=(false,0)∧Cmp all H ix live (k+1) (stepF C (live.map shaF)).1∧rankS (srt (live.map shaF)) (stepF C (live.map shaF)).1.next<rankS (srt (live.map shaF)) C.next) ∨
    ((stepF C (live.map shaF)).2=(true,0)∧Cmp all live ix live (k+1) (stepF C (live.map shaF)).1∧(stepF C (live.map shaF)).1.next=none):=by
  obtain⟨F,hF⟩:=h.f
  have hlv:∀ z∈live.map shaF,findF C.L z≠none:=fun z hz=>by
    obtain⟨x,hx,rfl⟩:=List.mem_map.1 hz
    exact Fp.1 ((h.k _).2 (List.mem_map.2 ⟨x,hl x hx,rfl⟩))
  have hsl:∀ l:List Hash,(srt l).length≤l.length:=fun l=>Du (Dr l).nodup fun z hz=>mem_srt.1 hz
  rcases Xf hF hk (by omega) hlv with ⟨a,b,c,d,e⟩ | ⟨a,⟨G,b,_⟩,c,d,e⟩ | ⟨_,_,_,_,_,e⟩
  · exact .inl ⟨a,⟨⟨F,b⟩,by rw[c];exact h.k,d.trans h.i⟩,e (by have h1:=hsl (srt (live.map shaF));have h2:=hsl (live.map shaF);rw[List.length_map] at h2;omega)⟩
  · exact .inr ⟨a,⟨⟨G,b⟩,KeyE.picked c h.k hl,d.trans h.i⟩,e⟩
  · exact absurd e (hF.b.no21s (Nat.le_refl _) hF.L hF.F hF.i ha hal)
theorem Ab8 {live:List Hash} (h:live.length≤10) (o:Option (List Hash×Nat)):rankS (srt live) o≤12:=by
  unfold rankS
  split
  · omega
  · split
    · have hsl : ∀ l : List Hash, (srt l).length ≤ l.length := fun l => Du (Dr l).nodup fun z hz => mem_srt.1 hz
      refine Nat.le_trans (hsl _) ?_
      unfold sel
      have h1:=hsl live
      exact Nat.le_trans (List.length_filter_le _ _) (by omega)
    · omega
theorem Cmp.act {all H:List By} {ix:By} {k:Nat} {C:CS} (h:Cmp all H ix [] k C) (hk:k≤1000) (ha:all.length≤20) (hal:∀ c∈all,c.length≤4000):Cmp all H ix [] (k+1) (stepF C (srt (C.L.map shaF))).1:=by
  obtain⟨F,hF⟩:=h.f
  rcases Xf hF hk (by omega) (live:=srt (C.L.map shaF)) T1 with ⟨a,b,c,d,e⟩ | ⟨a,⟨G,b,_⟩,c,d,e⟩ | ⟨_,_,_,_,_,e⟩
  · exact⟨⟨F,b⟩,by rw[c];exact h.k,d.trans h.i⟩
  · exact⟨⟨G,b⟩,KeyE.live c h.k,d.trans h.i⟩
  · exact absurd e (hF.b.no21s (Nat.le_refl _) hF.L hF.F hF.i ha hal)
theorem Cmp.put {all H:List By} {ix:By} {k:Nat} {C:CS} (h:Cmp all H ix [] k C) (ha:all.length≤20) (hal:∀ c∈all,c.length≤4000) {cs:List By} (hc:∀ c∈cs,c∈all) {ix2:By} (hi:ix2.length≤4000) :
    (putC C cs ix2).2=0∧Cmp all (H++cs) ix2 [] (k+1) (putC C cs ix2).1:=by
  obtain⟨F,hF⟩:=h.f
  rcases Ad9 hF (by omega) hal hc hi with ⟨a,b,c,d⟩ | ⟨_,_,_,_,_,e⟩
  · exact⟨a,⟨_,b⟩,by rw[c];exact h.k.put cs,d⟩
  · exact absurd e (hF.b.no21 (Nat.le_refl _) hF.L hF.F hF.i ha hal hc hi)
theorem Cmp.hasP {all H live:List By} {ix:By} {k:Nat} {C:CS} (h:Cmp all H ix live k C) (hap:∀ x∈all,∀ y∈all,shaF x=shaF y→x=y) (hH:∀ x∈H,x∈all):HasP C H ix:=by
  obtain⟨F,hF⟩:=h.f
  have:=Xa hap hF.L hH h.k
  rw[h.i] at this;exact this
theorem Cmp.open_ {all H live:List By} {ix:By} {k:Nat} {C:CS} (h:Cmp all H ix live k C) (hk:k≤1000) (ha:all.length≤20) (hal:∀ c∈all,c.length≤4000) (hap:∀ x∈all,∀ y∈all,shaF x=shaF y→x=y) (hH:∀ x∈H,x∈all) :
    (openC C.D).2=0∧CN (openC C.D).1 (70+12 * k+65)∧HasP (openC C.D).1 H ix∧∃ F s,segsN s ((openC C.D).1.D.l.map (·.1))=1∧((openC C.D).1.D.l.map (·.1)).length=2∧(∀ x∈(openC C.D).1.D.l.map (·.1),(x=nSeg s∧SegN x∧readD (openC C.D).1.D x=(segB F,0))∨(x≠nSeg s∧¬ SegN x))∧(∀ c∈F,c.length≤1048576)∧F.length=(srt (H.map shaF)).length∧(segB F).length≤100000:=by
  obtain⟨F,hF⟩:=h.f
  obtain⟨a,b,c,d,e,f,g,s⟩:=Ac5 hF hk
  have hkF:KeyE F H:=(KeyE.eqF hF.b.eq).symm.trans h.k
  have hP:=Xa (C:=(openC C.D).1) (l:=H) hap (by rw[c];exact hF.F) hH (by rw[c];exact hkF)
  rw[e,h.i] at hP
  obtain⟨n1,n2,n3⟩:=b.segs g
  obtain⟨m1,m2,m3⟩:=b.names g
  have hln:=Sj hF.b.nF hF.F
  refine⟨a,b.cn (by rw[c];omega),hP,F,(openC C.D).1.seg,n1,n2,fun x hx=>?_,b.cl,(Yj b.nF hkF).symm,?_⟩
  · rcases n3 x hx with q | ⟨q, q2⟩
    · rw[q];exact .inl ⟨rfl,m3,m2⟩
    · exact .inr ⟨fun e=>q2 (by rw[e];exact m3),q2⟩
  · have := b.sz
    have h2:=hF.b.sz
    rw[this,f]
    have h3:=Ld hF.b.nF hF.F ha
    have h4:C.size=(segB F).length:=h2.symm
    rw[h4]
    exact Nat.le_trans (h3 hal) (by omega)
theorem Wu {s:Nat} (l:List ByteArray):segsN s l≤l.length:=List.length_filter_le _ _
theorem Kt {F:List By} (h:∀ c∈F,c.length≤1048576):getSg (segB F)=(F,0):=by
  have:=Abi (as_:=F) (bs:=[]) h (fun x hx=>by cases hx)
  simpa [segB] using this
theorem Cmp.re {all H l l2:List By} {ix:By} {k j:Nat} {C:CS} (h:Cmp all H ix l k C) (e:k=j):Cmp all H ix l2 j C:=by subst e;exact⟨h.f,h.k,h.i⟩
theorem Ext.someSize {a b:World} (_:Ext a b):∃ z,z=a.heap.size:=⟨_,rfl⟩
section
variable {S Sd : Nat → Prop} {w w' : World} {g gd r B : Nat} {μ : Hash → Option R3} {pi nx : Option Addr} {ni ci : Nat} {C : CS} {t : TypeId}
theorem Nxt.mod {o:Option (List Hash×Nat)} (h:Nxt S Sd w r nx o) (m:Mod B t w w') (h1:t≠tNxt) (h2:t≠tMap):Nxt S Sd w' r nx o:=by
  cases o with
  | none=>exact h
  | some gz =>
    obtain⟨gn,rn,a,b,c,d⟩:=h
    exact⟨gn,rn,a,b.mod m (fun e=>h1 e.symm),c.mod m (Nat.zero_le _) (by simp[vBool,h2]),d⟩
theorem CstX.modT (h:CstX S Sd w g gd r μ pi ni ci nx C) (m:Mod B t w w') (ht:t∉[tDisk,tMap,5,tSto,tNxt]):CstX S Sd w' g gd r μ pi ni ci nx C:=by
  simp only[List.mem_cons,List.not_mem_nil,or_false,not_or] at ht
  obtain⟨h1,h2,h3,h4,h5⟩:=ht
  exact⟨h.sub,h.d.modT m (by simp[h1,h2,h3]),h.b.mod m (fun e=>h4 e.symm),h.m.mod m (Nat.zero_le _) (by simp[vCh,h2]),h.c.mod m (Nat.zero_le _) (by simp[h3]),h.i.mod m (Nat.zero_le _) (by simp[h3]),h.sg,h.sr,h.nr,h.n.mod m h5 h2⟩
theorem Cst.modT (h:Cst S w g gd C) (m:Mod B t w w') (ht:t∉[tDisk,tMap,5,tSto,tNxt]):Cst S w' g gd C:=by
  obtain⟨Sd,r,μ,pi,ni,ci,nx,h⟩:=h;exact⟨Sd,r,μ,pi,ni,ci,nx,h.modT m ht⟩
end
end Go.Proofs.Eng
end
section
set_option maxRecDepth 100000
set_option maxHeartbeats 4000000
namespace Go.Proofs.Eng
open Go.RowKit
open Extern.Stop (cell)
theorem Ka (all:List By) (p q qk:Option Addr) (n c m c2 mk ck:Nat) (w:World) (hl:Sl kLo 23 w.heap.size w p n c all) (acts:List CAct) (ha:Sl kCA 26 w.heap.size w q m c2 acts) (picks:By) (hpk:Lo w.heap.size w qk mk ck picks) (hg:Gt w) :
    Ret Tryz.prog 6 [.slice p n c,.slice q m c2,.slice qk mk ck] w (fun v w'=>v = .bool true∧Ext w w'):=by
 have hgs:=hg.size
 have hX:=Ext.refl w
 refine eN 204 Tryz.func6 ?_
 refine Ab (Aa ?_)
 refine pA (Ac (t_n (Ab (Ab (Aa ?_)))))
 refine pM (pM ?_)
 refine Ag Tryz.func9 fn9 fb9 (X5 _ _ _ _ _ _ (hl.ext hX) _ _ _ _ _ (ha.ext hX)) rfl ?_
 rintro v1 w1 ⟨⟨bf,rfl,hbf⟩,hE1⟩
 have hX:=hX.ext hE1
 refine p1 (Eq rfl) ?_
 refine p1b (Am (by conv=>lhs;whnf)) (fun hb1_4=>?_) (fun hb1_4=>?_)
 ·try simp only[dA,dB,dC,dD,dE,dF,dG,Int.not_lt,Int.not_le] at hb1_4
  refine gF 30 (gF 30 (gF 30 ?_))
  refine p1 (Aq rfl (by conv=>lhs;whnf)) ?_
  refine Ac (t_n ?_)
  refine c_t rfl ?_
  refine Ab (Aa ?_)
  refine Ag Tryz.func11 fn11 fb11 (Gv _ (hg.ext hX)) rfl ?_
  rintro v2 w2 ⟨rfl,hE2⟩
  have hX:=hX.ext hE2
  refine pA (Ac (t_n (Ak (t_r ?_))))
  refine eR1 ?_
  exact⟨rfl,hX⟩
 try simp only[dA,dB,dC,dD,dE,dF,dG,Int.not_lt,Int.not_le] at hb1_4
 have hbt:bf=true:=by simpa using hb1_4
 obtain⟨hf1,hf2,hf3⟩:=hbf hbt
 obtain⟨hle,_⟩:=Rz (l:=all) (by omega)
 have hixs:=Aaa (l:=acts.map CAct.index) (by omega)
 have hln:=hl.len
 have hlc:=hl.cap
 have han:=ha.len
 have hac:=ha.cap
 have haf:=ha.fit
 refine gM 30 ?_
 refine Bm 30 rfl rfl ?_
 refine Ag Tryz.func10 fn10 fb10 (T3 all _ p n c _ (hl.ext hX) hX.size hle (hg:=hg.ext hX)) rfl ?_
 rintro v3 w3 ⟨⟨ba,rfl,hba⟩,hE3⟩
 have hX:=hX.ext hE3
 refine g1 30 rfl rfl (Eq rfl) ?_
 refine p1 (Ap rfl (by conv=>lhs;whnf)) ?_
 refine Ac (t_n ?_)
 refine H3 rfl (fun hc34=>?_) (fun hc34=>?_)
 ·try simp only[dA,dB,dC,dD,dE,dF,dG,Int.not_lt,Int.not_le] at hc34
  refine Ab (Aa ?_)
  refine Ag Tryz.func11 fn11 fb11 (Gv _ (hg.ext hX)) rfl ?_
  rintro v4 w4 ⟨rfl,hE4⟩
  have hX:=hX.ext hE4
  refine pA (Ac (t_n (Ak (t_r ?_))))
  refine eR1 ?_
  exact⟨rfl,hX⟩
 try simp only[dA,dB,dC,dD,dE,dF,dG,Int.not_lt,Int.not_le] at hc34
 have hap:=hba (by simpa using hc34)
 refine Ah (t_n (Ab (Aa ?_)))
 have hXs1:=hX.size
 refine Ag Tryz.func13 fn13 fb13 (Um 1048576 _) rfl ?_
 rintro v5 w5 ⟨⟨gd,rfl,hD⟩,hE5⟩
 have hX:=hX.ext hE5
 have hD:Dsk (since w) _ gd (newD 1048576):=hD.mono (fun k _ h=>h.elim False.elim fun q=>Nat.le_trans hXs1 q.1)
 refine pA (Ac (t_n (Ab (Aa ?_))))
 refine pM ?_
 have hXs:=hX.size
 refine Ag Tryz.func12 fn12 fb12 (Fs gd (since w) (newD 1048576) _ hD (Rx 1048576) (by show 0<_;omega) (by show (-1:Int)≤_;omega) (fun x hx=>by cases hx) (fun k h=>Nat.le_trans hgs (show w.heap.size≤k from h)) (hg.ext hX)) rfl ?_
 rintro v6 w6 ⟨⟨pv6,rfl,hor6⟩,hM6⟩
 have hX:=hX.modS hM6 (Cq w)
 obtain⟨hn1,hF1,hL1,hi1⟩:=(Aea (all:=all) (M:=1048576) 1048576 (by rfl)).resolve_right (fun h=>by have:=h.2;omega)
 obtain⟨ho2,g,rfl,hC⟩:=hor6.resolve_right (fun h=>h.1 hn1)
 rw[ho2]
 obtain⟨C1,hC1⟩:∃ c,c=(openC (newD 1048576)).1:=⟨_,rfl⟩
 rw[← hC1] at hC hF1 hL1 hi1
 have hC:Cst (since w) w6 g gd C1:=hC.mono (fun j _ h=>h.elim (fun h=>h) fun q=>Nat.le_trans hXs q.1)
 refine pM ?_
 refine p1 (An rfl rfl) ?_
 refine p1 (An rfl rfl) ?_
 refine pA (pA (Ac (t_n (Ab (Ab (Aa ?_))))))
 refine pM ?_
 refine p1 ((A1 rfl rfl).cast (congrArg Value.bool (decide_eq_false (by simp)))) ?_
 refine pM (gM 44 ?_)
 refine g1 44 rfl rfl ((Be u30 rfl rfl).cast (congrArg Value.bool (decide_eq_false (by simp)))) ?_
 refine p1 (Ap rfl (by conv=>lhs;whnf)) ?_
 refine Ac (t_n ?_)
 refine c_f rfl ?_
 refine Ah (t_n (Ab (Aa ?_)))
 refine pA (Ac (t_n (Ab (Aa ?_))))
 refine pA (Ac (t_n (Ab (Ab (Aa ?_)))))
 refine pA (Ac (t_n (Al ?_)))
 refine A9 (ι:=Nat×CS×List By×By×Option Addr×Nat×Nat×Option Addr×Nat×Nat) [6,10,11,12,48,49,50,51,52,53,54,55,56,57,58,59,60,61,62,63,64,65,66,67,68,69,70,71,72,73,74,75,76,77,78,79,80,81,82,83,84,85,86,87,88,89,90,91,92,93] (fun (k,C,H,ix,qh,nh,ch,qx,mx,cx)=>[(10,.slice qh nh ch),(11,.slice qx mx cx),(12,.int .i64 (k:Int))]) (fun (k,C,H,ix,qh,nh,ch,qx,mx,cx) w'=>Ext w w'∧(k≤m∧Cst (since w) w' g gd C∧Cmp all H ix [] k C∧(∀ x∈H,x∈all)∧H.length≤10 * k∧Own kLo 23 w.heap.size w.heap.size w' qh nh ch H∧Lo w.heap.size w qx mx cx ix)) (fun (k,C,H,ix,qh,nh,ch,qx,mx,cx)=>m - k) ((0,C1,[],[],none,0,0,none,0,0)) ⟨rfl,rfl,rfl,trivial⟩ ⟨hX,Nat.zero_le _,hC,⟨⟨[],hF1⟩,(fun z=>by rw[hL1]),hi1⟩,(fun x h=>by cases h),Nat.zero_le _,Own.nil _ _ _ _ _,Lo.nil _ _⟩ ?_
 rintro⟨k,C,H,ix,qh,nh,ch,qx,mx,cx⟩ GL0 w7 ⟨hE7,hk,hC,hCm,hHa,hHl,hH,hI⟩
 have hX:=hE7
 obtain⟨F,hF⟩:=hCm.f
 have hcn:=hF.cn hf1
 have hlc20:=hF.len
 obtain⟨Sd,r,μ,pi,ni,ci,nx,hCX⟩:=hC
 refine Ab (Ab (Aa ?_))
 refine pM (pM ?_)
 refine p1 (Aj u27 rfl) ?_
 refine p1 (Bq rfl rfl) ?_
 refine Ac (t_n ?_)
 refine As rfl (fun hc51=>?_) (fun hc51=>?_)
 ·try simp only[dA,dB,dC,dD,dE,dF,dG,Int.not_lt,Int.not_le] at hc51
  refine Ah (t_n (Ab (Al (Ab ?_))))
  obtain⟨pa1,na1,ca1,pa2,na2,ca2,pa3,na3,ca3,hra,hr1,hr2,hr3,hb1,hb2⟩:=ha.caAt k (by omega)
  have hak:(acts.getD k default).index.length≤4000:=hixs _ (List.mem_map.2 ⟨_,Bz (z:=default) (xs:=acts) (i:=k) (by omega) rfl,rfl⟩)
  have hku:=(acts.getD k default).k.toNat_lt
  refine Aa ?_
  refine pM (pM ?_)
  refine p1 (Er u27 sz26 rfl rfl ((ha.ext hX).adr Jr (by omega)) (by omega) (by omega)) ?_
  refine p1 (Ad Ad8 sz5 rfl) ?_
  refine p1 (Ae un5 rfl (hX.cell (hra 0 _ rfl))) ?_
  refine p1 (Y5 rfl rfl (by omega) (by omega)) ?_
  refine p1 (Bq rfl rfl) ?_
  refine Ac (t_n ?_)
  refine As rfl (fun hc60=>?_) (fun hc60=>?_)
  ·try simp only[dA,dB,dC,dD,dE,dF,dG,Int.not_lt,Int.not_le] at hc60
   refine Ab (Ab ?_)
   refine B7 (fun w1 w2=>ModS (since w) EC w1 w2) mixed ?_
   intro w8 hE8
   have hX:=hX.ext hE8
   have hCX:=hCX.ext hE8
   have hH:=hH.ext hE8
   have hSr13:(fun w1 w2=>ModS (since w) EC w1 w2) w8 w8:=ModS.refl _ _ _
   refine hT 0 rfl hSr13 (fun wS hSS=>by(exact(Am (by conv=>lhs;whnf)))) ?_
   refine hT 1 rfl hSr13 (fun wS hSS=>by(exact(Am (by conv=>lhs;whnf)))) ?_
   refine hT 2 rfl hSr13 (fun wS hSS=>by(exact(Am (by conv=>lhs;whnf)))) ?_
   refine hT 3 rfl hSr13 (fun wS hSS=>by(exact(Am (by conv=>lhs;whnf)))) ?_
   refine hT 4 rfl hSr13 (fun wS hSS=>by(exact(Er u27 sz26 rfl rfl ((ha.ext hX).adr Jr (by omega)) (by omega) (by omega)))) ?_
   refine hT 5 rfl hSr13 (fun wS hSS=>by(exact(Ad Aaz sz23 rfl))) ?_
   refine hT 6 rfl hSr13 (fun wS hSS=>by(have hX:=hX.modS hSS (Cq w);exact(Ae un23 rfl (hX.cell (hra 1 _ rfl))))) ?_
   refine hT 8 rfl hSr13 (fun wS hSS=>by(exact(Am (by conv=>lhs;whnf)))) ?_
   refine hT 9 rfl hSr13 (fun wS hSS=>by(exact(Am (by conv=>lhs;whnf)))) ?_
   refine hT 10 rfl hSr13 (fun wS hSS=>by(exact(Er u27 sz26 rfl rfl ((ha.ext hX).adr Jr (by omega)) (by omega) (by omega)))) ?_
   refine hT 11 rfl hSr13 (fun wS hSS=>by(exact(Ad Vz sz23 rfl))) ?_
   refine hT 12 rfl hSr13 (fun wS hSS=>by(have hX:=hX.modS hSS (Cq w);exact(Ae un23 rfl (hX.cell (hra 2 _ rfl))))) ?_
   refine h1L 7 (fun Q7 hQ7=>?_)
   refine Ag Tryz.func33 fn33 fb33 (Ht all w.heap.size p n c _ (hl.ext hX) hX.size (acts.getD k default).picks _ _ _ _ _ (hr1.ext hX).sl5) rfl ?_
   rintro v9 w9 ⟨⟨qp,mp,cp,rfl,hP⟩,hE9⟩
   have hX:=hX.ext hE9
   have hCX:=hCX.ext hE9
   have hH:=hH.ext hE9
   have hSr13:=hSr13.ext hE9
   refine Ao hQ7 ⟨hSr13,?_⟩
   refine h1L 13 (fun Q13 hQ13=>?_)
   have hpl:=hP.len
   have hp10:=Oj (xss:=all) (ps:=(acts.getD k default).picks)
   refine Ag Tryz.func14 fn14 fb14 (Qa g gd r (since w) Sd μ pi nx ni ci C (70+12 * k) _ hCX hcn (fun j h=>Nat.le_trans hgs h) (hg.ext hX) (by omega) (pickL all (acts.getD k default).picks) _ _ _ _ hP.sl.loSl hX.size (by omega) (acts.getD k default).index _ _ _ (Out.ofSl (hr2.ext hX).sl5 (fun hne h=>by have:=hr2.low hne;have h3:w.heap.size≤ab pa2:=h;omega))) rfl ?_
   rintro v10 w10 ⟨rfl,hC,hM10⟩
   have hXs2:=hX.size
   have hX:=hX.modS hM10 (Cq w)
   have hH:=hH.modS hM10 (Cq w) (by simp[kLo]) (.inl (by decide))
   have hC:Cst (since w) w10 g gd (putC C (pickL all (acts.getD k default).picks) (acts.getD k default).index).1:=hC.mono (fun j _ h=>h.elim (fun h=>h) fun q=>Nat.le_trans hXs2 q.1)
   obtain⟨hp0,hCm2⟩:=hCm.put hf1 hle (cs:=pickL all (acts.getD k default).picks) (fun x hx=>Oi x hx) (ix2:=(acts.getD k default).index) hak
   rw[hp0]
   obtain⟨C2,hC2⟩:∃ c,c=(putC C (pickL all (acts.getD k default).picks) (acts.getD k default).index).1:=⟨_,rfl⟩
   rw[← hC2] at hC hCm2
   have hSr13:=hSr13.trans hM10 (fun _ _ h=>h)
   refine Ao hQ13 ⟨hSr13,?_⟩
   refine hT 14 rfl hSr13 (fun wS hSS=>by(exact((A1 rfl rfl).cast (congrArg Value.bool (decide_eq_false (by simp)))))) ?_
   refine Bk (by kernel_rfl) ?_
   refine t_n ?_
   refine c_f rfl ?_
   refine Ah (t_n ?_)
   refine B7 (fun w1 w2=>ModS (since w) [23] w1 w2) mixed ?_
   intro w11 hE11
   have hX:=hX.ext hE11
   have hC:=hC.ext hE11
   have hH:=hH.ext hE11
   have hSr15:(fun w1 w2=>ModS (since w) [23] w1 w2) w11 w11:=ModS.refl _ _ _
   refine hT 0 rfl hSr15 (fun wS hSS=>by(exact(Am (by conv=>lhs;whnf)))) ?_
   refine hT 1 rfl hSr15 (fun wS hSS=>by(exact(Am (by conv=>lhs;whnf)))) ?_
   refine hT 2 rfl hSr15 (fun wS hSS=>by(exact(Am (by conv=>lhs;whnf)))) ?_
   refine hT 3 rfl hSr15 (fun wS hSS=>by(exact(Am (by conv=>lhs;whnf)))) ?_
   refine hT 4 rfl hSr15 (fun wS hSS=>by(exact(Er u27 sz26 rfl rfl ((ha.ext hX).adr Jr (by omega)) (by omega) (by omega)))) ?_
   refine hT 5 rfl hSr15 (fun wS hSS=>by(exact(Ad Aaz sz23 rfl))) ?_
   refine hT 6 rfl hSr15 (fun wS hSS=>by(have hX:=hX.modS hSS (Cq w);exact(Ae un23 rfl (hX.cell (hra 1 _ rfl))))) ?_
   refine hT 9 rfl hSr15 (fun wS hSS=>by(exact(Am (by conv=>lhs;whnf)))) ?_
   refine hT 10 rfl hSr15 (fun wS hSS=>by(exact(Am (by conv=>lhs;whnf)))) ?_
   refine hT 11 rfl hSr15 (fun wS hSS=>by(exact(Er u27 sz26 rfl rfl ((ha.ext hX).adr Jr (by omega)) (by omega) (by omega)))) ?_
   refine hT 12 rfl hSr15 (fun wS hSS=>by(exact(Ad Vz sz23 rfl))) ?_
   refine hT 13 rfl hSr15 (fun wS hSS=>by(have hX:=hX.modS hSS (Cq w);exact(Ae un23 rfl (hX.cell (hra 2 _ rfl))))) ?_
   refine h1L 7 (fun Q7 hQ7=>?_)
   refine Ag Tryz.func33 fn33 fb33 (Ht all w.heap.size p n c _ (hl.ext hX) hX.size (acts.getD k default).picks _ _ _ _ _ (hr1.ext hX).sl5) rfl ?_
   rintro v12 w12 ⟨⟨qy,my,cy,rfl,hP2⟩,hE12⟩
   have hX:=hX.ext hE12
   have hC:=hC.ext hE12
   have hH:=hH.ext hE12
   have hSr15:=hSr15.ext hE12
   refine Ao hQ7 ⟨hSr15,?_⟩
   refine h1L 8 (fun Q8 hQ8=>?_)
   obtain⟨cssA,hAA,hsrA⟩:=H8 u22 hP2.sl Ed
   have hB1:=hX.size
   have hPl:=hP2.len
   have hyl:=hPl
   have hHn:=hH.len
   have hy10:=Oj (xss:=all) (ps:=(acts.getD k default).picks)
   refine Cg (d:=kLo) ((pickL all (acts.getD k default).picks)) u22 inf23 rfl Ed rfl rfl hH (hsrA) hPl (hAA) (rfl) (by omega) (by omega) (by omega) (by omega) (by simp[kLo]) ?_
   intro p84 c84 w13 hH hM13
   have hX:=hX.mod hM13 ((by omega))
   have hC:=hC.modT hM13 (by decide)
   have hSr15:=hSr15.modIn hM13 (fun _ h=>h) (by simp)
   refine Ao hQ8 ⟨hSr15,?_⟩
   refine hT 14 rfl hSr15 (fun wS hSS=>by(exact(Aw (by conv=>lhs;whnf)))) ?_
   refine hT 15 rfl hSr15 (fun wS hSS=>by(exact(Aw (by conv=>lhs;whnf)))) ?_
   refine Bk (by kernel_rfl) ?_
   refine b_n (t_n (Aa ?_))
   refine pM ?_
   refine p1 ((Ax rfl rfl (Ai (by omega) (by omega))).cast (congrArg (Value.int .i64) (by omega:_=((k+1:Nat):Int)))) ?_
   refine pA (Ac ?_)
   exact t_n (At.mk ((k+1,C2,H++(pickL all (acts.getD k default).picks),(acts.getD k default).index,p84,nh+my,c84,pa2,na2,ca2)) (by repeat (first | exact Agr.refl _ _ | exact Agr.hav _ _ _ | refine Agr.upd rfl ?_ | refine Agr.updR rfl ?_ | refine Agr.updL ?_ _ rfl | refine Agr.hav' rfl ?_)) ⟨rfl,rfl,rfl,trivial⟩ ⟨⟨hX,by omega,hC,hCm2,(fun x hx=>(List.mem_append.1 hx).elim (hHa x) (fun q=>Oi x q)),by rw[List.length_append];omega,hH,hr2⟩,by(dsimp only;omega)⟩)
  try simp only[dA,dB,dC,dD,dE,dF,dG,Int.not_lt,Int.not_le] at hc60
  refine Aa ?_
  refine pM (pM ?_)
  refine Ag Tryz.func30 fn30 fb30 (J6 g gd r _ Sd μ pi nx ni ci C (70+12 * k) _ hCX hcn) rfl ?_
  rintro v14 w14 ⟨⟨qz,mz,cz,rfl,hK⟩,hE14⟩
  have hX:=hX.ext hE14
  have hCX:=hCX.ext hE14
  have hH:=hH.ext hE14
  have hml:=hK.len
  have hmk:=Adv (C.L.map shaF)
  rw[List.length_map] at hmk
  refine Ag Tryz.func29 fn29 fb29 (Nv g gd r (since w) Sd μ pi nx ni ci C (70+12 * k) _ hCX hcn (fun j h=>Nat.le_trans hgs h) (hg.ext hX) (by omega) hF.b.gn (srt (C.L.map shaF)) _ _ _ _ hK.sl (by omega)) rfl ?_
  rintro v15 w15 ⟨rfl,hC,hM15⟩
  have hXs2:=hX.size
  have hX:=hX.modS hM15 (Cq w)
  have hH:=hH.modS hM15 (Cq w) (by simp[kLo]) (.inl (by decide))
  have hC:Cst (since w) w15 g gd (stepF C (srt (C.L.map shaF))).1:=hC.mono (fun j _ h=>h.elim (fun h=>h) fun q=>Nat.le_trans hXs2 q.1)
  have hCm2:=hCm.act (by omega) hf1 hle
  obtain⟨C2,hC2⟩:∃ c,c=(stepF C (srt (C.L.map shaF))).1:=⟨_,rfl⟩
  rw[← hC2] at hC hCm2
  refine Ac (b_n (t_n (Aa ?_)))
  refine pM ?_
  refine p1 ((Ax rfl rfl (Ai (by omega) (by omega))).cast (congrArg (Value.int .i64) (by omega:_=((k+1:Nat):Int)))) ?_
  refine pA (Ac ?_)
  exact t_n (aK ((k+1,C2,H,ix,qh,nh,ch,qx,mx,cx)) ⟨rfl,rfl,rfl,trivial⟩ ⟨⟨hX,by omega,hC,hCm2,hHa,by omega,hH,hI⟩,by(dsimp only;omega)⟩)
 try simp only[dA,dB,dC,dD,dE,dF,dG,Int.not_lt,Int.not_le] at hc51
 have hkm:k=m:=by omega
 refine A5 (t_e (t_e (Bo (t_n (Ab (Aa ?_))))))
 refine pM (pM ?_)
 refine Ag Tryz.func33 fn33 fb33 (Ht H w.heap.size qh nh ch _ hH.sl hX.size picks _ _ _ _ _ (hpk.ext hX).sl5) rfl ?_
 rintro v16 w16 ⟨⟨ql,ml,cl,rfl,hLo⟩,hE16⟩
 have hX:=hX.ext hE16
 have hCX:=hCX.ext hE16
 obtain⟨LV,hLV⟩:∃ l,l=pickL H picks:=⟨_,rfl⟩
 rw[← hLV] at hLo
 have hLVs:∀ x∈LV,x∈H:=fun x hx=>by rw[hLV] at hx;exact Oi x hx
 have hLVn:LV.length≤10:=by rw[hLV];exact Oj
 have hLv:=hLo.sl
 have hLvn:=hLv.len
 refine pA (Ac (t_n (Ab (Aa ?_))))
 refine pA (Ac (t_n (Ab (Ab (Aa ?_)))))
 refine pA (Ac (t_n (Al ?_)))
 have hWL2:=Ext.refl w16
 obtain⟨ZD,hZD⟩:=hWL2.someSize
 have hCe:=hCX
 have hLve:=hLv
 have hwZ:=hX.size
 refine A9 (ι:=Nat×Option Addr×Nat×Nat) [14,15,97,98,99,100,101,102,103,104,105,106,107,108,109,110] (fun (i,qd,md,cd)=>[(14,.slice qd md cd),(15,.int .i64 (i:Int))]) (fun (i,qd,md,cd) w'=>Ext w16 w'∧(i≤ml∧Own kHash 64 0 ZD w' qd md cd ((LV.take i).map shaF))) (fun (i,qd,md,cd)=>ml - i) ((0,none,0,0)) ⟨rfl,rfl,trivial⟩ ⟨Ext.refl _,Nat.zero_le _,Own.nil _ _ _ _ _⟩ ?_
 rintro⟨i,qd,md,cd⟩ GL2 w17 ⟨hE17,hi,hO⟩
 have hX:=hX.ext hE17
 have hCX:=hCX.ext hE17
 have hLv:=hLv.ext hE17
 have hWL2:=hE17
 have hol:=hO.len
 rw[List.length_map,List.length_take] at hol
 refine Ab (Ab (Aa ?_))
 refine pM (pM ?_)
 refine p1 (Aj u22 rfl) ?_
 refine p1 (Bq rfl rfl) ?_
 refine Ac (t_n ?_)
 refine As rfl (fun hc100=>?_) (fun hc100=>?_)
 ·try simp only[dA,dB,dC,dD,dE,dF,dG,Int.not_lt,Int.not_le] at hc100
  refine Ah (t_n (Ab (Al ?_)))
  obtain⟨q1,m1,c1,hc1,hr1⟩:=hLv.loAt i (by omega)
  have hl1:=hle _ (hHa _ (hLVs _ (Bz (z:=[]) (xs:=LV) (i:=i) (by omega) rfl)))
  have hn1:=hr1.len
  refine Aa ?_
  refine pM (pM (pM ?_))
  refine p1 (Cl (i:=i) u22 sz23 rfl rfl (hLv.adr Ed (by omega)) (by omega)) ?_
  refine p1 (Ae un23 rfl hc1) ?_
  refine Ag Tryz.func34 fn34 fb34 (Jd (LV.getD i []) _ _ _ _ _ hr1.sl5 (by omega) hX.size (hg.ext hX).r (hg.ext hX).b (by have:=(hg.ext hX).size;omega)) rfl ?_
  rintro v18 w18 ⟨rfl,hE18⟩
  have hX:=hX.ext hE18
  have hCX:=hCX.ext hE18
  have hLv:=hLv.ext hE18
  have hWL2:=hWL2.ext hE18
  have hO:=hO.ext hE18
  refine Av u54 inf64 rfl (by decide) (fun base hb=>Fk [.agg (hv (shaF (LV.getD i [])))] (by intro v hv';simp only[List.mem_singleton] at hv';subst hv';simp[Value.cells,hv,El]) base hb) ?_
  intro w19 g109 hN109
  have hE19:=hN109.ext
  have hX:=hX.ext hE19
  have hCX:=hCX.ext hE19
  have hLv:=hLv.ext hE19
  have hWL2:=hWL2.ext hE19
  have hO:=hO.ext hE19
  have hJ:Own kHash 64 0 0 w19 (some ⟨g109,0,none⟩) 1 1 [shaF (LV.getD i [])]:=Cp [shaF (LV.getD i [])] hN109 (Nat.zero_le _) (by simp)
  have hB1:=hX.size
  have hB2:=hWL2.size
  refine Cg (d:=kHash) ([shaF (LV.getD i [])]) u54 inf64 rfl Bw rfl rfl hO (Dh u54 hJ.sl (by decide)) rfl (Hg _ _ _) (rfl) (by omega) (by omega) (by omega) (by omega) (by decide) ?_
  intro p110 c110 w20 hO hM20
  have hCX:=hCe.ext hWL2
  have hLv:=hLve.ext hWL2
  have hWL2:=hWL2.mod hM20 (by omega)
  refine pA (Ac (b_n (t_n (Aa ?_))))
  refine pM ?_
  refine p1 (Ax rfl rfl (Ai (by omega) (by omega))) ?_
  refine pA (Ac ?_)
  refine t_n (aK ((i+1,p110,md+1,c110)) ⟨rfl,rfl,trivial⟩ ?_)
  exact⟨⟨hWL2,by omega,by rw[Es (by omega),List.map_append];exact hO⟩,by(dsimp only;omega)⟩
 try simp only[dA,dB,dC,dD,dE,dF,dG,Int.not_lt,Int.not_le] at hc100
 have hkk:LV.take i=LV:=List.take_of_length_le (by omega)
 rw[hkk] at hO
 have hDs:=hO.sl
 have hmd:=hO.len
 rw[List.length_map] at hmd
 refine A5 (t_e (t_e (Bo (t_n (Ab (Aa ?_))))))
 refine pA (Ac (t_n (Ab (Ab (Aa ?_)))))
 refine pA (Ac (t_n (Al ?_)))
 refine A9 (ι:=Nat×CS×Bool) [6,9,16,17,111,112,113,114,115,116,117,118,119,120,121,122,123,124,125,126] (fun (tn,C,dn)=>[(16,.bool dn),(17,.int .i64 (tn:Int))]) (fun (tn,C,dn) w'=>Ext w w'∧(Cst (since w) w' g gd C∧Sl kLo 23 w.heap.size w' ql ml cl LV∧Sl kHash 64 0 w' qd md cd (LV.map shaF)∧((dn=false∧Cmp all H ix LV (m+tn) C∧tn+rankS (srt (LV.map shaF)) C.next≤12)∨(dn=true∧Cmp all LV ix LV (m+tn) C∧C.next=none∧tn≤13)))) (fun (tn,C,dn)=>100 - tn) ((0,C,false)) ⟨rfl,rfl,trivial⟩ ⟨hX,hCX.fin,hLv,hDs,.inl ⟨rfl,hCm.re hkm,(by have:=Ab8 (live:=LV.map shaF) (by rw[List.length_map];exact hLVn) C.next;omega)⟩⟩ ?_
 rintro⟨tn,C,dn⟩ GL4 w21 ⟨hE21,hC,hLv,hDs,hV⟩
 have hX:=hE21
 obtain⟨Sd,r,μ,pi,ni,ci,nx,hCX⟩:=hC
 refine Ab (Ab (Aa ?_))
 refine pM ?_
 refine p1 (Bq rfl rfl) ?_
 refine p1b (Am (by conv=>lhs;whnf)) (fun hb25_2=>?_) (fun hb25_2=>?_)
 ·try simp only[dA,dB,dC,dD,dE,dF,dG,Int.not_lt,Int.not_le] at hb25_2
  refine gM 113 ?_
  refine g1 113 rfl rfl (Eq rfl) ?_
  refine p1 (Aq rfl (by conv=>lhs;whnf)) ?_
  refine Ac (t_n ?_)
  refine H3 rfl (fun hc116=>?_) (fun hc116=>?_)
  ·try simp only[dA,dB,dC,dD,dE,dF,dG,Int.not_lt,Int.not_le] at hc116
   obtain⟨hdf,hCm,hrk⟩:=hV.resolve_right (fun h=>by have h1:=h.1;subst h1;simp at hc116)
   obtain⟨F,hF⟩:=hCm.f
   refine Ah (t_n (Ab (Al (Ab (Aa ?_)))))
   refine pM (pM ?_)
   refine Ag Tryz.func29 fn29 fb29 (Nv g gd r (since w) Sd μ pi nx ni ci C (70+12 * (m+tn)) _ hCX (hF.cn hf1) (fun j h=>Nat.le_trans hgs h) (hg.ext hX) (by omega) hF.b.gn (LV.map shaF) _ _ _ _ hDs (by omega)) rfl ?_
   rintro v22 w22 ⟨rfl,hC,hM22⟩
   have hXs2:=hX.size
   have hX:=hX.modS hM22 (Cq w)
   have hLv:=hLv.modS hM22 (Cq w) (by decide)
   have hDs:=hDs.modS hM22 (fun _ _=>Nat.zero_le _) (by decide)
   have hC:Cst (since w) w22 g gd (stepF C (LV.map shaF)).1:=hC.mono (fun j _ h=>h.elim (fun h=>h) fun q=>Nat.le_trans hXs2 q.1)
   obtain⟨C2,hC2⟩:∃ c,c=(stepF C (LV.map shaF)).1:=⟨_,rfl⟩
   obtain⟨dn2,hs1,hs2,hV2⟩:∃ dn2,(stepF C (LV.map shaF)).2.1=dn2∧(stepF C (LV.map shaF)).2.2=0∧((dn2=false∧Cmp all H ix LV (m+(tn+1)) C2∧tn+1+rankS (srt (LV.map shaF)) C2.next≤12)∨(dn2=true∧Cmp all LV ix LV (m+(tn+1)) C2∧C2.next=none∧tn+1≤13)):=by
     rw[hC2]
     rcases hCm.step (by omega) hf1 hle hLVs hLVn with ⟨a,b,c⟩ | ⟨a,b,c⟩
     · exact⟨false,by rw[a],by rw[a],.inl ⟨rfl,b,by omega⟩⟩
     · exact⟨true,by rw[a],by rw[a],.inr ⟨rfl,b,c,by omega⟩⟩
   rw[hs1,hs2]
   rw[← hC2] at hC
   refine pM ?_
   refine p1 (An rfl rfl) ?_
   refine p1 (An rfl rfl) ?_
   refine pA (pA (Ac (t_n (Ab (Aa ?_)))))
   refine pM ?_
   refine p1 ((A1 rfl rfl).cast (congrArg Value.bool (decide_eq_false (by simp)))) ?_
   refine Ac (t_n ?_)
   refine c_f rfl ?_
   refine Ah (b_n (t_n (Aa ?_)))
   refine pM ?_
   refine p1 ((Ax rfl rfl (Ai (by omega) (by omega))).cast (congrArg (Value.int .i64) (by omega:_=((tn+1:Nat):Int)))) ?_
   refine pA (Ac ?_)
   refine t_n (aK ((tn+1,C2,dn2)) ⟨rfl,rfl,trivial⟩ ?_)
   exact⟨⟨hX,hC,hLv,hDs,hV2⟩,by(dsimp only;omega)⟩
  try simp only[dA,dB,dC,dD,dE,dF,dG,Int.not_lt,Int.not_le] at hc116
  refine A5 (t_e (t_e (Bo (t_n (Ab (Ab ?_))))))
  have hdn:dn=true:=by
    rcases hV with ⟨h1,_,h2⟩ | ⟨h1,_⟩
    · exfalso
      (simp[h1] at hc116)
    · exact h1
  obtain⟨hCm5,hnn,htn⟩:=(hV.resolve_left (fun h=>by rw[hdn] at h;cases h.1)).2
  have hHL:∀ x∈LV,x∈all:=fun x hx=>hHa x (hLVs x hx)
  have hHas:=hCm5.hasP hap hHL
  obtain⟨F5,hF5⟩:=hCm5.f
  have hcn5:=hF5.cn hf1
  obtain⟨hop1,hop2,hop3,F6,s6,hop4,hop5,hop6,hop7,hop8,hop9⟩:=hCm5.open_ (by omega) hf1 hle hap hHL
  refine Aa ?_
  refine pM ?_
  refine p1 ((Eq rfl).cast (congrArg Value.bool (show (!dn)=false by rw[hdn];rfl))) ?_
  refine pM (gM 129 ?_)
  refine Bm 129 rfl rfl ?_
  refine Ag Tryz.func32 fn32 fb32 (Nw g gd r _ Sd μ pi nx ni ci C (70+12 * (m+tn)) _ hCX hcn5) rfl ?_
  rintro v23 w23 ⟨rfl,hE23⟩
  have hX:=hX.ext hE23
  have hCX:=hCX.ext hE23
  have hLv:=hLv.ext hE23
  have hDs:=hDs.ext hE23
  rw[show C.next.isSome=false by rw[hnn];rfl]
  refine p1 (Ap rfl (by conv=>lhs;whnf)) ?_
  refine pM (gM 133 (gM 133 (gM 133 ?_)))
  refine Bm 133 rfl rfl ?_
  refine Ag Tryz.func16 fn16 fb16 (Jp g gd r _ Sd μ pi nx ni ci C (70+12 * (m+tn)) _ hCX hcn5 (hg.ext hX) LV _ ql ml cl hLv hX.size (by omega) (fun x hx=>by have:=hle x (hHL x hx);omega) _ _ _ _ _ _ (hI.ext hX).sl5) rfl ?_
  rintro v24 w24 ⟨⟨bh,rfl,hbh⟩,hE24⟩
  have hX:=hX.ext hE24
  have hCX:=hCX.ext hE24
  have hLv:=hLv.ext hE24
  have hDs:=hDs.ext hE24
  have hbt2:bh=true:=hbh.2 hHas
  subst hbt2
  refine g1 133 rfl rfl (Eq rfl) ?_
  refine p1 (Ap rfl (by conv=>lhs;whnf)) ?_
  refine Ac (t_n ?_)
  refine c_f rfl ?_
  refine Ah (t_n (Ab (Aa ?_)))
  refine pM ?_
  have hXs:=hX.size
  have hD:=hCX.d.mono (S':=since w) (fun j _ h=>hCX.sub j h)
  refine Ag Tryz.func12 fn12 fb12 (Fs gd (since w) C.D _ hD hcn5.good.ok (Nat.lt_of_le_of_lt hcn5.good.steps (by omega)) hcn5.good.left hcn5.good.names (fun j h=>Nat.le_trans hgs (show w.heap.size≤j from h)) (hg.ext hX)) rfl ?_
  rintro v25 w25 ⟨⟨pv25,rfl,hor25⟩,hM25⟩
  obtain⟨ho9,g6,rfl,hCt⟩:=hor25.resolve_right (fun h=>h.1 hop1)
  rw[ho9]
  have hX:=hX.modS hM25 (Cq w)
  have hLv:=hLv.modS hM25 (Cq w) (by decide)
  have hDs:=hDs.modS hM25 (fun _ _=>Nat.zero_le _) (by decide)
  obtain⟨C6,hC6⟩:∃ c,c=(openC C.D).1:=⟨_,rfl⟩
  rw[← hC6] at hCt hop2 hop3 hop4 hop5 hop6
  obtain⟨Se,r6,μ6,pi6,ni6,ci6,nx6,hCT⟩:=hCt
  refine pM ?_
  refine p1 (An rfl rfl) ?_
  refine p1 (An rfl rfl) ?_
  refine pA (pA (Ac (t_n (Ab (Ab (Aa ?_))))))
  refine pM ?_
  refine p1 ((A1 rfl rfl).cast (congrArg Value.bool (decide_eq_false (by simp)))) ?_
  refine pM (gM 147 (gM 147 (gM 147 ?_)))
  refine Bm 147 rfl rfl ?_
  refine Ag Tryz.func16 fn16 fb16 (Jp g6 gd r6 _ Se μ6 pi6 nx6 ni6 ci6 C6 (70+12 * (m+tn)+65) _ hCT hop2 (hg.ext hX) LV _ ql ml cl hLv hX.size (by omega) (fun x hx=>by have:=hle x (hHL x hx);omega) _ _ _ _ _ _ (hI.ext hX).sl5) rfl ?_
  rintro v26 w26 ⟨⟨bh2,rfl,hbh2⟩,hE26⟩
  have hX:=hX.ext hE26
  have hDs:=hDs.ext hE26
  have hCT:=hCT.ext hE26
  have hbt3:bh2=true:=hbh2.2 hop3
  subst hbt3
  refine g1 147 rfl rfl (Eq rfl) ?_
  refine p1 (Ap rfl (by conv=>lhs;whnf)) ?_
  refine Ac (t_n ?_)
  refine c_f rfl ?_
  refine Ah (t_n (Ab (Aa ?_)))
  refine pM ?_
  refine Ag Tryz.func35 fn35 fb35 (Jv gd Se C6.D _ hCT.d hop2.good.ok) rfl ?_
  rintro v27 w27 ⟨⟨qn,cn,rfl,hN⟩,hE27⟩
  have hX:=hX.ext hE27
  have hDs:=hDs.ext hE27
  have hCT:=hCT.ext hE27
  have hN:=hN.sl
  refine pA (Ac (t_n (Ab (Aa ?_))))
  refine pA (Ac (t_n (Ab (Ab (Aa ?_)))))
  refine pA (Ac (t_n (Al ?_)))
  have hWL6:=Ext.refl w27
  have hl2:C6.D.l.length=2:=by simpa using hop5
  refine A9 (ι:=Nat×Nat) [6,20,21,22,23,24,25,156,157,158,159,160,161,162,163,164,165,166,167,168,169,170,171,172,173,174,175,176,177,178,179,180,181,182,183,184,185,186,187,188,189,190,191,192,193] (fun (j,nn)=>[(20,.int .i64 (nn:Int)),(21,.int .i64 (j:Int))]) (fun (j,nn) w'=>Ext w27 w'∧(j≤C6.D.l.length∧nn=segsN s6 ((C6.D.l.map (·.1)).take j))) (fun (j,nn)=>C6.D.l.length - j) ((0,0)) ⟨rfl,rfl,trivial⟩ ⟨Ext.refl _,Nat.zero_le _,rfl⟩ ?_
  rintro⟨j,nn⟩ GL6 w28 ⟨hE28,hj,hnn6⟩
  have hX:=hX.ext hE28
  have hDs:=hDs.ext hE28
  have hCT:=hCT.ext hE28
  have hN:=hN.ext hE28
  have hWL6:=hE28
  have hnb:=Wu (s:=s6) ((C6.D.l.map (·.1)).take j)
  rw[List.length_take] at hnb
  refine Ab (Ab (Aa ?_))
  refine pM (pM ?_)
  refine p1 (Aj u74 rfl) ?_
  refine p1 (Bq rfl rfl) ?_
  refine Ac (t_n ?_)
  refine As rfl (fun hc159=>?_) (fun hc159=>?_)
  ·try simp only[dA,dB,dC,dD,dE,dF,dG,Int.not_lt,Int.not_le] at hc159
   refine Ah (t_n (Ab (Al (Ab (Ab ?_)))))
   have hxm:=Bz (z:=ByteArray.empty) (xs:=C6.D.l.map (·.1)) (i:=j) (by omega) rfl
   have hsg:=Qb (s:=s6) (l:=C6.D.l.map (·.1)) (k:=j) (by omega)
   refine Aa ?_
   refine pM (pM ?_)
   refine p1 (Cl u74 sz9 rfl rfl (hN.adr Fq (by omega)) (by omega)) ?_
   refine p1 (Ae un9 rfl (hN.strAt _ (by omega))) ?_
   refine Ag Tryz.func36 fn36 fb36 (Ft _ _ (hg.ext hX).l) rfl ?_
   rintro v29 w29 ⟨⟨rn,rfl,hrn⟩,hE29⟩
   have hX:=hX.ext hE29
   have hDs:=hDs.ext hE29
   have hCT:=hCT.ext hE29
   have hN:=hN.ext hE29
   have hWL6:=hWL6.ext hE29
   refine p1 (Br rfl rfl) ?_
   refine Ac (t_n ?_)
   refine As rfl (fun hc167=>?_) (fun hc167=>?_)
   ·try simp only[dA,dB,dC,dD,dE,dF,dG,Int.not_lt,Int.not_le] at hc167
    have hns:=hrn.1 hc167
    rw[if_neg ((hop6 _ hxm).resolve_left (fun h=>hns h.2.1)).1] at hsg
    refine A5 (t_e (Bo (t_n (Aa ?_))))
    refine pM ?_
    refine p1 ((Ax rfl rfl (Ai (by omega) (by omega))).cast (congrArg (Value.int .i64) (by omega:_=((j+1:Nat):Int)))) ?_
    refine pA (Ac ?_)
    exact t_n (aK ((j+1,nn)) ⟨rfl,rfl,trivial⟩ ⟨⟨hWL6,by omega,by omega⟩,by(dsimp only;omega)⟩)
   try simp only[dA,dB,dC,dD,dE,dF,dG,Int.not_lt,Int.not_le] at hc167
   obtain⟨hxe,hxs,hrd⟩:=(hop6 _ hxm).resolve_right (fun h=>hc167 (hrn.2 h.2))
   rw[if_pos hxe] at hsg
   refine Ah (t_n (Ab (Aa ?_)))
   refine pM ?_
   refine p1 ((Ax rfl rfl (Ai (by omega) (by omega))).cast (congrArg (Value.int .i64) (by omega:_=((nn+1:Nat):Int)))) ?_
   refine pA (Ac (t_n (Ab (Aa ?_))))
   refine pM (pM (pM ?_))
   refine p1 (Cl u74 sz9 rfl rfl (hN.adr Fq (by omega)) (by omega)) ?_
   refine p1 (Ae un9 rfl (hN.strAt _ (by omega))) ?_
   refine Ag Tryz.func37 fn37 fb37 (Gc gd Se C6.D _ hCT.d hop2.good.ok ((C6.D.l.map (·.1)).getD j ByteArray.empty) (by rw[hxe];exact B4 s6)) rfl ?_
   rintro v30 w30 ⟨⟨qb,nb,cb,rfl,hO6⟩,hE30⟩
   have hX:=hX.ext hE30
   have hDs:=hDs.ext hE30
   have hWL6:=hWL6.ext hE30
   rw[hrd] at hO6
   have hO6:=hO6.lower (Nat.zero_le _)
   have hOl:=hO6.len
   dsimp only at hOl
   refine pM ?_
   refine p1 (An rfl rfl) ?_
   refine p1 (An rfl rfl) ?_
   refine pA (pA (Ac (t_n (Ab (Aa ?_)))))
   refine pM ?_
   refine Ag Tryz.func38 fn38 fb38 (Ic (segB F6) _ _ _ _ _ hO6.sl (hg.ext hX).l.q (Nat.zero_le _) (by omega)) rfl ?_
   rintro v31 w31 ⟨⟨qz,mz,cz,rfl,hLs⟩,hE31⟩
   have hDs:=hDs.ext hE31
   have hWL6:=hWL6.ext hE31
   rw[Kt hop7] at hLs
   rw[Kt hop7]
   have hLl:=hLs.len
   dsimp only at hLl
   refine pM ?_
   refine p1 (An rfl rfl) ?_
   refine p1 (An rfl rfl) ?_
   refine pA (pA (Ac (t_n (Ab (Aa ?_)))))
   refine pM ?_
   refine p1 ((A1 rfl rfl).cast (congrArg Value.bool (decide_eq_false (by simp)))) ?_
   refine pM (gM 186 ?_)
   refine g1 186 rfl rfl (Aj u22 rfl) ?_
   refine gM 186 ?_
   refine Bm 186 rfl rfl ?_
   refine Ag Tryz.func39 fn39 fb39 (D7 (LV.map shaF) _ _ _ _ _ hDs (by omega)) rfl ?_
   rintro v32 w32 ⟨⟨qs,ms,cs_,rfl,hms,hLs2⟩,hE32⟩
   have hWL6:=hWL6.ext hE32
   have hLl2:=hLs2.len
   refine g1 186 rfl rfl (Aj u54 rfl) ?_
   refine g1 186 rfl rfl ((A1 rfl rfl).cast (congrArg Value.bool (decide_eq_false (by omega)))) ?_
   refine p1 (Ap rfl (by conv=>lhs;whnf)) ?_
   refine Ac (t_n ?_)
   refine c_f rfl ?_
   refine Ah (b_n (t_n (Aa ?_)))
   refine pM ?_
   refine p1 ((Ax rfl rfl (Ai (by omega) (by omega))).cast (congrArg (Value.int .i64) (by omega:_=((j+1:Nat):Int)))) ?_
   refine pA (Ac ?_)
   exact t_n (aK ((j+1,nn+1)) ⟨rfl,rfl,trivial⟩ ⟨⟨hWL6,by omega,by omega⟩,by(dsimp only;omega)⟩)
  try simp only[dA,dB,dC,dD,dE,dF,dG,Int.not_lt,Int.not_le] at hc159
  have hjj:(C6.D.l.map (·.1)).take j=C6.D.l.map (·.1):=List.take_of_length_le (by omega)
  rw[hjj,hop4] at hnn6
  refine A5 (t_e (t_e (Bo (t_n (Ab (Aa ?_))))))
  refine pM ?_
  refine p1 ((Br rfl rfl).cast (congrArg Value.bool (decide_eq_true (by omega)))) ?_
  refine pM (gM 196 ?_)
  refine g1 196 rfl rfl (Aj u74 rfl) ?_
  refine g1 196 rfl rfl ((Br rfl rfl).cast (congrArg Value.bool (decide_eq_true (by omega)))) ?_
  refine p1 (Aq rfl (by conv=>lhs;whnf)) ?_
  refine pM ?_
  refine Bm 201 rfl rfl ?_
  refine Ag Tryz.func11 fn11 fb11 (Gv _ (hg.ext hX)) rfl ?_
  rintro v33 w33 ⟨rfl,hE33⟩
  have hX:=hX.ext hE33
  refine p1 (Aq rfl (by conv=>lhs;whnf)) ?_
  refine pA (Ac (t_n (Ak ?_)))
  refine eR1 ?_
  exact⟨rfl,hX⟩
 try simp only[dA,dB,dC,dD,dE,dF,dG,Int.not_lt,Int.not_le] at hb25_2
 refine gF 113 (gF 113 ?_)
 refine p1 (Ap rfl (by conv=>lhs;whnf)) ?_
 refine Ac (t_n ?_)
 refine c_f rfl ?_
 refine A5 (t_e (t_e (Bo (t_n (Ab (Ab ?_))))))
 have hdn:dn=true:=by
   rcases hV with ⟨h1,_,h2⟩ | ⟨h1,_⟩
   · exfalso
     omega
   · exact h1
 obtain⟨hCm5,hnn,htn⟩:=(hV.resolve_left (fun h=>by rw[hdn] at h;cases h.1)).2
 have hHL:∀ x∈LV,x∈all:=fun x hx=>hHa x (hLVs x hx)
 have hHas:=hCm5.hasP hap hHL
 obtain⟨F5,hF5⟩:=hCm5.f
 have hcn5:=hF5.cn hf1
 obtain⟨hop1,hop2,hop3,F6,s6,hop4,hop5,hop6,hop7,hop8,hop9⟩:=hCm5.open_ (by omega) hf1 hle hap hHL
 refine Aa ?_
 refine pM ?_
 refine p1 ((Eq rfl).cast (congrArg Value.bool (show (!dn)=false by rw[hdn];rfl))) ?_
 refine pM (gM 129 ?_)
 refine Bm 129 rfl rfl ?_
 refine Ag Tryz.func32 fn32 fb32 (Nw g gd r _ Sd μ pi nx ni ci C (70+12 * (m+tn)) _ hCX hcn5) rfl ?_
 rintro v34 w34 ⟨rfl,hE34⟩
 have hX:=hX.ext hE34
 have hCX:=hCX.ext hE34
 have hLv:=hLv.ext hE34
 have hDs:=hDs.ext hE34
 rw[show C.next.isSome=false by rw[hnn];rfl]
 refine p1 (Ap rfl (by conv=>lhs;whnf)) ?_
 refine pM (gM 133 (gM 133 (gM 133 ?_)))
 refine Bm 133 rfl rfl ?_
 refine Ag Tryz.func16 fn16 fb16 (Jp g gd r _ Sd μ pi nx ni ci C (70+12 * (m+tn)) _ hCX hcn5 (hg.ext hX) LV _ ql ml cl hLv hX.size (by omega) (fun x hx=>by have:=hle x (hHL x hx);omega) _ _ _ _ _ _ (hI.ext hX).sl5) rfl ?_
 rintro v35 w35 ⟨⟨bh,rfl,hbh⟩,hE35⟩
 have hX:=hX.ext hE35
 have hCX:=hCX.ext hE35
 have hLv:=hLv.ext hE35
 have hDs:=hDs.ext hE35
 have hbt2:bh=true:=hbh.2 hHas
 subst hbt2
 refine g1 133 rfl rfl (Eq rfl) ?_
 refine p1 (Ap rfl (by conv=>lhs;whnf)) ?_
 refine Ac (t_n ?_)
 refine c_f rfl ?_
 refine Ah (t_n (Ab (Aa ?_)))
 refine pM ?_
 have hXs:=hX.size
 have hD:=hCX.d.mono (S':=since w) (fun j _ h=>hCX.sub j h)
 refine Ag Tryz.func12 fn12 fb12 (Fs gd (since w) C.D _ hD hcn5.good.ok (Nat.lt_of_le_of_lt hcn5.good.steps (by omega)) hcn5.good.left hcn5.good.names (fun j h=>Nat.le_trans hgs (show w.heap.size≤j from h)) (hg.ext hX)) rfl ?_
 rintro v36 w36 ⟨⟨pv36,rfl,hor36⟩,hM36⟩
 obtain⟨ho9,g6,rfl,hCt⟩:=hor36.resolve_right (fun h=>h.1 hop1)
 rw[ho9]
 have hX:=hX.modS hM36 (Cq w)
 have hLv:=hLv.modS hM36 (Cq w) (by decide)
 have hDs:=hDs.modS hM36 (fun _ _=>Nat.zero_le _) (by decide)
 obtain⟨C6,hC6⟩:∃ c,c=(openC C.D).1:=⟨_,rfl⟩
 rw[← hC6] at hCt hop2 hop3 hop4 hop5 hop6
 obtain⟨Se,r6,μ6,pi6,ni6,ci6,nx6,hCT⟩:=hCt
 refine pM ?_
 refine p1 (An rfl rfl) ?_
 refine p1 (An rfl rfl) ?_
 refine pA (pA (Ac (t_n (Ab (Ab (Aa ?_))))))
 refine pM ?_
 refine p1 ((A1 rfl rfl).cast (congrArg Value.bool (decide_eq_false (by simp)))) ?_
 refine pM (gM 147 (gM 147 (gM 147 ?_)))
 refine Bm 147 rfl rfl ?_
 refine Ag Tryz.func16 fn16 fb16 (Jp g6 gd r6 _ Se μ6 pi6 nx6 ni6 ci6 C6 (70+12 * (m+tn)+65) _ hCT hop2 (hg.ext hX) LV _ ql ml cl hLv hX.size (by omega) (fun x hx=>by have:=hle x (hHL x hx);omega) _ _ _ _ _ _ (hI.ext hX).sl5) rfl ?_
 rintro v37 w37 ⟨⟨bh2,rfl,hbh2⟩,hE37⟩
 have hX:=hX.ext hE37
 have hDs:=hDs.ext hE37
 have hCT:=hCT.ext hE37
 have hbt3:bh2=true:=hbh2.2 hop3
 subst hbt3
 refine g1 147 rfl rfl (Eq rfl) ?_
 refine p1 (Ap rfl (by conv=>lhs;whnf)) ?_
 refine Ac (t_n ?_)
 refine c_f rfl ?_
 refine Ah (t_n (Ab (Aa ?_)))
 refine pM ?_
 refine Ag Tryz.func35 fn35 fb35 (Jv gd Se C6.D _ hCT.d hop2.good.ok) rfl ?_
 rintro v38 w38 ⟨⟨qn,cn,rfl,hN⟩,hE38⟩
 have hX:=hX.ext hE38
 have hDs:=hDs.ext hE38
 have hCT:=hCT.ext hE38
 have hN:=hN.sl
 refine pA (Ac (t_n (Ab (Aa ?_))))
 refine pA (Ac (t_n (Ab (Ab (Aa ?_)))))
 refine pA (Ac (t_n (Al ?_)))
 have hWL6:=Ext.refl w38
 have hl2:C6.D.l.length=2:=by simpa using hop5
 refine A9 (ι:=Nat×Nat) [6,20,21,22,23,24,25,156,157,158,159,160,161,162,163,164,165,166,167,168,169,170,171,172,173,174,175,176,177,178,179,180,181,182,183,184,185,186,187,188,189,190,191,192,193] (fun (j,nn)=>[(20,.int .i64 (nn:Int)),(21,.int .i64 (j:Int))]) (fun (j,nn) w'=>Ext w38 w'∧(j≤C6.D.l.length∧nn=segsN s6 ((C6.D.l.map (·.1)).take j))) (fun (j,nn)=>C6.D.l.length - j) ((0,0)) ⟨rfl,rfl,trivial⟩ ⟨Ext.refl _,Nat.zero_le _,rfl⟩ ?_
 rintro⟨j,nn⟩ GL6 w39 ⟨hE39,hj,hnn6⟩
 have hX:=hX.ext hE39
 have hDs:=hDs.ext hE39
 have hCT:=hCT.ext hE39
 have hN:=hN.ext hE39
 have hWL6:=hE39
 have hnb:=Wu (s:=s6) ((C6.D.l.map (·.1)).take j)
 rw[List.length_take] at hnb
 refine Ab (Ab (Aa ?_))
 refine pM (pM ?_)
 refine p1 (Aj u74 rfl) ?_
 refine p1 (Bq rfl rfl) ?_
 refine Ac (t_n ?_)
 refine As rfl (fun hc159=>?_) (fun hc159=>?_)
 ·try simp only[dA,dB,dC,dD,dE,dF,dG,Int.not_lt,Int.not_le] at hc159
  refine Ah (t_n (Ab (Al (Ab (Ab ?_)))))
  have hxm:=Bz (z:=ByteArray.empty) (xs:=C6.D.l.map (·.1)) (i:=j) (by omega) rfl
  have hsg:=Qb (s:=s6) (l:=C6.D.l.map (·.1)) (k:=j) (by omega)
  refine Aa ?_
  refine pM (pM ?_)
  refine p1 (Cl u74 sz9 rfl rfl (hN.adr Fq (by omega)) (by omega)) ?_
  refine p1 (Ae un9 rfl (hN.strAt _ (by omega))) ?_
  refine Ag Tryz.func36 fn36 fb36 (Ft _ _ (hg.ext hX).l) rfl ?_
  rintro v40 w40 ⟨⟨rn,rfl,hrn⟩,hE40⟩
  have hX:=hX.ext hE40
  have hDs:=hDs.ext hE40
  have hCT:=hCT.ext hE40
  have hN:=hN.ext hE40
  have hWL6:=hWL6.ext hE40
  refine p1 (Br rfl rfl) ?_
  refine Ac (t_n ?_)
  refine As rfl (fun hc167=>?_) (fun hc167=>?_)
  ·try simp only[dA,dB,dC,dD,dE,dF,dG,Int.not_lt,Int.not_le] at hc167
   have hns:=hrn.1 hc167
   rw[if_neg ((hop6 _ hxm).resolve_left (fun h=>hns h.2.1)).1] at hsg
   refine A5 (t_e (Bo (t_n (Aa ?_))))
   refine pM ?_
   refine p1 ((Ax rfl rfl (Ai (by omega) (by omega))).cast (congrArg (Value.int .i64) (by omega:_=((j+1:Nat):Int)))) ?_
   refine pA (Ac ?_)
   exact t_n (aK ((j+1,nn)) ⟨rfl,rfl,trivial⟩ ⟨⟨hWL6,by omega,by omega⟩,by(dsimp only;omega)⟩)
  try simp only[dA,dB,dC,dD,dE,dF,dG,Int.not_lt,Int.not_le] at hc167
  obtain⟨hxe,hxs,hrd⟩:=(hop6 _ hxm).resolve_right (fun h=>hc167 (hrn.2 h.2))
  rw[if_pos hxe] at hsg
  refine Ah (t_n (Ab (Aa ?_)))
  refine pM ?_
  refine p1 ((Ax rfl rfl (Ai (by omega) (by omega))).cast (congrArg (Value.int .i64) (by omega:_=((nn+1:Nat):Int)))) ?_
  refine pA (Ac (t_n (Ab (Aa ?_))))
  refine pM (pM (pM ?_))
  refine p1 (Cl u74 sz9 rfl rfl (hN.adr Fq (by omega)) (by omega)) ?_
  refine p1 (Ae un9 rfl (hN.strAt _ (by omega))) ?_
  refine Ag Tryz.func37 fn37 fb37 (Gc gd Se C6.D _ hCT.d hop2.good.ok ((C6.D.l.map (·.1)).getD j ByteArray.empty) (by rw[hxe];exact B4 s6)) rfl ?_
  rintro v41 w41 ⟨⟨qb,nb,cb,rfl,hO6⟩,hE41⟩
  have hX:=hX.ext hE41
  have hDs:=hDs.ext hE41
  have hWL6:=hWL6.ext hE41
  rw[hrd] at hO6
  have hO6:=hO6.lower (Nat.zero_le _)
  have hOl:=hO6.len
  dsimp only at hOl
  refine pM ?_
  refine p1 (An rfl rfl) ?_
  refine p1 (An rfl rfl) ?_
  refine pA (pA (Ac (t_n (Ab (Aa ?_)))))
  refine pM ?_
  refine Ag Tryz.func38 fn38 fb38 (Ic (segB F6) _ _ _ _ _ hO6.sl (hg.ext hX).l.q (Nat.zero_le _) (by omega)) rfl ?_
  rintro v42 w42 ⟨⟨qz,mz,cz,rfl,hLs⟩,hE42⟩
  have hDs:=hDs.ext hE42
  have hWL6:=hWL6.ext hE42
  rw[Kt hop7] at hLs
  rw[Kt hop7]
  have hLl:=hLs.len
  dsimp only at hLl
  refine pM ?_
  refine p1 (An rfl rfl) ?_
  refine p1 (An rfl rfl) ?_
  refine pA (pA (Ac (t_n (Ab (Aa ?_)))))
  refine pM ?_
  refine p1 ((A1 rfl rfl).cast (congrArg Value.bool (decide_eq_false (by simp)))) ?_
  refine pM (gM 186 ?_)
  refine g1 186 rfl rfl (Aj u22 rfl) ?_
  refine gM 186 ?_
  refine Bm 186 rfl rfl ?_
  refine Ag Tryz.func39 fn39 fb39 (D7 (LV.map shaF) _ _ _ _ _ hDs (by omega)) rfl ?_
  rintro v43 w43 ⟨⟨qs,ms,cs_,rfl,hms,hLs2⟩,hE43⟩
  have hWL6:=hWL6.ext hE43
  have hLl2:=hLs2.len
  refine g1 186 rfl rfl (Aj u54 rfl) ?_
  refine g1 186 rfl rfl ((A1 rfl rfl).cast (congrArg Value.bool (decide_eq_false (by omega)))) ?_
  refine p1 (Ap rfl (by conv=>lhs;whnf)) ?_
  refine Ac (t_n ?_)
  refine c_f rfl ?_
  refine Ah (b_n (t_n (Aa ?_)))
  refine pM ?_
  refine p1 ((Ax rfl rfl (Ai (by omega) (by omega))).cast (congrArg (Value.int .i64) (by omega:_=((j+1:Nat):Int)))) ?_
  refine pA (Ac ?_)
  exact t_n (aK ((j+1,nn+1)) ⟨rfl,rfl,trivial⟩ ⟨⟨hWL6,by omega,by omega⟩,by(dsimp only;omega)⟩)
 try simp only[dA,dB,dC,dD,dE,dF,dG,Int.not_lt,Int.not_le] at hc159
 have hjj:(C6.D.l.map (·.1)).take j=C6.D.l.map (·.1):=List.take_of_length_le (by omega)
 rw[hjj,hop4] at hnn6
 refine A5 (t_e (t_e (Bo (t_n (Ab (Aa ?_))))))
 refine pM ?_
 refine p1 ((Br rfl rfl).cast (congrArg Value.bool (decide_eq_true (by omega)))) ?_
 refine pM (gM 196 ?_)
 refine g1 196 rfl rfl (Aj u74 rfl) ?_
 refine g1 196 rfl rfl ((Br rfl rfl).cast (congrArg Value.bool (decide_eq_true (by omega)))) ?_
 refine p1 (Aq rfl (by conv=>lhs;whnf)) ?_
 refine pM ?_
 refine Bm 201 rfl rfl ?_
 refine Ag Tryz.func11 fn11 fb11 (Gv _ (hg.ext hX)) rfl ?_
 rintro v44 w44 ⟨rfl,hE44⟩
 have hX:=hX.ext hE44
 refine p1 (Aq rfl (by conv=>lhs;whnf)) ?_
 refine pA (Ac (t_n (Ak ?_)))
 refine eR1 ?_
 exact⟨rfl,hX⟩
end Go.Proofs.Eng
end
