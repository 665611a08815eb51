import Derived.Test.YtlmfpocifkpggaaGreatDoorCr5
set_option linter.unusedVariables false
set_option linter.unusedSimpArgs false
set_option linter.unusedSectionVars false
section
set_option maxRecDepth 100000
set_option maxHeartbeats 4000000
namespace Go.Proofs.Eng
open Go.RowKit
open Extern.Stop (cell)
theorem Za (xss:List By) (B:Nat) (p:Option Addr) (n c:Nat) (w:World) (hl:Sl kLo 23 B w p n c xss) (acts:List CAct) (B2:Nat) (q:Option Addr) (m c2:Nat) (ha:Sl kCA 26 B2 w q m c2 acts) :
    Ret Tryz.prog 9 [.slice p n c,.slice q m c2] w (fun v w'=>(∃ b:Bool,v = .bool b∧(b=true→xss.length≤20∧acts.length≤60∧msum xss+msum (acts.map CAct.index)≤4000))∧Ext w w'):=by
 have hX:=Ext.refl w
 refine eN 47 Tryz.func9 ?_
 refine Ab (Aa ?_)
 refine pA (Ac (t_n (Ab (Ab ?_))))
 have hWr1:=Ext.refl w
 refine F6 (ι:=Unit) [8,9,10,11,12,13,14,15] (fun _=>[(15,.bool (decide (20<n∨60<m)))]) (fun _ w'=>Ext w w') ?_ ?_
 ·skip
  refine Aa ?_
  refine pM ?_
  refine p1 (Aj u22 rfl) ?_
  refine p1 (C0 rfl rfl) ?_
  refine p1b (Al (by conv=>lhs;whnf)) (fun hb1_3=>?_) (fun hb1_3=>?_)
  ·try simp only[dA,dB,dC,dD,dE,dF,dG,Int.not_lt,Int.not_le] at hb1_3
   refine gF 11 (gF 11 (gF 11 ?_))
   refine p1 (Ap rfl (by conv=>lhs;whnf)) ?_
   refine Ac ?_
   refine t_n (aK () ⟨congrArg Value.bool (by exact(decide_eq_true (by omega)).symm),trivial⟩ hWr1)
  try simp only[dA,dB,dC,dD,dE,dF,dG,Int.not_lt,Int.not_le] at hb1_3
  refine gM 11 ?_
  refine g1 11 rfl rfl (Aj u27 rfl) ?_
  refine g1 11 rfl rfl (C0 rfl rfl) ?_
  refine p1 (Aq rfl (by conv=>lhs;whnf)) ?_
  refine Ac ?_
  refine t_n (aK () ⟨congrArg Value.bool (by exact decide_eq_decide.2 (by omega)),trivial⟩ hWr1)
 rintro _ Gr1 w1 hE1
 have hX:=hX.ext hE1
 refine t_n ?_
 refine As rfl (fun hc15=>?_) (fun hc15=>?_)
 ·try simp only[dA,dB,dC,dD,dE,dF,dG,Int.not_lt,Int.not_le] at hc15
  refine Ab (Aa ?_)
  refine pA (Ac (t_n (Ak (t_r ?_))))
  refine eR1 ?_
  exact⟨⟨false,rfl,fun h=>by cases h⟩,hX⟩
 try simp only[dA,dB,dC,dD,dE,dF,dG,Int.not_lt,Int.not_le] at hc15
 refine Ai (t_n (Ab (Aa ?_)))
 refine pA (Ac (t_n (Ab (Ab ?_))))
 have hln:=hl.len
 have hlc:=hl.cap
 have hlf:=hl.fit
 have han:=ha.len
 have hac:=ha.cap
 have haf:=ha.fit
 refine Aa ?_
 refine pA (Ac (t_n (Am ?_)))
 have hWL0:=Ext.refl w1
 refine Bg (ι:=Nat) [5,6,16,17,18,19,20,21,22,23,24,25,26,27,28,29] (fun k=>[(5,.int .i64 ((msum (xss.take k):Nat):Int)),(6,.int .i64 (k:Int))]) (fun k w'=>Ext w1 w'∧(k≤n)) (fun k=>n - k) (0) ⟨rfl,rfl,trivial⟩ ⟨Ext.refl _,by omega⟩ ?_
 rintro k GL0 w2 ⟨hE2,hk⟩
 have hX:=hX.ext hE2
 have hWL0:=hE2
 have hms:=U2 (xss.take k)
 rw[List.length_take] at hms
 refine Ab (Ab (Aa ?_))
 refine pM (pM ?_)
 refine p1 (Aj u22 rfl) ?_
 refine p1 (Bx rfl rfl) ?_
 refine Ac (t_n ?_)
 refine As rfl (fun hc19=>?_) (fun hc19=>?_)
 ·try simp only[dA,dB,dC,dD,dE,dF,dG,Int.not_lt,Int.not_le] at hc19
  refine Ai (t_n (Ab (Am ?_)))
  obtain⟨qk,mk,ck,hck,hrow⟩:=hl.loAt k (by omega)
  have hrl:=hrow.len
  have hst:=Rf (l:=xss) (k:=k) (by omega)
  refine Aa ?_
  refine pM (pM (pM ?_))
  refine p1 (C5 (i:=k) u22 sz23 rfl rfl ((hl.ext hX).adr Cd (by omega)) (by omega)) ?_
  refine p1 (Ae un23 rfl (hX.cell hck)) ?_
  refine p1 (Aj u23 rfl) ?_
  refine p1 (Ty rfl rfl) ?_
  refine p1 ((Aw rfl rfl (Ag (by omega) (by omega))).cast (congrArg (Value.int .i64) (by rw[hst,hrl];omega:_=((msum (xss.take (k+1)):Nat):Int)))) ?_
  refine pA (Ac (b_n (t_n (Aa ?_))))
  refine pM ?_
  refine p1 (Aw rfl rfl (Ag (by omega) (by omega))) ?_
  refine pA (Ac ?_)
  refine t_n (aK (k+1) ⟨rfl,rfl,trivial⟩ ?_)
  exact⟨⟨hWL0,(by omega)⟩,by((show _<_);omega)⟩
 try simp only[dA,dB,dC,dD,dE,dF,dG,Int.not_lt,Int.not_le] at hc19
 have hkk:xss.take k=xss:=List.take_of_length_le (by omega)
 refine Ba (t_e (t_e (Bu (t_n (Ab (Ab (Aa ?_)))))))
 refine pA (Ac (t_n (Am ?_)))
 have hWL2:=Ext.refl w2
 refine Bg (ι:=Nat) [5,7,30,31,32,33,34,35,36,37,38,39,40,41,42,43,44] (fun j=>[(5,.int .i64 ((msum (xss.take k)+msum ((acts.map CAct.index).take j):Nat):Int)),(7,.int .i64 (j:Int))]) (fun j w'=>Ext w2 w'∧(j≤m)) (fun j=>m - j) (0) ⟨rfl,rfl,trivial⟩ ⟨Ext.refl _,by omega⟩ ?_
 rintro j GL2 w3 ⟨hE3,hj⟩
 have hX:=hX.ext hE3
 have hWL2:=hE3
 have hms2:=U2 ((acts.map CAct.index).take j)
 rw[List.length_take] at hms2
 refine Ab (Ab (Aa ?_))
 refine pM (pM ?_)
 refine p1 (Aj u27 rfl) ?_
 refine p1 (Bx rfl rfl) ?_
 refine Ac (t_n ?_)
 refine As rfl (fun hc33=>?_) (fun hc33=>?_)
 ·try simp only[dA,dB,dC,dD,dE,dF,dG,Int.not_lt,Int.not_le] at hc33
  refine Ai (t_n (Ab (Am ?_)))
  obtain⟨pa1,na1,ca1,pa2,na2,ca2,pa3,na3,ca3,hra,hr1,hr2,hr3,hb1,hb2⟩:=ha.caAt j (by omega)
  have hrl2:=hr2.len
  have hst2:=Rf (l:=acts.map CAct.index) (k:=j) (by rw[List.length_map];omega)
  have hge:(acts.map CAct.index).getD j []=(acts.getD j default).index:=by rw[List.getD_eq_getElem?_getD,List.getD_eq_getElem?_getD,List.getElem?_map,List.getElem?_eq_getElem (by omega)];rfl
  rw[hge] at hst2
  refine Aa ?_
  refine pM (pM (pM ?_))
  refine p1 (Fd u27 sz26 rfl rfl ((ha.ext hX).adr Yc (by omega)) (by omega) (by omega)) ?_
  refine p1 (Ad Mi sz23 rfl) ?_
  refine p1 (Ae un23 rfl (hX.cell (hra 2 _ rfl))) ?_
  refine p1 (Aj u23 rfl) ?_
  refine p1 (Ty rfl rfl) ?_
  refine p1 ((Aw rfl rfl (Ag (by omega) (by omega))).cast (congrArg (Value.int .i64) (by rw[hst2,hrl2];omega:_=((msum (xss.take k)+msum ((acts.map CAct.index).take (j+1)):Nat):Int)))) ?_
  refine pA (Ac (b_n (t_n (Aa ?_))))
  refine pM ?_
  refine p1 (Aw rfl rfl (Ag (by omega) (by omega))) ?_
  refine pA (Ac ?_)
  refine t_n (aK (j+1) ⟨rfl,rfl,trivial⟩ ?_)
  exact⟨⟨hWL2,(by omega)⟩,by((show _<_);omega)⟩
 try simp only[dA,dB,dC,dD,dE,dF,dG,Int.not_lt,Int.not_le] at hc33
 have hkj:(acts.map CAct.index).take j=acts.map CAct.index:=List.take_of_length_le (by rw[List.length_map];omega)
 refine Ba (t_e (t_e (Bu (t_n (Ab (Aa ?_))))))
 refine pM ?_
 refine p1 (Aem rfl rfl) ?_
 refine pA (Ac (t_n (Ak ?_)))
 refine eR1 ?_
 exact⟨⟨_,rfl,fun h=>⟨by omega,by omega,by have:=of_decide_eq_true h;rw[hkk,hkj] at this;omega⟩⟩,hX⟩
theorem Z8 {l:List By} (h:∀ a b,a<l.length→b<a→shaF (l.getD a [])=shaF (l.getD b [])→l.getD a []=l.getD b []):∀ x∈l,∀ y∈l,shaF x=shaF y→x=y:=fun x hx y hy e=>by
  obtain⟨a,ha,ea⟩:=List.mem_iff_getElem.1 hx
  obtain⟨b,hb,eb⟩:=List.mem_iff_getElem.1 hy
  have ea:l.getD a []=x:=by rw[List.getD_eq_getElem?_getD,List.getElem?_eq_getElem ha,← ea];rfl
  have eb:l.getD b []=y:=by rw[List.getD_eq_getElem?_getD,List.getElem?_eq_getElem hb,← eb];rfl
  rw[← ea,← eb] at e ⊢
  rcases Nat.lt_trichotomy a b with q | q | q
  · exact(h b a hb q e.symm).symm
  · rw[q]
  · exact h a b ha q e
def HasP (C:CS) (l:List By) (ix:By):Prop:=(∀ x∈l,findF C.L (shaF x)=some x)∧srt (C.L.map shaF)=srt (l.map shaF)∧C.index=ix
theorem U5 (xss:List By) (B:Nat) (p:Option Addr) (n c:Nat) (w:World) (hl:Sl kLo 23 B w p n c xss) (hg:Gt w) (hBw:B≤w.heap.size) (hle:∀ x∈xss,x.length≤4000) :
    Ret Tryz.prog 10 [.slice p n c] w (fun v w'=>(∃ b:Bool,v = .bool b∧(b=true→∀ x∈xss,∀ y∈xss,shaF x=shaF y→x=y))∧Ext w w'):=by
 have hX:=Ext.refl w
 refine eN 40 Tryz.func10 ?_
 refine Ab (Aa ?_)
 refine pA (Ac (t_n (Ab (Ab ?_))))
 have hln:=hl.len
 have hlc:=hl.cap
 have hlf:=hl.fit
 have hle:∀ x,xss.getD x []∈xss→(xss.getD x []).length≤4000:=fun x hx=>hle _ hx
 have hmm:∀ i,i<n→xss.getD i []∈xss:=fun i hi=>Cn (z:=[]) (i:=i) (by omega) rfl
 refine Aa ?_
 refine pA (Ac (t_n (Am ?_)))
 have hWL0:=Ext.refl w
 refine Bg (ι:=Nat) [2,3,4,5,6,7,8,9,10,11,12,13,14,15,16,17,18,19,20,21,22,23,24,25,26,27,28,29,30,31,32,33,34,35,36,37,38,39] (fun i=>[(3,.int .i64 (i:Int))]) (fun i w'=>Ext w w'∧(i≤n∧∀ a b,a<i→b<a→shaF (xss.getD a [])=shaF (xss.getD b [])→xss.getD a []=xss.getD b [])) (fun i=>n - i) (0) ⟨rfl,trivial⟩ ⟨Ext.refl _,⟨by omega,fun a b h=>by omega⟩⟩ ?_
 rintro i GL0 w1 ⟨hE1,hi,hA⟩
 have hX:=hX.ext hE1
 have hWL0:=hE1
 refine Ab (Ab (Aa ?_))
 refine pM (pM ?_)
 refine p1 (Aj u22 rfl) ?_
 refine p1 (Bx rfl rfl) ?_
 refine Ac (t_n ?_)
 refine As rfl (fun hc8=>?_) (fun hc8=>?_)
 ·refine Ai (t_n (Ab (Am (Ab (Aa ?_)))))
  refine pA (Ac (t_n (Am ?_)))
  have hWL2:=Ext.refl w1
  refine Bg (ι:=Nat) [2,4,11,12,13,14,15,16,17,18,19,20,21,22,23,24,25,26,27,28,29,30,31,32,33,34,35,36,37,38,39] (fun k=>[(4,.int .i64 (k:Int))]) (fun k w'=>Ext w1 w'∧(k≤i∧∀ b,b<k→shaF (xss.getD i [])=shaF (xss.getD b [])→xss.getD i []=xss.getD b [])) (fun k=>i - k) (0) ⟨rfl,trivial⟩ ⟨Ext.refl _,⟨by omega,fun b h=>by omega⟩⟩ ?_
  rintro k GL2 w2 ⟨hE2,hk,hK⟩
  have hX:=hX.ext hE2
  have hWL0:=hWL0.ext hE2
  have hWL2:=hE2
  refine Ab (Ab (Aa ?_))
  refine pM (pM ?_)
  refine p1 (Bx rfl rfl) ?_
  refine Ac (t_n ?_)
  refine As rfl (fun hc13=>?_) (fun hc13=>?_)
  ·refine Ai (t_n (Ab (Am (Ab ?_))))
   obtain⟨q1,m1,c1,hc1,hr1⟩:=hl.loAt i (by omega)
   obtain⟨q2,m2,c2,hc2,hr2⟩:=hl.loAt k (by omega)
   have hl1:=hle i (hmm i (by omega))
   have hl2:=hle k (hmm k (by omega))
   have hn1:=hr1.len
   have hn2:=hr2.len
   refine B7 (fun w1 w2=>Ext w1 w2) mixed ?_
   intro w3 hE3
   have hX:=hX.ext hE3
   have hWL2:=hWL2.ext hE3
   have hSr7:(fun w1 w2=>Ext w1 w2) w3 w3:=Ext.refl w3
   refine hT 0 rfl hSr7 (fun wS hSS=>by(exact(Al (by conv=>lhs;whnf)))) ?_
   refine hT 1 rfl hSr7 (fun wS hSS=>by(exact(Al (by conv=>lhs;whnf)))) ?_
   refine hT 2 rfl hSr7 (fun wS hSS=>by(have hX:=hX.ext hSS;exact(C5 (i:=i) u22 sz23 rfl rfl ((hl.ext hX).adr Cd (by omega)) (by omega)))) ?_
   refine hT 3 rfl hSr7 (fun wS hSS=>by(have hX:=hX.ext hSS;exact(Ae un23 rfl (hX.cell hc1)))) ?_
   refine hT 5 rfl hSr7 (fun wS hSS=>by(exact(Al (by conv=>lhs;whnf)))) ?_
   refine hT 6 rfl hSr7 (fun wS hSS=>by(exact(Al (by conv=>lhs;whnf)))) ?_
   refine hT 7 rfl hSr7 (fun wS hSS=>by(have hX:=hX.ext hSS;exact(C5 (i:=k) u22 sz23 rfl rfl ((hl.ext hX).adr Cd (by omega)) (by omega)))) ?_
   refine hT 8 rfl hSr7 (fun wS hSS=>by(have hX:=hX.ext hSS;exact(Ae un23 rfl (hX.cell hc2)))) ?_
   refine h1L 4 (fun Q4 hQ4=>?_)
   refine Ah Tryz.func34 fn34 fb34 (K6 (xss.getD i []) _ _ _ _ _ (hr1.ext hX).sl5 (by omega) (Nat.le_trans hBw hX.size) (hg.ext hX).r (hg.ext hX).b (by have:=(hg.ext hX).size;omega)) rfl ?_
   rintro v4 w4 ⟨rfl,hE4⟩
   have hX:=hX.ext hE4
   have hWL2:=hWL2.ext hE4
   have hSr7:=hSr7.ext hE4
   refine An hQ4 ⟨hSr7,?_⟩
   refine h1L 9 (fun Q9 hQ9=>?_)
   refine Ah Tryz.func34 fn34 fb34 (K6 (xss.getD k []) _ _ _ _ _ (hr2.ext hX).sl5 (by omega) (Nat.le_trans hBw hX.size) (hg.ext hX).r (hg.ext hX).b (by have:=(hg.ext hX).size;omega)) rfl ?_
   rintro v5 w5 ⟨rfl,hE5⟩
   have hX:=hX.ext hE5
   have hWL2:=hWL2.ext hE5
   have hSr7:=hSr7.ext hE5
   refine An hQ9 ⟨hSr7,?_⟩
   refine hT 10 rfl hSr7 (fun wS hSS=>by(exact(Fv u64 u5 sz5 eg64 rfl rfl (shaF (xss.getD i [])).2 (shaF (xss.getD k [])).2))) ?_
   refine Yf 11 rfl (by kernel_rfl) (by kernel_rfl) (by kernel_rfl) hSr7 (fun wS hSS=>by( exact(Al (by conv=>lhs;whnf)))) (fun hb7_11=>?_) (fun hb7_11=>?_)
   ·refine Dc 12 27 rfl rfl rfl (by kernel_rfl) (by kernel_rfl) (by kernel_rfl) hSr7 (fun wS hSS=>by( exact(Al (by conv=>lhs;whnf)))) ?_
    refine Dc 13 27 rfl rfl rfl (by kernel_rfl) (by kernel_rfl) (by kernel_rfl) hSr7 (fun wS hSS=>by( exact(Al (by conv=>lhs;whnf)))) ?_
    refine Dc 14 27 rfl rfl rfl (by kernel_rfl) (by kernel_rfl) (by kernel_rfl) hSr7 (fun wS hSS=>by( exact(C5 (i:=i) u22 sz23 rfl rfl ((hl.ext hX).adr Cd (by omega)) (by omega)))) ?_
    refine Dc 17 27 rfl rfl rfl (by kernel_rfl) (by kernel_rfl) (by kernel_rfl) hSr7 (fun wS hSS=>by( exact(Al (by conv=>lhs;whnf)))) ?_
    refine Dc 18 27 rfl rfl rfl (by kernel_rfl) (by kernel_rfl) (by kernel_rfl) hSr7 (fun wS hSS=>by( exact(Al (by conv=>lhs;whnf)))) ?_
    refine Dc 19 27 rfl rfl rfl (by kernel_rfl) (by kernel_rfl) (by kernel_rfl) hSr7 (fun wS hSS=>by( exact(C5 (i:=k) u22 sz23 rfl rfl ((hl.ext hX).adr Cd (by omega)) (by omega)))) ?_
    refine M3 15 20 _ _ rfl rfl (by kernel_rfl) (Br (fun Q15 hQ15=>?_)) (Br (fun Q20 hQ20=>?_))
    ·skip
     refine g1 27 rfl rfl (Ae un23 rfl (hX.cell hc1)) ?_
     refine An hQ15 ⟨hSr7,?_⟩
     refine M3 16 20 _ _ rfl rfl (by kernel_rfl) (Br (fun Q16 hQ16=>?_)) (Br (fun Q20 hQ20=>?_))
     ·skip
      refine g1 27 rfl rfl (A7 u23 u5 u9 rfl (hr1.ext hX).sl5) ?_
      refine An hQ16 ⟨hSr7,?_⟩
      refine h1L 20 (fun Q20 hQ20=>?_)
      refine g1 27 rfl rfl (Ae un23 rfl (hX.cell hc2)) ?_
      refine An hQ20 ⟨hSr7,?_⟩
      refine h1L 21 (fun Q21 hQ21=>?_)
      refine g1 27 rfl rfl (A7 u23 u5 u9 rfl (hr2.ext hX).sl5) ?_
      refine An hQ21 ⟨hSr7,?_⟩
      refine Dc 22 27 rfl rfl rfl (by kernel_rfl) (by kernel_rfl) (by kernel_rfl) hSr7 (fun wS hSS=>by( exact(Eh rfl rfl))) ?_
      refine hT 23 rfl hSr7 (fun wS hSS=>by(exact(Ap rfl (by conv=>lhs;whnf)))) ?_
      refine Bm (by kernel_rfl) ?_
      refine t_n ?_
      refine As rfl (fun hc39=>?_) (fun hc39=>?_)
      ·refine Ab (Aa ?_)
       refine pA (Ac (t_n (Ak (b_r (t_r (t_r (b_r (b_r (t_r (t_r (b_r (t_r ?_))))))))))))
       refine eR1 ?_
       exact⟨⟨false,rfl,fun h=>by cases h⟩,hX⟩
      have hik:shaF (xss.getD i [])=shaF (xss.getD k [])→xss.getD i []=xss.getD k []:=fun e=>by
        exact C3 (Classical.byContradiction hc39)
      refine Ai (b_n (t_n (Aa ?_)))
      refine pM ?_
      refine p1 (Aw rfl rfl (Ag (by omega) (by omega))) ?_
      refine pA (Ac ?_)
      refine t_n (aK (k+1) ⟨rfl,trivial⟩ ?_)
      exact⟨⟨hWL2,⟨by omega,fun b h=>if h2:b<k then hK b h2 else by rw[show b=k from by omega];exact hik⟩⟩,by((show _<_);omega)⟩
     skip
     refine g1 27 rfl rfl (Ae un23 rfl (hX.cell hc2)) ?_
     refine An hQ20 ⟨hSr7,?_⟩
     refine M3 16 21 _ _ rfl rfl (by kernel_rfl) (Br (fun Q16 hQ16=>?_)) (Br (fun Q21 hQ21=>?_))
     ·skip
      refine g1 27 rfl rfl (A7 u23 u5 u9 rfl (hr1.ext hX).sl5) ?_
      refine An hQ16 ⟨hSr7,?_⟩
      refine h1L 21 (fun Q21 hQ21=>?_)
      refine g1 27 rfl rfl (A7 u23 u5 u9 rfl (hr2.ext hX).sl5) ?_
      refine An hQ21 ⟨hSr7,?_⟩
      refine Dc 22 27 rfl rfl rfl (by kernel_rfl) (by kernel_rfl) (by kernel_rfl) hSr7 (fun wS hSS=>by( exact(Eh rfl rfl))) ?_
      refine hT 23 rfl hSr7 (fun wS hSS=>by(exact(Ap rfl (by conv=>lhs;whnf)))) ?_
      refine Bm (by kernel_rfl) ?_
      refine t_n ?_
      refine As rfl (fun hc39=>?_) (fun hc39=>?_)
      ·refine Ab (Aa ?_)
       refine pA (Ac (t_n (Ak (b_r (t_r (t_r (b_r (b_r (t_r (t_r (b_r (t_r ?_))))))))))))
       refine eR1 ?_
       exact⟨⟨false,rfl,fun h=>by cases h⟩,hX⟩
      have hik:shaF (xss.getD i [])=shaF (xss.getD k [])→xss.getD i []=xss.getD k []:=fun e=>by
        exact C3 (Classical.byContradiction hc39)
      refine Ai (b_n (t_n (Aa ?_)))
      refine pM ?_
      refine p1 (Aw rfl rfl (Ag (by omega) (by omega))) ?_
      refine pA (Ac ?_)
      refine t_n (aK (k+1) ⟨rfl,trivial⟩ ?_)
      exact⟨⟨hWL2,⟨by omega,fun b h=>if h2:b<k then hK b h2 else by rw[show b=k from by omega];exact hik⟩⟩,by((show _<_);omega)⟩
     skip
     refine g1 27 rfl rfl (A7 u23 u5 u9 rfl (hr2.ext hX).sl5) ?_
     refine An hQ21 ⟨hSr7,?_⟩
     refine h1L 16 (fun Q16 hQ16=>?_)
     refine g1 27 rfl rfl (A7 u23 u5 u9 rfl (hr1.ext hX).sl5) ?_
     refine An hQ16 ⟨hSr7,?_⟩
     refine Dc 22 27 rfl rfl rfl (by kernel_rfl) (by kernel_rfl) (by kernel_rfl) hSr7 (fun wS hSS=>by( exact(Eh rfl rfl))) ?_
     refine hT 23 rfl hSr7 (fun wS hSS=>by(exact(Ap rfl (by conv=>lhs;whnf)))) ?_
     refine Bm (by kernel_rfl) ?_
     refine t_n ?_
     refine As rfl (fun hc39=>?_) (fun hc39=>?_)
     ·refine Ab (Aa ?_)
      refine pA (Ac (t_n (Ak (b_r (t_r (t_r (b_r (b_r (t_r (t_r (b_r (t_r ?_))))))))))))
      refine eR1 ?_
      exact⟨⟨false,rfl,fun h=>by cases h⟩,hX⟩
     have hik:shaF (xss.getD i [])=shaF (xss.getD k [])→xss.getD i []=xss.getD k []:=fun e=>by
       exact C3 (Classical.byContradiction hc39)
     refine Ai (b_n (t_n (Aa ?_)))
     refine pM ?_
     refine p1 (Aw rfl rfl (Ag (by omega) (by omega))) ?_
     refine pA (Ac ?_)
     refine t_n (aK (k+1) ⟨rfl,trivial⟩ ?_)
     exact⟨⟨hWL2,⟨by omega,fun b h=>if h2:b<k then hK b h2 else by rw[show b=k from by omega];exact hik⟩⟩,by((show _<_);omega)⟩
    skip
    refine g1 27 rfl rfl (Ae un23 rfl (hX.cell hc2)) ?_
    refine An hQ20 ⟨hSr7,?_⟩
    refine M3 15 21 _ _ rfl rfl (by kernel_rfl) (Br (fun Q15 hQ15=>?_)) (Br (fun Q21 hQ21=>?_))
    ·skip
     refine g1 27 rfl rfl (Ae un23 rfl (hX.cell hc1)) ?_
     refine An hQ15 ⟨hSr7,?_⟩
     refine M3 16 21 _ _ rfl rfl (by kernel_rfl) (Br (fun Q16 hQ16=>?_)) (Br (fun Q21 hQ21=>?_))
     ·skip
      refine g1 27 rfl rfl (A7 u23 u5 u9 rfl (hr1.ext hX).sl5) ?_
      refine An hQ16 ⟨hSr7,?_⟩
      refine h1L 21 (fun Q21 hQ21=>?_)
      refine g1 27 rfl rfl (A7 u23 u5 u9 rfl (hr2.ext hX).sl5) ?_
      refine An hQ21 ⟨hSr7,?_⟩
      refine Dc 22 27 rfl rfl rfl (by kernel_rfl) (by kernel_rfl) (by kernel_rfl) hSr7 (fun wS hSS=>by( exact(Eh rfl rfl))) ?_
      refine hT 23 rfl hSr7 (fun wS hSS=>by(exact(Ap rfl (by conv=>lhs;whnf)))) ?_
      refine Bm (by kernel_rfl) ?_
      refine t_n ?_
      refine As rfl (fun hc39=>?_) (fun hc39=>?_)
      ·refine Ab (Aa ?_)
       refine pA (Ac (t_n (Ak (b_r (t_r (t_r (b_r (b_r (t_r (t_r (b_r (t_r ?_))))))))))))
       refine eR1 ?_
       exact⟨⟨false,rfl,fun h=>by cases h⟩,hX⟩
      have hik:shaF (xss.getD i [])=shaF (xss.getD k [])→xss.getD i []=xss.getD k []:=fun e=>by
        exact C3 (Classical.byContradiction hc39)
      refine Ai (b_n (t_n (Aa ?_)))
      refine pM ?_
      refine p1 (Aw rfl rfl (Ag (by omega) (by omega))) ?_
      refine pA (Ac ?_)
      refine t_n (aK (k+1) ⟨rfl,trivial⟩ ?_)
      exact⟨⟨hWL2,⟨by omega,fun b h=>if h2:b<k then hK b h2 else by rw[show b=k from by omega];exact hik⟩⟩,by((show _<_);omega)⟩
     skip
     refine g1 27 rfl rfl (A7 u23 u5 u9 rfl (hr2.ext hX).sl5) ?_
     refine An hQ21 ⟨hSr7,?_⟩
     refine h1L 16 (fun Q16 hQ16=>?_)
     refine g1 27 rfl rfl (A7 u23 u5 u9 rfl (hr1.ext hX).sl5) ?_
     refine An hQ16 ⟨hSr7,?_⟩
     refine Dc 22 27 rfl rfl rfl (by kernel_rfl) (by kernel_rfl) (by kernel_rfl) hSr7 (fun wS hSS=>by( exact(Eh rfl rfl))) ?_
     refine hT 23 rfl hSr7 (fun wS hSS=>by(exact(Ap rfl (by conv=>lhs;whnf)))) ?_
     refine Bm (by kernel_rfl) ?_
     refine t_n ?_
     refine As rfl (fun hc39=>?_) (fun hc39=>?_)
     ·refine Ab (Aa ?_)
      refine pA (Ac (t_n (Ak (b_r (t_r (t_r (b_r (b_r (t_r (t_r (b_r (t_r ?_))))))))))))
      refine eR1 ?_
      exact⟨⟨false,rfl,fun h=>by cases h⟩,hX⟩
     have hik:shaF (xss.getD i [])=shaF (xss.getD k [])→xss.getD i []=xss.getD k []:=fun e=>by
       exact C3 (Classical.byContradiction hc39)
     refine Ai (b_n (t_n (Aa ?_)))
     refine pM ?_
     refine p1 (Aw rfl rfl (Ag (by omega) (by omega))) ?_
     refine pA (Ac ?_)
     refine t_n (aK (k+1) ⟨rfl,trivial⟩ ?_)
     exact⟨⟨hWL2,⟨by omega,fun b h=>if h2:b<k then hK b h2 else by rw[show b=k from by omega];exact hik⟩⟩,by((show _<_);omega)⟩
    skip
    refine g1 27 rfl rfl (A7 u23 u5 u9 rfl (hr2.ext hX).sl5) ?_
    refine An hQ21 ⟨hSr7,?_⟩
    refine h1L 15 (fun Q15 hQ15=>?_)
    refine g1 27 rfl rfl (Ae un23 rfl (hX.cell hc1)) ?_
    refine An hQ15 ⟨hSr7,?_⟩
    refine h1L 16 (fun Q16 hQ16=>?_)
    refine g1 27 rfl rfl (A7 u23 u5 u9 rfl (hr1.ext hX).sl5) ?_
    refine An hQ16 ⟨hSr7,?_⟩
    refine Dc 22 27 rfl rfl rfl (by kernel_rfl) (by kernel_rfl) (by kernel_rfl) hSr7 (fun wS hSS=>by( exact(Eh rfl rfl))) ?_
    refine hT 23 rfl hSr7 (fun wS hSS=>by(exact(Ap rfl (by conv=>lhs;whnf)))) ?_
    refine Bm (by kernel_rfl) ?_
    refine t_n ?_
    refine As rfl (fun hc39=>?_) (fun hc39=>?_)
    ·refine Ab (Aa ?_)
     refine pA (Ac (t_n (Ak (b_r (t_r (t_r (b_r (b_r (t_r (t_r (b_r (t_r ?_))))))))))))
     refine eR1 ?_
     exact⟨⟨false,rfl,fun h=>by cases h⟩,hX⟩
    have hik:shaF (xss.getD i [])=shaF (xss.getD k [])→xss.getD i []=xss.getD k []:=fun e=>by
      exact C3 (Classical.byContradiction hc39)
    refine Ai (b_n (t_n (Aa ?_)))
    refine pM ?_
    refine p1 (Aw rfl rfl (Ag (by omega) (by omega))) ?_
    refine pA (Ac ?_)
    refine t_n (aK (k+1) ⟨rfl,trivial⟩ ?_)
    exact⟨⟨hWL2,⟨by omega,fun b h=>if h2:b<k then hK b h2 else by rw[show b=k from by omega];exact hik⟩⟩,by((show _<_);omega)⟩
   refine Ee 12 27 rfl (by exact .inl rfl) rfl (by kernel_rfl) (by kernel_rfl) (by kernel_rfl) hSr7 ?_
   refine Ee 13 27 rfl (by exact .inl rfl) rfl (by kernel_rfl) (by kernel_rfl) (by kernel_rfl) hSr7 ?_
   refine Ee 14 27 rfl (by exact .inl rfl) rfl (by kernel_rfl) (by kernel_rfl) (by kernel_rfl) hSr7 ?_
   refine Ee 15 27 rfl (by exact .inl rfl) rfl (by kernel_rfl) (by kernel_rfl) (by kernel_rfl) hSr7 ?_
   refine Ee 16 27 rfl (by exact .inl rfl) rfl (by kernel_rfl) (by kernel_rfl) (by kernel_rfl) hSr7 ?_
   refine Ee 17 27 rfl (by exact .inl rfl) rfl (by kernel_rfl) (by kernel_rfl) (by kernel_rfl) hSr7 ?_
   refine Ee 18 27 rfl (by exact .inl rfl) rfl (by kernel_rfl) (by kernel_rfl) (by kernel_rfl) hSr7 ?_
   refine Ee 19 27 rfl (by exact .inl rfl) rfl (by kernel_rfl) (by kernel_rfl) (by kernel_rfl) hSr7 ?_
   refine Ee 20 27 rfl (by exact .inl rfl) rfl (by kernel_rfl) (by kernel_rfl) (by kernel_rfl) hSr7 ?_
   refine Ee 21 27 rfl (by exact .inl rfl) rfl (by kernel_rfl) (by kernel_rfl) (by kernel_rfl) hSr7 ?_
   refine Ee 22 27 rfl (by exact .inl rfl) rfl (by kernel_rfl) (by kernel_rfl) (by kernel_rfl) hSr7 ?_
   refine hT 23 rfl hSr7 (fun wS hSS=>by(exact(Aq rfl (by conv=>lhs;whnf)))) ?_
   refine Bm (by kernel_rfl) ?_
   refine t_n ?_
   refine c_f rfl ?_
   have hik:shaF (xss.getD i [])=shaF (xss.getD k [])→xss.getD i []=xss.getD k []:=fun e=>by
     exact absurd (congrArg Subtype.val e) (by simpa using hb7_11)
   refine Ai (b_n (t_n (Aa ?_)))
   refine pM ?_
   refine p1 (Aw rfl rfl (Ag (by omega) (by omega))) ?_
   refine pA (Ac ?_)
   refine t_n (aK (k+1) ⟨rfl,trivial⟩ ?_)
   exact⟨⟨hWL2,⟨by omega,fun b h=>if h2:b<k then hK b h2 else by rw[show b=k from by omega];exact hik⟩⟩,by((show _<_);omega)⟩
  have hki:k=i:=by omega
  refine Ba (t_e (t_e (Bu (b_n (t_n (Aa ?_))))))
  refine pM ?_
  refine p1 (Aw rfl rfl (Ag (by omega) (by omega))) ?_
  refine pA (Ac ?_)
  refine t_n (aK (i+1) ⟨rfl,trivial⟩ ?_)
  exact⟨⟨hWL0,⟨by omega,fun a b h1 h2=>if h:a<i then hA a b h h2 else by rw[show a=i from by omega];exact hK b (by omega)⟩⟩,by((show _<_);omega)⟩
 refine Ba (t_e (t_e (Bu (t_n (Ab (Aa ?_))))))
 refine pA (Ac (t_n (Ak ?_)))
 refine eR1 ?_
 exact⟨⟨true,rfl,fun _=>Z8 fun a b h1 h2=>hA a b (by omega) h2⟩,hX⟩
theorem J4 (g gd r:Nat) (S Sd:Nat→Prop) (μ:Hash→Option R3) (pi nx:Option Addr) (ni ci:Nat) (C:CS) (k:Nat) (w:World) (hCX:CstX S Sd w g gd r μ pi ni ci nx C) (hn:CN C k) (hg:Gt w) (l:List By) (B:Nat) (p:Option Addr) (n c:Nat) (hl:Sl kLo 23 B w p n c l) (hBw:B≤w.heap.size) (hn2:n≤100000) (hle:∀ x∈l,x.length≤1048576) (ix:By) (e9 B9:Nat) (q:Option Addr) (m c2:Nat) (hix:Sl kByte e9 B9 w q m c2 ix) :
    Ret Tryz.prog 16 [.pointer (some ⟨g,0,none⟩),.slice p n c,.slice q m c2] w (fun v w'=>(∃ b:Bool,v = .bool b∧(b=true↔HasP C l ix))∧Ext w w'):=by
 have hCX0:=hCX
 have hX:=Ext.refl w
 refine eN 58 Tryz.func16 ?_
 refine Ab (Aa ?_)
 refine pA (Ac (t_n (Ab ?_)))
 have hln:=hl.len
 have hlc:=hl.cap
 have hlf:=hl.fit
 refine Aa ?_
 refine pA (Ac (t_n (Ab (Ab (Aa ?_)))))
 refine pA (Ac (t_n (Am ?_)))
 refine Bg (ι:=Nat×Option Addr×Nat×Nat) [6,7,8,9,10,11,12,13,14,15,16,17,18,19,20,21,22,23,24,25,26,27,28,29,30,31,32,33,34,35,36,37,38,39,40,41,42,43,44] (fun (i,q7,m7,c7)=>[(7,.slice q7 m7 c7),(8,.int .i64 (i:Int))]) (fun (i,q7,m7,c7) w'=>Ext w w'∧(i≤n∧Own kHash 64 0 w.heap.size w' q7 m7 c7 ((l.take i).map shaF)∧∀ j,j<i→findF C.L (shaF (l.getD j []))=some (l.getD j []))) (fun (i,q7,m7,c7)=>n - i) ((0,none,0,0)) ⟨rfl,rfl,trivial⟩ ⟨hX,by omega,Own.nil _ _ _ _ _,fun j hj=>by omega⟩ ?_
 rintro⟨i,q7,m7,c7⟩ GL0 w1 ⟨hE1,hi,hO,hA⟩
 have hX:=hE1
 have hCX:=hCX0.ext hX
 have hol:=hO.len
 rw[List.length_map,List.length_take] at hol
 refine Ab (Ab (Aa ?_))
 refine pM (pM ?_)
 refine p1 (Aj u22 rfl) ?_
 refine p1 (Bx rfl rfl) ?_
 refine Ac (t_n ?_)
 refine As rfl (fun hc15=>?_) (fun hc15=>?_)
 ·try simp only[dA,dB,dC,dD,dE,dF,dG,Int.not_lt,Int.not_le] at hc15
  refine Ai (t_n (Ab (Am (Ab ?_))))
  obtain⟨q1,m1,c1,hc1,hr1⟩:=hl.loAt i (by omega)
  have hl1:=hle _ (Cn (z:=[]) (xs:=l) (i:=i) (by omega) rfl)
  have hn1:=hr1.len
  refine Aa ?_
  refine pM (pM ?_)
  refine p1 (C5 (i:=i) u22 sz23 rfl rfl ((hl.ext hX).adr Cd (by omega)) (by omega)) ?_
  refine p1 (Ae un23 rfl (hX.cell hc1)) ?_
  refine Ah Tryz.func34 fn34 fb34 (K6 (l.getD i []) _ _ _ _ _ (hr1.ext hX).sl5 (by omega) (Nat.le_trans hBw hX.size) (hg.ext hX).r (hg.ext hX).b (by have:=(hg.ext hX).size;omega)) rfl ?_
  rintro v2 w2 ⟨rfl,hE2⟩
  have hX:=hX.ext hE2
  have hCX:=hCX.ext hE2
  have hO:=hO.ext hE2
  have hOb:=hO.below
  have hz9:=hX.size
  refine A6 zr64 ?_
  intro w3 g9 hN9
  have hE3:=hN9.ext
  have hX:=hX.ext hE3
  have hCX:=hCX.ext hE3
  have hO:=hO.ext hE3
  have hB9:=hN9.blk
  have hq9:=hN9.g_eq
  refine Az rfl rfl (Cm _) (B4 sz64 _) hB9 (Dl _) ?_
  intro w4 hP4
  have hX:=hX.put hP4 (by omega)
  have hCX:=hCX0.ext hX
  have hO:=hO.modB (hP4.mod g9 (Nat.le_refl _)) (Nat.zero_le _) (by decide) (by rw[hq9];exact hOb)
  have hB9:=hP4.blk
  refine Ac (t_n (Ab (Aa ?_)))
  refine pM ?_
  refine p1 (Bh ua64 rfl hB9 (B4 sz64 _)) ?_
  refine Ah Tryz.func28 fn28 fb28 (Y1 g gd r S Sd μ pi nx ni ci C k _ hCX hn (shaF (l.getD i []))) rfl ?_
  rintro v5 w5 ⟨⟨qg,mg,cg,eg,rfl,hgt⟩,hE5⟩
  have hX:=hX.ext hE5
  have hO:=hO.ext hE5
  have hB9:=hB9.ext hE5
  have hGx:∀ w2,Ext w5 w2→eg=0→∃ x,findF C.L (shaF (l.getD i []))=some x∧Sl kByte 5 0 w2 qg mg cg x:=fun w2 hx he=>by
    obtain⟨_,x,h1,h2⟩:=hgt.resolve_left (fun h=>by omega)
    exact⟨x,h1,h2.sl.ext hx⟩
  have hGn:eg≠0→findF C.L (shaF (l.getD i []))=none:=fun he=>(hgt.resolve_right (fun h=>he h.1)).2
  have hG:=Ext.refl w5
  refine pM ?_
  refine p1 (Ao rfl rfl) ?_
  refine p1 (Ao rfl rfl) ?_
  refine pA (pA (Ac (t_n (Ab (Ab ?_)))))
  refine Du mixed (by kernel_rfl) ?_
  intro w6 hE6
  have hX:=hX.ext hE6
  have hO:=hO.ext hE6
  have hB9:=hB9.ext hE6
  have hG:=hG.ext hE6
  refine s1 (Al (by conv=>lhs;whnf)) ?_
  refine s1 (A2 rfl rfl) ?_
  refine s1b (Al (by conv=>lhs;whnf)) (fun hb7_2=>?_) (fun hb7_2=>?_)
  ·try simp only[dA,dB,dC,dD,dE,dF,dG,Int.not_lt,Int.not_le] at hb7_2
   refine sg0 31 rfl (by exact .inl rfl) ?_
   refine sg0 31 rfl (by exact .inl rfl) ?_
   refine sg0 31 rfl (by exact .inl rfl) ?_
   refine sg0 31 rfl (by exact .inl rfl) ?_
   refine sg0 31 rfl (by exact .inl rfl) ?_
   refine sg0 31 rfl (by exact .inl rfl) ?_
   refine sg0 31 rfl (by exact .inl rfl) ?_
   refine sg0 31 rfl (by exact .inl rfl) ?_
   refine s1 (Ap rfl (by conv=>lhs;whnf)) ?_
   refine Ca (t_n ?_)
   refine c_t rfl ?_
   have hno:¬ HasP C l ix:=fun h=>by
     have h1:=h.1 _ (Cn (z:=[]) (xs:=l) (i:=i) (by omega) rfl)
     (have h2:=hGn (by omega);rw[h2] at h1;cases h1)
   refine Ab (Aa ?_)
   refine pA (Ac (t_n (Ak (t_r (b_r (t_r (t_r (b_r (t_r ?_)))))))))
   refine eR1 ?_
   exact⟨⟨false,rfl,⟨(fun h=>by cases h),fun h=>absurd h hno⟩⟩,hX⟩
  try simp only[dA,dB,dC,dD,dE,dF,dG,Int.not_lt,Int.not_le] at hb7_2
  have heg:eg=0:=by omega
  obtain⟨x,hx,hrx⟩:=hGx _ hG heg
  refine sg1 31 rfl rfl (Al (by conv=>lhs;whnf)) ?_
  refine sg1 31 rfl rfl (A7 u23 u5 u9 rfl hrx) ?_
  refine sg1 31 rfl rfl (Al (by conv=>lhs;whnf)) ?_
  refine sg1 31 rfl rfl (Al (by conv=>lhs;whnf)) ?_
  refine sg1 31 rfl rfl (C5 (i:=i) u22 sz23 rfl rfl ((hl.ext hX).adr Cd (by omega)) (by omega)) ?_
  refine sg1 31 rfl rfl (Ae un23 rfl (hX.cell hc1)) ?_
  refine sg1 31 rfl rfl (A7 u23 u5 u9 rfl (hr1.ext hX).sl5) ?_
  refine sg1 31 rfl rfl (Eh rfl rfl) ?_
  refine s1 (Aq rfl (by conv=>lhs;whnf)) ?_
  refine Ca (t_n ?_)
  refine As rfl (fun hc40=>?_) (fun hc40=>?_)
  ·try simp only[dA,dB,dC,dD,dE,dF,dG,Int.not_lt,Int.not_le] at hc40
   have hno:¬ HasP C l ix:=fun h=>by
     have h1:=h.1 _ (Cn (z:=[]) (xs:=l) (i:=i) (by omega) rfl)
     (have h2:=hGn (by(simp_all;done));rw[h2] at h1;cases h1)
   refine Ab (Aa ?_)
   refine pA (Ac (t_n (Ak (t_r (b_r (t_r (t_r (b_r (t_r ?_)))))))))
   refine eR1 ?_
   exact⟨⟨false,rfl,⟨(fun h=>by cases h),fun h=>absurd h hno⟩⟩,hX⟩
  try simp only[dA,dB,dC,dD,dE,dF,dG,Int.not_lt,Int.not_le] at hc40
  have hxx:findF C.L (shaF (l.getD i []))=some (l.getD i []):=by
    rw[hx];exact congrArg some (C3 (Classical.byContradiction hc40))
  refine Ai (t_n (Aa ?_))
  refine pM ?_
  refine p1 (Bh ua64 rfl hB9 (B4 sz64 _)) ?_
  refine Au u54 inf64 rfl (by decide) (fun base hb=>Gc [.agg (hv (shaF (l.getD i [])))] (by intro v hv';simp only[List.mem_singleton] at hv';subst hv';simp[Value.cells,hv,E8]) base hb) ?_
  intro w7 g43 hN43
  have hE7:=hN43.ext
  have hX:=hX.ext hE7
  have hO:=hO.ext hE7
  have hJ:Own kHash 64 0 0 w7 (some ⟨g43,0,none⟩) 1 1 [shaF (l.getD i [])]:=Cw [shaF (l.getD i [])] hN43 (Nat.zero_le _) (by simp)
  have hB1:=hX.size
  refine Bv (d:=kHash) ([shaF (l.getD i [])]) u54 inf64 rfl Cb rfl rfl hO (C6 u54 hJ.sl (by decide)) rfl (It _ _ _) (rfl) (by omega) (by omega) (by omega) (by omega) (by decide) ?_
  intro p44 c44 w8 hO hM8
  have hX:=hX.mod hM8 (Nat.le_refl _)
  refine pA (Ac (b_n (t_n (Aa ?_))))
  refine pM ?_
  refine p1 (Aw rfl rfl (Ag (by omega) (by omega))) ?_
  refine pA (Ac ?_)
  refine t_n (aK ((i+1,p44,m7+1,c44)) ⟨rfl,rfl,trivial⟩ ?_)
  exact⟨⟨hX,by omega,by rw[Fg (by omega),List.map_append];exact hO,fun j hj=>if h:j<i then hA j h else by rw[show j=i from by omega];exact hxx⟩,by(dsimp only;omega)⟩
 try simp only[dA,dB,dC,dD,dE,dF,dG,Int.not_lt,Int.not_le] at hc15
 have hkk:l.take i=l:=List.take_of_length_le (by omega)
 rw[hkk] at hO
 have hall:∀ x∈l,findF C.L (shaF x)=some x:=fun x hx=>by
   obtain⟨a,ha,ea⟩:=List.mem_iff_getElem.1 hx
   have ea:l.getD a []=x:=by rw[List.getD_eq_getElem?_getD,List.getElem?_eq_getElem ha,← ea];rfl
   rw[← ea];exact hA a (by omega)
 refine Ba (t_e (t_e (Bu (t_n (Ab ?_)))))
 refine B7 (fun w1 w2=>Ext w1 w2) mixed ?_
 intro w9 hE9
 have hX:=hX.ext hE9
 have hCX:=hCX.ext hE9
 have hO:=hO.ext hE9
 have hSr10:(fun w1 w2=>Ext w1 w2) w9 w9:=Ext.refl w9
 refine hT 0 rfl hSr10 (fun wS hSS=>by(exact(Al (by conv=>lhs;whnf)))) ?_
 refine hT 2 rfl hSr10 (fun wS hSS=>by(exact(Al (by conv=>lhs;whnf)))) ?_
 refine h1L 1 (fun Q1 hQ1=>?_)
 refine Ah Tryz.func30 fn30 fb30 (Hx g gd r S Sd μ pi nx ni ci C k _ hCX hn) rfl ?_
 rintro v10 w10 ⟨⟨qa,ma,ca,rfl,hLa⟩,hE10⟩
 have hX:=hX.ext hE10
 have hCX:=hCX.ext hE10
 have hO:=hO.ext hE10
 have hSr10:=hSr10.ext hE10
 refine An hQ1 ⟨hSr10,?_⟩
 refine h1L 3 (fun Q3 hQ3=>?_)
 refine Ah Tryz.func39 fn39 fb39 (F1 (l.map shaF) _ _ _ _ _ hO.sl (by omega)) rfl ?_
 rintro v11 w11 ⟨⟨qs,ms,cs,rfl,hms_,hLs⟩,hE11⟩
 have hX:=hX.ext hE11
 have hCX:=hCX.ext hE11
 have hSr10:=hSr10.ext hE11
 have hLa:=hLa.ext hE11
 refine An hQ3 ⟨hSr10,?_⟩
 refine h1L 4 (fun Q4 hQ4=>?_)
 refine Ah Tryz.func41 fn41 fb41 (Va (srt (C.L.map shaF)) (srt (l.map shaF)) _ _ _ _ _ _ _ _ _ hLa.sl hLs.sl) rfl ?_
 rintro v12 w12 ⟨rfl,hE12⟩
 have hX:=hX.ext hE12
 have hCX:=hCX.ext hE12
 have hSr10:=hSr10.ext hE12
 refine An hQ4 ⟨hSr10,?_⟩
 refine Yf 5 rfl (by kernel_rfl) (by kernel_rfl) (by kernel_rfl) hSr10 (fun wS hSS=>by( exact(Al (by conv=>lhs;whnf)))) (fun hb10_5=>?_) (fun hb10_5=>?_)
 ·try simp only[dA,dB,dC,dD,dE,dF,dG,Int.not_lt,Int.not_le] at hb10_5
  refine Dc 6 50 rfl rfl rfl (by kernel_rfl) (by kernel_rfl) (by kernel_rfl) hSr10 (fun wS hSS=>by( exact(Al (by conv=>lhs;whnf)))) ?_
  refine Dc 9 50 rfl rfl rfl (by kernel_rfl) (by kernel_rfl) (by kernel_rfl) hSr10 (fun wS hSS=>by( exact(Al (by conv=>lhs;whnf)))) ?_
  refine M3 7 10 _ _ rfl rfl (by kernel_rfl) (Br (fun Q7 hQ7=>?_)) (Br (fun Q10 hQ10=>?_))
  ·skip
   refine B8 50 rfl rfl ?_
   refine Ah Tryz.func31 fn31 fb31 (Ie g gd r S Sd μ pi nx ni ci C k _ hCX hn) rfl ?_
   rintro v13 w13 ⟨⟨qi,mi,cj,rfl,hIx⟩,hE13⟩
   have hX:=hX.ext hE13
   have hSr10:=hSr10.ext hE13
   refine An hQ7 ⟨hSr10,?_⟩
   refine M3 8 10 _ _ rfl rfl (by kernel_rfl) (Br (fun Q8 hQ8=>?_)) (Br (fun Q10 hQ10=>?_))
   ·skip
    refine g1 50 rfl rfl (A7 u23 u5 u9 rfl hIx.sl) ?_
    refine An hQ8 ⟨hSr10,?_⟩
    refine h1L 10 (fun Q10 hQ10=>?_)
    refine g1 50 rfl rfl (A7 u23 u5 u9 rfl (hix.ext hX)) ?_
    refine An hQ10 ⟨hSr10,?_⟩
    refine Dc 11 50 rfl rfl rfl (by kernel_rfl) (by kernel_rfl) (by kernel_rfl) hSr10 (fun wS hSS=>by( exact(Fe rfl rfl))) ?_
    refine hT 12 rfl hSr10 (fun wS hSS=>by(exact(Ap rfl (by conv=>lhs;whnf)))) ?_
    refine hT 13 rfl hSr10 (fun wS hSS=>by(exact(Ax (by conv=>lhs;whnf)))) ?_
    refine Bm (by kernel_rfl) ?_
    refine t_n (Ak ?_)
    refine eR1 ?_
    exact⟨⟨_,rfl,⟨fun h=>⟨hall,by simpa using hb10_5,C3 (of_decide_eq_true h)⟩,fun h=>decide_eq_true (congrArg toStr h.2.2)⟩⟩,hX⟩
   skip
   refine g1 50 rfl rfl (A7 u23 u5 u9 rfl (hix.ext hX)) ?_
   refine An hQ10 ⟨hSr10,?_⟩
   refine h1L 8 (fun Q8 hQ8=>?_)
   refine g1 50 rfl rfl (A7 u23 u5 u9 rfl hIx.sl) ?_
   refine An hQ8 ⟨hSr10,?_⟩
   refine Dc 11 50 rfl rfl rfl (by kernel_rfl) (by kernel_rfl) (by kernel_rfl) hSr10 (fun wS hSS=>by( exact(Fe rfl rfl))) ?_
   refine hT 12 rfl hSr10 (fun wS hSS=>by(exact(Ap rfl (by conv=>lhs;whnf)))) ?_
   refine hT 13 rfl hSr10 (fun wS hSS=>by(exact(Ax (by conv=>lhs;whnf)))) ?_
   refine Bm (by kernel_rfl) ?_
   refine t_n (Ak ?_)
   refine eR1 ?_
   exact⟨⟨_,rfl,⟨fun h=>⟨hall,by simpa using hb10_5,C3 (of_decide_eq_true h)⟩,fun h=>decide_eq_true (congrArg toStr h.2.2)⟩⟩,hX⟩
  skip
  refine g1 50 rfl rfl (A7 u23 u5 u9 rfl (hix.ext hX)) ?_
  refine An hQ10 ⟨hSr10,?_⟩
  refine h1L 7 (fun Q7 hQ7=>?_)
  refine B8 50 rfl rfl ?_
  refine Ah Tryz.func31 fn31 fb31 (Ie g gd r S Sd μ pi nx ni ci C k _ hCX hn) rfl ?_
  rintro v14 w14 ⟨⟨qi,mi,cj,rfl,hIx⟩,hE14⟩
  have hX:=hX.ext hE14
  have hSr10:=hSr10.ext hE14
  refine An hQ7 ⟨hSr10,?_⟩
  refine h1L 8 (fun Q8 hQ8=>?_)
  refine g1 50 rfl rfl (A7 u23 u5 u9 rfl hIx.sl) ?_
  refine An hQ8 ⟨hSr10,?_⟩
  refine Dc 11 50 rfl rfl rfl (by kernel_rfl) (by kernel_rfl) (by kernel_rfl) hSr10 (fun wS hSS=>by( exact(Fe rfl rfl))) ?_
  refine hT 12 rfl hSr10 (fun wS hSS=>by(exact(Ap rfl (by conv=>lhs;whnf)))) ?_
  refine hT 13 rfl hSr10 (fun wS hSS=>by(exact(Ax (by conv=>lhs;whnf)))) ?_
  refine Bm (by kernel_rfl) ?_
  refine t_n (Ak ?_)
  refine eR1 ?_
  exact⟨⟨_,rfl,⟨fun h=>⟨hall,by simpa using hb10_5,C3 (of_decide_eq_true h)⟩,fun h=>decide_eq_true (congrArg toStr h.2.2)⟩⟩,hX⟩
 try simp only[dA,dB,dC,dD,dE,dF,dG,Int.not_lt,Int.not_le] at hb10_5
 refine Ee 6 50 rfl (by exact .inl rfl) rfl (by kernel_rfl) (by kernel_rfl) (by kernel_rfl) hSr10 ?_
 refine Ee 7 50 rfl (by exact .inl rfl) rfl (by kernel_rfl) (by kernel_rfl) (by kernel_rfl) hSr10 ?_
 refine Ee 8 50 rfl (by exact .inl rfl) rfl (by kernel_rfl) (by kernel_rfl) (by kernel_rfl) hSr10 ?_
 refine Ee 9 50 rfl (by exact .inl rfl) rfl (by kernel_rfl) (by kernel_rfl) (by kernel_rfl) hSr10 ?_
 refine Ee 10 50 rfl (by exact .inl rfl) rfl (by kernel_rfl) (by kernel_rfl) (by kernel_rfl) hSr10 ?_
 refine Ee 11 50 rfl (by exact .inl rfl) rfl (by kernel_rfl) (by kernel_rfl) (by kernel_rfl) hSr10 ?_
 refine hT 12 rfl hSr10 (fun wS hSS=>by(exact(Aq rfl (by conv=>lhs;whnf)))) ?_
 refine hT 13 rfl hSr10 (fun wS hSS=>by(exact(Ax (by conv=>lhs;whnf)))) ?_
 refine Bm (by kernel_rfl) ?_
 refine t_n (Ak ?_)
 refine eR1 ?_
 exact⟨⟨false,rfl,⟨(fun h=>by cases h),fun h=>absurd h.2.1 (by simpa using hb10_5)⟩⟩,hX⟩
end Go.Proofs.Eng
end
section
namespace Go.Proofs.Eng
open Go.RowKit
structure Vw (D:DS) (M i:Nat) (V:ByteArray→Option Fb):Prop where
  good:Good D i
  most:D.most=M
  v:∀ k,ascF D.l k=V k
def Up0 (D:DS):Prop:=D.down=false∧D.left=-1
def Oc (D:DS) (r:DS×Int) (M i:Nat) (V V':ByteArray→Option Fb):Prop :=
  (r.2=0∧Vw r.1 M i V'∧r.1.down=false∧(Up0 D→Up0 r.1))∨(r.2=20∧¬ Up0 D∧r.1.down=true∧(Vw r.1 M i V∨Vw r.1 M i V'))
theorem Vw.mono {D:DS} {M i j:Nat} {V:ByteArray→Option Fb} (h:Vw D M i V) (hj:i≤j):Vw D M j V:=⟨h.good.mono hj,h.most,h.v⟩
theorem J3 {D:DS} {ns:List ByteArray} (hn:ns.all A1=true) (hd:D.down=true):lookD D ns=20:=by unfold lookD;rw[hn,hd];rfl
section
variable {D : DS} {M i : Nat} {V V' : ByteArray → Option Fb} {k : ByteArray}
theorem Jt {r:DS×Int} (h:Vw D M i V) (hd:D.down=true) (hr:r=(D,20)):Oc D r M (i+1) V V':=by
  subst hr;exact .inr ⟨rfl,(fun hu=>by rw[hu.1] at hd;cases hd),hd,.inl (h.mono (by omega))⟩
theorem Js (h:Vw D M i V) (hd:D.down=false) {act:List Fl} {fa al:Bool} (hg:Good (stepD D act fa al).1 (i+1)) (ha:∀ z,ascA act z=V' z):Oc D (stepD D act fa al) M (i+1) V V':=by
  by_cases hl:D.left≠0
  · rw [K1 hl] at hg ⊢
    exact .inl ⟨rfl,⟨hg,h.most,ha⟩,hd,fun hu=>⟨hd,by show max (-1) (D.left - 1)=-1;rw[hu.2];rfl⟩⟩
  · have hz : ¬ Up0 D := fun hu => hl (by rw [hu.2]; decide)
    cases hb:(fa && (al || D.done)) with
    | true=>rw[Jj hl hb] at hg ⊢;exact .inr ⟨rfl,hz,rfl,.inr ⟨hg,h.most,ha⟩⟩
    | false=>rw[K0 hl hb] at hg ⊢;exact .inr ⟨rfl,hz,rfl,.inl ⟨hg,h.most,h.v⟩⟩
theorem Vw.ins (h:Vw D M i V) (k:ByteArray) (o:Option Fb):∀ z,ascA (insA D.l k o) z=mset V k o z:=fun z=>by
  rw[← Eg h.good.ok.rise];unfold mset;split
  · rfl
  · exact h.v z
theorem Vw.getF (h:Vw D M i V) {f:Fb} (hk:V k=some f):Eng.getF D k=f:=by unfold Eng.getF;rw[h.v,hk];rfl
theorem L0 (h:Vw D M i V) (hn:A1 k=true) (hk:V k=none) (hl:D.l.length<64):Oc D (Bk D k) M (i+1) V (mset V k (some ([],0))):=by
  cases hd:D.down with
  | true=>exact Jt h hd (by unfold Bk;rw[J3 (by simp[hn]) hd,if_pos (by decide)])
  | false =>
    have hg:=G6 h.good k
    unfold Bk at hg ⊢
    rw[D7 (by simp[hn]) hd,if_neg (by simp),if_neg (by rw[h.v,hk];simp),if_neg (by omega)] at hg ⊢
    exact Js h hd hg (h.ins _ _)
theorem Yy (h:Vw D M i V) (hn:A1 k=true) {f:Fb} (hk:V k=some f) (p:By) :
    Oc D (A4 D k p) M (i+1) V (mset V k (some (f.1++p,f.2)))∨(A4 D k p=(D,21)∧D.down=false∧M<usedL D.l+p.length):=by
  cases hd:D.down with
  | true=>exact .inl (Jt h hd (by unfold A4;rw[J3 (by simp[hn]) hd,if_pos (by decide)]))
  | false =>
    have hg:=G7 h.good k p
    unfold A4 at hg ⊢
    rw[D7 (by simp[hn]) hd,if_neg (by simp),if_neg (by rw[h.v,hk];simp),h.getF hk,h.most] at hg ⊢
    by_cases hr:(M:Int) - usedL D.l<p.length
    · rw[if_pos hr];exact .inr ⟨rfl,rfl,by omega⟩
    · rw[if_neg hr] at hg ⊢;exact .inl (Js h hd hg (h.ins _ _))
theorem Sa (h:Vw D M i V) (hn:A1 k=true) {f:Fb} (hk:V k=some f):Oc D (syncD D k) M (i+1) V (mset V k (some (f.1,f.1.length))):=by
  cases hd:D.down with
  | true=>exact Jt h hd (by unfold syncD;rw[J3 (by simp[hn]) hd,if_pos (by decide)])
  | false =>
    have hg:=Md h.good k
    unfold syncD at hg ⊢
    rw[D7 (by simp[hn]) hd,if_neg (by simp),if_neg (by rw[h.v,hk];simp),h.getF hk] at hg ⊢
    exact Js h hd hg (h.ins _ _)
theorem Hh (h:Vw D M i V) (hn:A1 k=true) {f:Fb} (hk:V k=some f):Oc D (Bj D k) M (i+1) V (mset V k none):=by
  cases hd:D.down with
  | true=>exact Jt h hd (by unfold Bj;rw[J3 (by simp[hn]) hd,if_pos (by decide)])
  | false =>
    have hg:=Co h.good k
    unfold Bj at hg ⊢
    rw[D7 (by simp[hn]) hd,if_neg (by simp),if_neg (by rw[h.v,hk];simp)] at hg ⊢
    exact Js h hd hg (h.ins _ _)
theorem Aex (h:Vw D M i V) {old now:ByteArray} (hn:A1 old=true) (hn2:A1 now=true) (hne:old≠now) {f:Fb} (hk:V old=some f):Oc D (Cl D old now) M (i+1) V (mset (mset V now (some f)) old none):=by
  cases hd:D.down with
  | true=>exact Jt h hd (by unfold Cl;rw[J3 (by simp[hn,hn2]) hd,if_pos (by decide)])
  | false =>
    have hg:=Iv h.good old now
    unfold Cl at hg ⊢
    rw[D7 (by simp[hn,hn2]) hd,if_neg (by simp),if_neg (by rw[h.v,hk];simp),h.getF hk] at hg ⊢
    refine Js h hd hg fun z=>?_
    unfold renL
    rw[if_neg hne,← Eg (D0 h.good.ok.rise _ _)]
    unfold mset
    split
    · rfl
    · have:=h.ins now (some f) z;unfold mset at this;exact this
theorem Aam (h:Vw D M i V) (hn:A1 k=true) {f:Fb} (hk:V k=some f) {n:Nat} (hl:n≤f.1.length):Oc D (cutD D k n) M (i+1) V (mset V k (some (f.1.take n,n))):=by
  cases hd:D.down with
  | true=>exact Jt h hd (by unfold cutD;rw[J3 (by simp[hn]) hd,if_pos (by decide)])
  | false =>
    have hg:=Iw h.good k n
    unfold cutD at hg ⊢
    rw[D7 (by simp[hn]) hd,if_neg (by simp),if_neg (by rw[h.v,hk];simp),h.getF hk,if_neg (by omega)] at hg ⊢
    exact Js h hd hg (h.ins _ _)
theorem Sb (h:Vw D M i V) (hd:D.down=false) (hn:A1 k=true) {f:Fb} (hk:V k=some f):readD D k=(f.1,0):=by
  unfold readD
  rw[D7 (by simp[hn]) hd,if_neg (by simp),if_neg (by rw[h.v,hk];simp),h.getF hk]
theorem Aal (h:Vw D M i V) (hd:D.down=false) (hn:A1 k=true) (hk:V k=none):readD D k=([],22):=by
  unfold readD
  rw[D7 (by simp[hn]) hd,if_neg (by simp),if_pos (by rw[h.v,hk])]
end
def flen (V:ByteArray→Option Fb) (k:ByteArray):Nat:=((V k).map fun f=>f.1.length).getD 0
theorem Ub {V:ByteArray→Option Fb}:∀ (l:List Fl) (ks:List ByteArray),(l.map (·.1)).Nodup→(∀ x∈l,x.1∈ks∧V x.1=some x.2)→usedL l≤(ks.map (flen V)).sum∧l.length≤ks.length
  | [],ks,_,_=>⟨Nat.zero_le _,Nat.zero_le _⟩
  | x :: l, ks, hn, h => by
    obtain⟨h1,h2⟩:=h x (by simp)
    rw[List.map_cons,List.nodup_cons] at hn
    obtain⟨a,b,hab⟩:=List.append_of_mem h1
    subst hab
    have ih:=Ub l (a++b) hn.2 fun y hy=>by
      obtain⟨c,d⟩:=h y (by simp[hy])
      refine⟨?_,d⟩
      have hne:y.1≠x.1:=fun e=>hn.1 (by rw[← e];exact List.mem_map.2 ⟨y,hy,rfl⟩)
      simp only[List.mem_append,List.mem_cons] at c ⊢
      rcases c with c | c | c
      · exact .inl c
      · exact absurd c hne
      · exact .inr c
    have e3:flen V x.1=x.2.1.length:=by unfold flen;rw[h2];rfl
    rw[Et,List.length_cons]
    simp only[List.map_append,List.sum_append,List.length_append,List.map_cons,List.sum_cons,List.length_cons] at ih ⊢
    omega
theorem Vw.used {D:DS} {M i:Nat} {V:ByteArray→Option Fb} (h:Vw D M i V) {ks:List ByteArray} (hk:∀ k,V k≠none→k∈ks):usedL D.l≤(ks.map (flen V)).sum∧D.l.length≤ks.length :=
  Ub D.l ks h.good.ok.rise.nodup fun x hx=>by
    have hv:V x.1=some x.2:=(h.v x.1).symm.trans (Jc h.good.ok.rise hx)
    exact⟨hk _ (by rw[hv];simp),hv⟩
theorem Vw.flen {D:DS} {M i:Nat} {V:ByteArray→Option Fb} (h:Vw D M i V) {k:ByteArray} {f:Fb} (hk:V k=some f):f.1.length≤M∧f.2≤f.1.length:=by
  have hm:=V4 ((h.v k).trans hk)
  have h1:=h.good.ok.room
  rw[h.most] at h1
  refine⟨Nat.le_trans ?_ h1,h.good.ok.safe _ hm⟩
  obtain⟨a,b,e⟩:=List.append_of_mem hm
  rw[e,E4,Et]
  show f.1.length≤_+(f.1.length+_);omega
end Go.Proofs.Eng
end
section
namespace Go.Proofs.Eng
open Go.RowKit
def Sq (D:DS) (r:DS×Int) (M i:Nat) (Ok Mid Ful:(ByteArray→Option Fb)→Prop):Prop :=
  (r.2=0∧r.1.down=false∧(Up0 D→Up0 r.1)∧∃ V,Vw r.1 M i V∧Ok V) ∨
  (r.2=20∧¬ Up0 D∧r.1.down=true∧∃ V,Vw r.1 M i V∧Mid V) ∨
  (r.2=21∧r.1.down=false∧(Up0 D→Up0 r.1)∧∃ V,Vw r.1 M i V∧Ful V)
section
variable {D : DS} {r : DS × Int} {M i j : Nat} {V V' : ByteArray → Option Fb} {Ok Ok2 Mid Mid2 Ful Ful2 : (ByteArray → Option Fb) → Prop} {k : ByteArray}
theorem Sq.of (h:Oc D r M i V V') (h0:Ok V') (h1:Mid V) (h2:Mid V'):Sq D r M i Ok Mid Ful:=by
  rcases h with ⟨a,b,c,d⟩ | ⟨a,b,c,d⟩
  · exact .inl ⟨a,c,d,V',b,h0⟩
  · exact .inr (.inl ⟨a,b,c,d.elim (fun d=>⟨V,d,h1⟩) fun d=>⟨V',d,h2⟩⟩)
theorem Sq.and {f:DS→DS×Int} (h:Sq D r M i Ok Mid Ful) (hf:∀ D' V,D'.down=false→Vw D' M i V→Ok V→Sq D' (f D') M j Ok2 Mid Ful) (hij:i≤j):Sq D (andD r f) M j Ok2 Mid Ful:=by
  rcases h with ⟨a,b,c,V,d,e⟩ | ⟨a,b,c,V,d,e⟩ | ⟨a,b,c,V,d,e⟩
  · rw [Er a]
    rcases hf _ V b d e with ⟨a',b',c',x⟩ | ⟨a',b',c',x⟩ | ⟨a',b',c',x⟩
    · exact .inl ⟨a',b',fun u=>c' (c u),x⟩
    · exact .inr (.inl ⟨a',fun u=>b' (c u),c',x⟩)
    · exact .inr (.inr ⟨a',b',fun u=>c' (c u),x⟩)
  · rw[Kb (by rw[a];decide)];exact .inr (.inl ⟨a,b,c,V,d.mono hij,e⟩)
  · rw[Kb (by rw[a];decide)];exact .inr (.inr ⟨a,b,c,V,d.mono hij,e⟩)
theorem Sq.imp (h:Sq D r M i Ok Mid Ful) (h1:∀ V,Ok V→Ok2 V) (h2:∀ V,Mid V→Mid2 V) (h3:∀ V,Ful V→Ful2 V) (hij:i≤j):Sq D r M j Ok2 Mid2 Ful2:=by
  rcases h with ⟨a,b,c,V,d,e⟩ | ⟨a,b,c,V,d,e⟩ | ⟨a,b,c,V,d,e⟩
  · exact .inl ⟨a,b,c,V,d.mono hij,h1 V e⟩
  · exact .inr (.inl ⟨a,b,c,V,d.mono hij,h2 V e⟩)
  · exact .inr (.inr ⟨a,b,c,V,d.mono hij,h3 V e⟩)
theorem Sq.done (hd:D.down=false) (hV:Vw D M i V) (h:Ok V):Sq D (D,0) M i Ok Mid Ful := .inl ⟨rfl,hd,id,V,hV,h⟩
theorem L3 (h:Vw D M i V) (hn:A1 k=true) {f:Fb} (hk:V k=some f) {p:By} (h0:Ok (mset V k (some (f.1++p,f.2)))) (h1:Mid V) (h2:Mid (mset V k (some (f.1++p,f.2)))) (hf:M<usedL D.l+p.length→Ful V):Sq D (A4 D k p) M (i+1) Ok Mid Ful:=by
  rcases Yy h hn hk p with a | ⟨a,b,c⟩
  · exact .of a h0 h1 h2
  · rw[a];exact .inr (.inr ⟨rfl,b,id,V,h.mono (by omega),hf c⟩)
end
def shp (s:Nat) (A B N X:Option Fb):ByteArray→Option Fb:=fun k=>if k=nMan then A else if k=nSeg s then B else if k=nNew then N else if k=nSeg (s+1) then X else none
def ol (o:Option Fb):Nat:=(o.map fun f=>f.1.length).getD 0
section
variable {s : Nat} {A B N X o : Option Fb} (h1 : 1 ≤ s) (h2 : s + 1 ≤ 999999)
theorem Jn:shp s A B N X nMan=A:=if_pos rfl
include h1 h2
theorem Fs:shp s A B N X (nSeg s)=B:=by unfold shp;rw[if_neg (Df h1 (by omega)),if_pos rfl]
theorem F8:shp s A B N X nNew=N:=by unfold shp;rw[if_neg (fun e=>Dv e.symm),if_neg (fun e=>Eb h1 (by omega) e.symm),if_pos rfl]
theorem Ov:nSeg (s+1)≠nSeg s:=fun e=>by have:=Abh (by omega) h2 h1 (by omega) e;omega
theorem Fi:shp s A B N X (nSeg (s+1))=X:=by unfold shp;rw[if_neg (Df (by omega) h2),if_neg (Ov h1 h2),if_neg (Eb (by omega) h2),if_pos rfl]
theorem Adg:mset (shp s A B N X) nMan o=shp s o B N X:=by
  funext k;unfold mset shp
  by_cases e:k=nMan
  · rw[if_pos e,if_pos e]
  · rw[if_neg e,if_neg e,if_neg e]
theorem Hy:mset (shp s A B N X) (nSeg s) o=shp s A o N X:=by
  funext k;unfold mset
  by_cases e:k=nSeg s
  · rw[if_pos e,e,Fs h1 h2]
  · rw[if_neg e];unfold shp;simp only[e,if_false]
theorem F9:mset (shp s A B N X) nNew o=shp s A B o X:=by
  funext k;unfold mset
  by_cases e:k=nNew
  · rw[if_pos e,e,F8 h1 h2]
  · rw[if_neg e];unfold shp;simp only[e,if_false]
theorem Ii:mset (shp s A B N X) (nSeg (s+1)) o=shp s A B N o:=by
  funext k;unfold mset
  by_cases e:k=nSeg (s+1)
  · rw[if_pos e,e,Fi h1 h2]
  · rw[if_neg e];unfold shp;simp only[e,if_false]
theorem Ae5:shp s A none none X=shp (s+1) A X none none:=by
  funext k
  unfold shp
  by_cases e:k=nMan
  · rw[if_pos e,if_pos e]
  · rw [if_neg e, if_neg e]
    by_cases e2:k=nSeg (s+1)
    · rw[if_pos e2,if_neg (by rw[e2];exact Ov h1 h2),if_neg (by rw[e2];exact Eb (by omega) h2),if_pos e2]
    · rw[if_neg e2,if_neg e2];simp
theorem Ih {D:DS} {M i:Nat} (h:Vw D M i (shp s A B N X)):usedL D.l≤ol A+ol B+ol N+ol X∧D.l.length<64:=by
  obtain⟨a,b⟩:=h.used (ks:=[nMan,nSeg s,nNew,nSeg (s+1)]) fun k hk=>by
    unfold shp at hk
    simp only[List.mem_cons,List.not_mem_nil,or_false]
    by_cases e1:k=nMan
    · exact .inl e1
    · by_cases e2 : k = nSeg s
      · exact .inr (.inl e2)
      · by_cases e3 : k = nNew
        · exact .inr (.inr (.inl e3))
        · by_cases e4 : k = nSeg (s + 1)
          · exact .inr (.inr (.inr e4))
          · simp[e1,e2,e3,e4] at hk
  simp only[List.map_cons,List.map_nil,List.sum_cons,List.sum_nil,flen,Jn,Fs h1 h2,F8 h1 h2,Fi h1 h2] at a
  simp only[List.length_cons,List.length_nil] at b
  exact⟨by unfold ol;omega,by omega⟩
theorem On {D:DS} {M i:Nat} {m:Mf} {Ok Mid Ful:(ByteArray→Option Fb)→Prop} (h:Vw D M i (shp s A B none X)) (hok:m.Ok) (hO:Ok (shp s (some (manB m,(manB m).length)) B none X)) (hm:∀ N,Mid (shp s A B N X)) (hm2:Mid (shp s (some (manB m,(manB m).length)) B none X))
    (hf:M<ol A+ol B+ol X+(manB m).length→Ful (shp s A B (some ([],0)) X)):Sq D (writeM D m) M (i+4) Ok Mid Ful:=by
  unfold writeM
  rw[if_pos (Nu.2 hok)]
  unfold writeD
  have hr:=(Ih h1 h2 h).2
  refine Sq.and (Ok:=fun V=>V=shp s A B (some ([],0)) X) (i:=i+1) (.of (L0 h Ek (F8 h1 h2) hr) (F9 h1 h2) (hm _) (by rw[F9 h1 h2];exact hm _)) (fun D V _ hV e=>?_) (by omega)
  subst e
  have hr:=(Ih h1 h2 hV).1
  refine Sq.and (Ok:=fun V=>V=shp s A B (some (manB m,0)) X) (i:=i+2) (L3 hV Ek (F8 h1 h2) (F9 h1 h2) (hm _) (by rw[F9 h1 h2];exact hm _) (fun q=>hf (by unfold ol at hr ⊢;simp only[Option.map_some,Option.getD_some,List.length_nil] at hr;omega))) (fun D V _ hV e=>?_) (by omega)
  subst e
  refine Sq.and (Ok:=fun V=>V=shp s A B (some (manB m,(manB m).length)) X) (i:=i+3) (.of (Sa hV Ek (F8 h1 h2)) (F9 h1 h2) (hm _) (by rw[F9 h1 h2];exact hm _)) (fun D V _ hV e=>?_) (by omega)
  subst e
  have e:mset (mset (shp s A B (some (manB m,(manB m).length)) X) nMan (some (manB m,(manB m).length))) nNew none=shp s (some (manB m,(manB m).length)) B none X:=by rw[Adg h1 h2,F9 h1 h2]
  exact .of (Aex hV Ek Gk (fun e=>Dv e.symm) (F8 h1 h2)) (by rw[e];exact hO) (hm _) (by rw[e];exact hm2)
theorem X2 {D:DS} {M i z s2:Nat} {b t:By} {Mid:(ByteArray→Option Fb)→Prop} (h:Vw D M i (shp s A (some (b++t,s2)) N X)) (hd:D.down=false) (hb:b.length=z) (ht:t=[]→s2=z) (hz:z≤s2) (st:Bool)
    (hm:∀ t s2 N X',z≤s2→Mid (shp s A (some (b++t,s2)) N X')):Sq D (undoD D s z st) M (i+3) (fun V=>V=shp s A (some (b,z)) none (if st=true then none else X)) Mid (fun _=>False):=by
  have hns:=C4 h1 (by omega:s≤999999)
  rw[Kz]
  refine Sq.and (Ok:=fun V=>V=shp s A (some (b,z)) N X) (i:=i+1) ?_ (fun D V hd hV e=>?_) (by omega)
  · unfold undo1
    rw[Sb h hd hns (Fs h1 h2)]
    by_cases ht0:t=[]
    · subst ht0
      rw[if_neg (by simp;omega)]
      have:=ht rfl
      subst this
      exact Sq.done hd (h.mono (by omega)) (by simp)
    · have : 0 < t.length := by cases t with | nil => exact absurd rfl ht0 | cons _ _ => simp
      rw[if_pos (by simp;omega)]
      have e:(b++t).take z=b:=by rw[← hb];simp
      have hc:=Aam h hns (Fs h1 h2) (n:=z) (by simp;omega)
      rw[Hy h1 h2,e] at hc
      exact .of hc rfl (hm _ _ _ _ hz) (by have:=hm [] z N X (Nat.le_refl _);rwa [List.append_nil] at this)
  · subst e
    have hmm:∀ N X',Mid (shp s A (some (b,z)) N X'):=fun N X'=>by have:=hm [] z N X' (Nat.le_refl _);rwa [List.append_nil] at this
    refine Sq.and (Ok:=fun V=>V=shp s A (some (b,z)) none X) (i:=i+2) ?_ (fun D V hd hV e=>?_) (by omega)
    · unfold undo2
      cases hN:N with
      | none =>
        subst hN
        rw[if_neg (fun q=>q ((hV.v _).trans (F8 h1 h2)))]
        exact Sq.done hd (hV.mono (by omega)) rfl
      | some f =>
        subst hN
        rw[if_pos (by show ascF D.l nNew≠none;rw[hV.v,F8 h1 h2];simp)]
        exact .of (Hh hV Ek (F8 h1 h2)) (F9 h1 h2) (hmm _ _) (by rw[F9 h1 h2];exact hmm _ _)
    · subst e
      cases st with
      | false=>rw[Xy];exact Sq.done hd (hV.mono (by omega)) (by simp)
      | true =>
        cases hX:X with
        | none =>
          subst hX
          rw[T7 (fun q=>q ((hV.v _).trans (Fi h1 h2)))]
          exact Sq.done hd (hV.mono (by omega)) (by simp)
        | some f =>
          subst hX
          rw[Qr (by show ascF D.l (nSeg (s+1))≠none;rw[hV.v,Fi h1 h2];simp)]
          exact .of (Hh hV (C4 (by omega) h2) (Fi h1 h2)) (by rw[Ii h1 h2];simp) (hmm _ _) (by rw[Ii h1 h2];exact hmm _ _)
end
end Go.Proofs.Eng
end
section
namespace Go.Proofs.Eng
open Go.RowKit
theorem Z0 (c:By):findF [c] (shaF c)=some c:=by unfold findF;rw[List.find?_cons,decide_eq_true rfl]
theorem G2 {L l:List By} {h:Hash}:findF (L++l) h=none↔findF L h=none∧findF l h=none:=by rw[Be,Option.or_eq_none_iff]
theorem Xb (cs:List By):∀ L,∀ x∈cs,findF (L++Av L cs) (shaF x)≠none:=by
  induction cs with
  | nil=>intro L x hx;cases hx
  | cons c cs ih =>
    intro L x hx
    unfold Av
    by_cases hc:findF L (shaF c)=none
    · rw [if_pos hc, show L ++ c :: Av (L ++ [c]) cs = L ++ [c] ++ Av (L ++ [c]) cs by simp]
      rcases List.mem_cons.1 hx with rfl | hx
      · intro h
        have:=(G2.1 (G2.1 h).1).2
        rw[Z0] at this;cases this
      · exact ih _ x hx
    · rw [if_neg hc]
      rcases List.mem_cons.1 hx with rfl | hx
      · intro h;exact hc (G2.1 h).1
      · exact ih _ x hx
theorem Kp {L cs:List By} {c:By} (h:findF L (shaF c)=none):Av L (c :: cs)=c :: Av (L++[c]) cs:=by rw[Av];exact if_pos h
theorem Kq {L cs:List By} {c:By} (h:¬ findF L (shaF c)=none):Av L (c :: cs)=Av L cs:=by rw[Av];exact if_neg h
end Go.Proofs.Eng
end
section
namespace Go.Proofs.Eng
open Go.RowKit
structure Rec (V:ByteArray→Option Fb) (m:Mf) (F:List By):Prop where
  man:V nMan=some (manB m,(manB m).length)
  seg:∃ t s2,V (nSeg m.seg)=some (segB F++t,s2)∧m.size≤s2
  ok:m.Ok
  sz:(segB F).length=m.size
  cl:∀ c∈F,c.length≤1048576
  nm:∀ k,V k≠none→k=nMan∨k=nNew∨SegN k
def nxL (L:List By):Option (List Hash×Nat)→Nat
  | none=>0
  | some gz=>(segB (A0 L gz.1)).length
def Nx (L:List By) (X:Option Fb):Option (List Hash×Nat)→Prop
  | none=>X=none
  | some gz=>(∃ s2,X=some (segB (A0 L gz.1),s2))∧gz.2=(segB (A0 L gz.1)).length∧(∀ h∈gz.1,findF L h≠none)∧gz.1.Nodup
structure Bst (C:CS) (M i:Nat) (F:List By):Prop where
  vw:∃ X,Vw C.D M i (shp C.seg (some (manB ⟨C.seg,C.size,C.index⟩,(manB ⟨C.seg,C.size,C.index⟩).length)) (some (segB F,C.size)) none X)∧Nx C.L X C.next
  up:C.D.down=false
  ok:(Mf.mk C.seg C.size C.index).Ok
  hi:C.seg+1≤999999
  sz:(segB F).length=C.size
  cl:∀ c∈F,c.length≤1048576
  eq:∀ h,findF C.L h=findF F h
  nF:(F.map shaF).Nodup
  nL:(C.L.map shaF).Nodup
  cL:∀ c∈C.L,c.length≤1048576
  dead:C.dead=false
def Ded (C:CS) (M i:Nat) (P:Mf→List By→Prop):Prop:=C.dead=true∧C.D.down=true∧∃ V m G,Vw C.D M i V∧Rec V m G∧P m G
theorem Nx.ol {L:List By} {X:Option Fb} {o:Option (List Hash×Nat)} (h:Nx L X o):Eng.ol X=nxL L o:=by
  cases o with
  | none=>have h:X=none:=h;subst h;rfl
  | some gz=>obtain⟨⟨s2,e⟩,_⟩:=h;subst e;rfl
theorem Sm {s:Nat} {A B N X:Option Fb} (h1:1≤s) (h2:s+1≤999999):∀ k,shp s A B N X k≠none→k=nMan∨k=nNew∨SegN k:=fun k hk=>by
  unfold shp at hk
  by_cases e1:k=nMan
  · exact .inl e1
  · by_cases e2 : k = nSeg s
    · exact .inr (.inr ⟨s,h1,by omega,e2⟩)
    · by_cases e3 : k = nNew
      · exact .inr (.inl e3)
      · by_cases e4 : k = nSeg (s + 1)
        · exact .inr (.inr ⟨s+1,by omega,h2,e4⟩)
        · simp[e1,e2,e3,e4] at hk
theorem No {m:Mf} {F:List By} {t:By} {s2:Nat} {N X:Option Fb} (hok:m.Ok) (h2:m.seg+1≤999999) (hsz:(segB F).length=m.size) (hcl:∀ c∈F,c.length≤1048576) (hs:m.size≤s2):Rec (shp m.seg (some (manB m,(manB m).length)) (some (segB F++t,s2)) N X) m F :=
  ⟨Jn,⟨t,s2,Fs hok.lo h2,hs⟩,hok,hsz,hcl,Sm hok.lo h2⟩
theorem K8 (a b:List By):segB (a++b)=segB a++segB b:=by unfold segB;rw[List.flatMap_append]
theorem Ls {L l:List By} {h:Hash} (hn:findF L h≠none):findF (L++l) h=findF L h:=by
  rw[Be];cases e:findF L h with
  | none=>exact absurd e hn
  | some c=>rfl
theorem Na {L l:List By} {got:List Hash} (hg:∀ h∈got,findF L h≠none):A0 (L++l) got=A0 L got:=by
  unfold A0
  exact List.map_congr_left fun h hh=>by rw[Ls (hg h hh)]
theorem Nx.app {L l:List By} {X:Option Fb} {o:Option (List Hash×Nat)} (h:Nx L X o):Nx (L++l) X o:=by
  cases o with
  | none=>exact h
  | some gz =>
    obtain⟨⟨s2,e⟩,h2,h3,h4⟩:=h
    exact⟨⟨s2,by rw[Na h3];exact e⟩,by rw[Na h3];exact h2,fun h hh=>by rw[Ls (h3 h hh)];exact h3 h hh,h4⟩
theorem G8 (cs:List By):∀ L:List By,(L.map shaF).Nodup→((L++Av L cs).map shaF).Nodup:=by
  induction cs with
  | nil=>intro L h;simpa [Av] using h
  | cons c cs ih =>
    intro L h
    by_cases hc:findF L (shaF c)=none
    · rw [Kp hc, show L ++ c :: Av (L ++ [c]) cs = L ++ [c] ++ Av (L ++ [c]) cs by simp]
      refine ih _ ?_
      rw[List.map_append,List.nodup_append]
      refine⟨h,by simp,?_⟩
      intro x hx y hy e
      obtain⟨d,hd,rfl⟩:=List.mem_map.1 hx
      simp only[List.map_cons,List.map_nil,List.mem_singleton] at hy
      exact I3.1 hc d hd (e.trans hy)
    · rw[Kq hc];exact ih L h
theorem Rx (cs:List By):∀ L F:List By,(∀ h,findF L h=findF F h)→Av L cs=Av F cs:=by
  induction cs with
  | nil=>intro L F _;rfl
  | cons c cs ih =>
    intro L F h
    have e:∀ z,findF (L++[c]) z=findF (F++[c]) z:=fun z=>by rw[Be,Be,h z]
    by_cases hc:findF L (shaF c)=none
    · rw[Kp hc,Kp (by rw[← h];exact hc),ih _ _ e]
    · rw[Kq hc,Kq (by rw[← h];exact hc),ih _ _ h]
section
variable {C : CS} {M i : Nat} {F : List By}
theorem Bst.rest (h:Bst C M i F) {j:Nat} (hj:i≤j):Bst C M j F:=by
  obtain⟨X,hV,hN⟩:=h.vw
  exact⟨⟨X,hV.mono hj,hN⟩,h.up,h.ok,h.hi,h.sz,h.cl,h.eq,h.nF,h.nL,h.cL,h.dead⟩
theorem Bst.rec_ (h:Bst C M i F):∃ V,Vw C.D M i V∧Rec V ⟨C.seg,C.size,C.index⟩ F:=by
  obtain⟨X,hV,_⟩:=h.vw
  have:=No (t:=[]) (s2:=C.size) (N:=none) (X:=X) h.ok h.hi h.sz h.cl (Nat.le_refl _)
  rw[List.append_nil] at this
  exact⟨_,hV,this⟩
theorem Aeg (h:Bst C M i F) {cs:List By} {ix:By} (hc:∀ c∈cs,c.length≤1048576) (hi:ix.length≤524288) (hM:M≤16777216) :
    ((putC C cs ix).2=0∧Bst (putC C cs ix).1 M (i+9) (F++Av C.L cs)∧(putC C cs ix).1.L=C.L++Av C.L cs∧(putC C cs ix).1.index=ix∧(putC C cs ix).1.seg=C.seg∧(Up0 C.D→Up0 (putC C cs ix).1.D)) ∨
    ((putC C cs ix).2 = 21 ∧ Bst (putC C cs ix).1 M (i + 9) F ∧ (putC C cs ix).1 = { C with D := (putC C cs ix).1.D } ∧ (Up0 C.D → Up0 (putC C cs ix).1.D) ∧
      M<(manB ⟨C.seg,C.size,C.index⟩).length+C.size+(segB (Av C.L cs)).length+(manB ⟨C.seg,C.size+(segB (Av C.L cs)).length,ix⟩).length+nxL C.L C.next) ∨
    ((putC C cs ix).2=20∧¬ Up0 C.D∧Ded (putC C cs ix).1 M (i+9) (fun m G=>m.seg=C.seg∧((G=F∧m.index=C.index)∨(G=F++Av C.L cs∧m.index=ix)))):=by
  obtain⟨X,hV,hN⟩:=h.vw
  have hlo:=h.ok.lo
  have hhi:=h.hi
  have hns:=C4 hlo (by omega:C.seg≤999999)
  have hmain:=Jq (C:=C) (cs:=cs) (ix:=ix) (by rw[h.dead];simp) (by rintro (e | ⟨c,hc1,hc2⟩);(· omega);(· have:=hc c hc1;omega))
  have hlc:∀ c∈Av C.L cs,c.length≤1048576:=fun c hcl=>hc c (Dh cs C.L c hcl).2
  have hfn:=G8 cs C.L h.nL
  have hfF:=G8 cs F h.nF
  rw[← Rx cs C.L F h.eq] at hfF
  have heq:∀ z,findF (C.L++Av C.L cs) z=findF (F++Av C.L cs) z:=fun z=>by rw[Be,Be,h.eq]
  obtain⟨l,hl⟩:∃ l,l=Av C.L cs:=⟨_,rfl⟩
  rw[← hl] at hmain hlc hfn hfF heq ⊢
  obtain⟨m0,hm0⟩:∃ m:Mf,m=⟨C.seg,C.size,C.index⟩:=⟨_,rfl⟩
  obtain⟨m1,hm1⟩:∃ m:Mf,m=⟨C.seg,C.size+(segB l).length,ix⟩:=⟨_,rfl⟩
  have hok0:m0.Ok:=by rw[hm0];exact h.ok
  rw[← hm0,← hm1]
  rw[← hm0] at hV
  have hs0:m0.seg=C.seg:=by rw[hm0]
  have hz0:m0.size=C.size:=by rw[hm0]
  have hi0:m0.index=C.index:=by rw[hm0]
  have hs1:m1.seg=C.seg:=by rw[hm1]
  have hz1:m1.size=C.size+(segB l).length:=by rw[hm1]
  have hi1:m1.index=ix:=by rw[hm1]
  have hcl1:∀ c∈F++l,c.length≤1048576:=fun c hcm=>(List.mem_append.1 hcm).elim (h.cl c) (hlc c)
  have hsz1:(segB (F++l)).length=m1.size:=by rw[K8,List.length_append,h.sz,hz1]
  have hold:∀ t s2 N X',C.size≤s2→Rec (shp C.seg (some (manB m0,(manB m0).length)) (some (segB F++t,s2)) N X') m0 F:=fun t s2 N X' q=>by
    rw[← hs0];exact No hok0 (by rw[hs0];exact hhi) (by rw[hz0];exact h.sz) h.cl (by rw[hz0];exact q)
  obtain⟨Mid,hMid⟩:∃ P:(ByteArray→Option Fb)→Prop,P=fun V=>∃ m G,Rec V m G∧m.seg=C.seg∧((G=F∧m.index=C.index)∨(G=F++l∧m.index=ix)):=⟨_,rfl⟩
  have hmo:∀ t s2 N X',C.size≤s2→Mid (shp C.seg (some (manB m0,(manB m0).length)) (some (segB F++t,s2)) N X'):=fun t s2 N X' q=>by
    rw[hMid];exact⟨m0,F,hold t s2 N X' q,hs0,.inl ⟨rfl,hi0⟩⟩
  have hmn:m1.Ok→∀ s2 N X',m1.size≤s2→Mid (shp C.seg (some (manB m1,(manB m1).length)) (some (segB (F++l),s2)) N X'):=fun hok1 s2 N X' q=>by
    have:=No (t:=[]) (N:=N) (X:=X') hok1 (by rw[hs1];exact hhi) hsz1 hcl1 q
    rw[List.append_nil,hs1] at this
    rw[hMid];exact⟨m1,F++l,this,hs1,.inr ⟨rfl,hi1⟩⟩
  obtain⟨Ful,hFul⟩:∃ P:(ByteArray→Option Fb)→Prop,P=fun V=>∃ t s2 N,V=shp C.seg (some (manB m0,(manB m0).length)) (some (segB F++t,s2)) N X∧(t=[]→s2=C.size)∧C.size≤s2∧M<(manB m0).length+C.size+(segB l).length+(manB m1).length+nxL C.L C.next:=⟨_,rfl⟩
  have hXo:=hN.ol
  have hsF:=h.sz
  -- the calls
  have hsq:Sq C.D (putR C l ix) M (i+6) (fun V=>m1.Ok∧V=shp C.seg (some (manB m1,(manB m1).length)) (some (segB (F++l),C.size+(segB l).length)) none X) Mid Ful:=by
    unfold putR
    rw[← hm1]
    refine Sq.and (Ok:=fun V=>m1.Ok∧V=shp C.seg (some (manB m0,(manB m0).length)) (some (segB F++segB l,C.size+(segB l).length)) none X) (i:=i+2) ?_ (fun D V hd hV2 e=>?_) (by omega)
    · by_cases he : l = []
      · rw [O1 he]
        refine Sq.done h.up (hV.mono (by omega)) ⟨?_,by rw[he];simp[segB]⟩
        rw[hm1,he];exact⟨hlo,by show C.seg≤_;omega,by have:=h.ok.sz;exact this,hi⟩
      · rw [L6 he]
        simp only[runD,Ep]
        refine Sq.and (Ok:=fun V=>V=shp C.seg (some (manB m0,(manB m0).length)) (some (segB F++segB l,C.size)) none X) (i:=i+1) (L3 hV hns (Fs hlo hhi) (Hy hlo hhi) ?_ ?_ fun q=>?_) (fun D V hd hV2 e=>?_) (by omega)
        · have:=hmo [] C.size none X (Nat.le_refl _);rwa [List.append_nil] at this
        · rw[Hy hlo hhi];exact hmo _ _ _ _ (Nat.le_refl _)
        · have hr := (Ih hlo hhi hV).1
          rw[hFul]
          refine⟨[],C.size,none,by rw[List.append_nil],fun _=>rfl,Nat.le_refl _,?_⟩
          simp only[Eng.ol,Option.map_some,Option.getD_some,Option.map_none,Option.getD_none] at hr hXo
          omega
        · subst e
          have hfl:=(hV2.flen (Fs hlo hhi)).1
          simp only[List.length_append] at hfl
          have hlen:(segB F++segB l).length=C.size+(segB l).length:=by rw[List.length_append,hsF]
          have hok1:m1.Ok:=by rw[hm1];exact⟨hlo,by show C.seg≤_;omega,by show C.size+_≤_;omega,hi⟩
          refine .of (Sa hV2 hns (Fs hlo hhi)) ⟨hok1,by rw[Hy hlo hhi,hlen]⟩ (hmo _ _ _ _ (Nat.le_refl _)) (by rw[Hy hlo hhi];exact hmo _ _ _ _ (by simp only[List.length_append];omega))
    · obtain ⟨hok1, e⟩ := e
      subst e
      refine On hlo hhi hV2 hok1 ⟨hok1,by rw[K8]⟩ (fun N=>hmo _ _ _ _ (by omega)) (by have:=hmn hok1 (C.size+(segB l).length) none X (by omega);rwa [K8] at this) fun q=>?_
      rw[hFul]
      refine⟨segB l,C.size+(segB l).length,some ([],0),rfl,fun e=>by rw[e];rfl,by omega,?_⟩
      simp only[Eng.ol,Option.map_some,Option.getD_some,List.length_append] at q hXo
      omega
  rcases hsq with ⟨a,b,c,V,d,⟨hok1,e⟩⟩ | ⟨a,b,c,V,d,e⟩ | ⟨a,b,c,V,d,e⟩
  · refine .inl ?_
    rw[hmain,if_neg (by rw[a];simp)]
    subst e
    refine⟨rfl,⟨⟨X,?_,hN.app⟩,b,?_,hhi,?_,hcl1,heq,hfF,hfn,fun x hx=>(List.mem_append.1 hx).elim (h.cL x) (hlc x),h.dead⟩,rfl,rfl,rfl,c⟩
    · rw[hm1] at d;exact d.mono (by omega)
    · rw[hm1] at hok1;exact hok1
    · show (segB (F++l)).length=C.size+_;rw[hsz1,hz1]
  · refine .inr (.inr ?_)
    rw[hmain,if_pos (by rw[a];decide),a,Ki]
    rw[hMid] at e
    obtain⟨m,G,e1,e2⟩:=e
    exact⟨rfl,b,rfl,c,V,m,G,d.mono (by omega),e1,e2⟩
  · rw [hFul] at e
    obtain⟨t,s2,N,e,ht,hz,hroom⟩:=e
    subst e
    rw[hmain,if_pos (by rw[a];decide),a]
    have hu:=X2 hlo hhi d b hsF ht hz false (Mid:=Mid) (fun t s2 N X' q=>hmo t s2 N X' q)
    rcases hu with ⟨a',b',c',V',d',e'⟩ | ⟨a',b',c',V',d',e'⟩ | ⟨_,_,_,V',_,e'⟩
    · rw [A5 (by decide) rfl a']
      subst e'
      refine .inr (.inl ⟨rfl,⟨⟨X,?_,hN⟩,b',h.ok,hhi,hsF,h.cl,h.eq,h.nF,h.nL,h.cL,h.dead⟩,rfl,fun u=>c' (c u),hroom⟩)
      rw[hm0] at d';exact d'
    · rw [Cx (by decide) rfl (by rw [a']; decide)]
      rw[hMid] at e'
      obtain⟨m,G,e1,e2⟩:=e'
      exact .inr (.inr ⟨rfl,fun u=>b' (c u),rfl,c',V',m,G,d',e1,e2⟩)
    · exact e'.elim
end
end Go.Proofs.Eng
end
section
namespace Go.Proofs.Eng
open Go.RowKit
theorem Ro (keep:ByteArray):keepN nMan keep=true:=Fm.2 ⟨Dv,.inl M1⟩
theorem Pc {s:Nat} (h1:1≤s) (h2:s≤999999):keepN (nSeg s) (nSeg s)=true:=Fm.2 ⟨Eb h1 h2,.inr rfl⟩
theorem Rec.rem {V:ByteArray→Option Fb} {m:Mf} {F:List By} (h:Rec V m F) {x:ByteArray} (h1:x≠nMan) (h2:x≠nSeg m.seg):Rec (mset V x none) m F:=by
  obtain⟨t,s2,a,b⟩:=h.seg
  refine⟨?_,⟨t,s2,?_,b⟩,h.ok,h.sz,h.cl,fun k hk=>h.nm k ?_⟩
  · unfold mset;rw[if_neg (fun e=>h1 e.symm)];exact h.man
  · unfold mset;rw[if_neg (fun e=>h2 e.symm)];exact a
  · unfold mset at hk; split at hk
    · exact absurd rfl hk
    · exact hk
theorem Oo {M:Nat} {m:Mf} {F:List By}:∀ (ns:List ByteArray) {D:DS} {i:Nat} {V:ByteArray→Option Fb},ns.Nodup→(∀ x∈ns,V x≠none∧A1 x=true)→Vw D M i V→D.down=false→Rec V m F →
    Sq D (cleanL (nSeg m.seg) D ns) M (i+ns.length) (fun V'=>∀ k,(k∈ns∧keepN k (nSeg m.seg)=false→V' k=none)∧(¬ (k∈ns∧keepN k (nSeg m.seg)=false)→V' k=V k)) (fun V'=>Rec V' m F) (fun _=>False)
  | [],D,i,V,_,_,hV,hd,_=>Sq.done hd hV fun k=>⟨fun h=>by simp at h,fun _=>rfl⟩
  | x :: ns, D, i, V, hn, hx, hV, hd, hR => by
    rw[List.nodup_cons] at hn
    unfold cleanL
    by_cases hk:keepN x (nSeg m.seg)=true
    · rw [if_pos hk]
      refine (Oo ns hn.2 (fun y hy=>hx y (by simp[hy])) hV hd hR).imp (fun V' hv k=>?_) (fun _ h=>h) (fun _ h=>h) (by rw[List.length_cons];omega)
      obtain⟨v1,v2⟩:=hv k
      by_cases e:k=x
      · subst e;exact⟨fun h=>by rw[hk] at h;exact absurd h.2 (by simp),fun _=>v2 fun h=>hn.1 h.1⟩
      · exact⟨fun h=>v1 ⟨(List.mem_cons.1 h.1).resolve_left e,h.2⟩,fun h=>v2 fun q=>h ⟨List.mem_cons_of_mem _ q.1,q.2⟩⟩
    · rw [if_neg hk]
      have hkf:keepN x (nSeg m.seg)=false:=by simpa using hk
      have hxm:x≠nMan:=fun e=>hk (by rw[e];exact Ro _)
      have hxs:x≠nSeg m.seg:=fun e=>hk (by rw[e];exact Pc hR.ok.lo hR.ok.hi)
      obtain⟨hx1,hx2⟩:=hx x (by simp)
      obtain⟨f,hf⟩:=Option.ne_none_iff_exists'.1 hx1
      have hR1:=hR.rem hxm hxs
      refine Sq.and (Ok:=fun V'=>V'=mset V x none) (i:=i+1) (.of (Hh hV hx2 hf) rfl hR hR1) (fun D' V' hd' hV' e=>?_) (by rw[List.length_cons];omega)
      subst e
      have hne:∀ y∈ns,y≠x:=fun y hy e=>hn.1 (by rw[← e];exact hy)
      refine (Oo ns hn.2 (fun y hy=>⟨by unfold mset;rw[if_neg (hne y hy)];exact(hx y (by simp[hy])).1,(hx y (by simp[hy])).2⟩) hV' hd' hR1).imp (fun V' hv k=>?_) (fun _ h=>h) (fun _ h=>h) (by rw[List.length_cons];omega)
      obtain⟨v1,v2⟩:=hv k
      have hm:mset V x none k=if k=x then none else V k:=rfl
      rw[hm] at v2
      by_cases e:k=x
      · subst e
        refine⟨fun h=>?_,fun h=>absurd ⟨by simp,hkf⟩ h⟩
        rw[v2 (fun q=>hn.1 q.1),if_pos rfl]
      · rw [if_neg e] at v2
        exact⟨fun h=>v1 ⟨(List.mem_cons.1 h.1).resolve_left e,h.2⟩,fun h=>v2 fun q=>h ⟨List.mem_cons_of_mem _ q.1,q.2⟩⟩
theorem Aa4 {D:DS} {M i:Nat} {V:ByteArray→Option Fb} {m:Mf} {F:List By} (hV:Vw D M i V) (hd:D.down=false) (hR:Rec V m F) (hhi:m.seg+1≤999999) (hF:(F.map shaF).Nodup) :
    ((openC D).2=0∧Bst (openC D).1 M (i+65) F∧(openC D).1.L=F∧(openC D).1.index=m.index∧(openC D).1.seg=m.seg∧(openC D).1.size=m.size∧(openC D).1.next=none∧(Up0 D→Up0 (openC D).1.D)) ∨
    ((openC D).2=20∧¬ Up0 D∧(openC D).1.D.down=true∧∃ V',Vw (openC D).1.D M (i+65) V'∧Rec V' m F):=by
  obtain⟨t,s2,hseg,hs2⟩:=hR.seg
  have hlo:=hR.ok.lo
  have hns:=C4 hlo hR.ok.hi
  have hfl:s2≤(segB F++t).length:=(hV.flen hseg).2
  have hrm:=Sb hV hd Gk hR.man
  have hrs:=Sb hV hd hns hseg
  have hsz:=hR.sz
  have htake:(segB F++t).take m.size=segB F:=by rw[← hsz];simp
  have hmo:ManOf (readD D nMan).1 m:=by rw[hrm];exact⟨hR.ok,rfl⟩
  have hsg:=Me hR.cl
  have hso:loadS D m=⟨D,m.seg,m.size,m.index,F,none,false⟩:=by unfold loadS;rw[hrs,htake,hsg]
  rw[Ko (by rw[hrm]),L9 hmo]
  rw[if_neg (by rw[hrs,htake,hsg];simp only[List.length_append];rintro (h | h | h) <;> first | exact h rfl | omega),hso]
  have hsq:Sq D (loadR D m) M (i+65) (fun V'=>V'=shp m.seg (some (manB m,(manB m).length)) (some (segB F,m.size)) none none) (fun V'=>Rec V' m F) (fun _=>False):=by
    unfold loadR
    rw[hrs]
    refine Sq.and (Ok:=fun V'=>V'=mset V (nSeg m.seg) (some (segB F,m.size))) (i:=i+1) ?_ (fun D' V' hd' hV' e=>?_) (by omega)
    · by_cases ht : t = []
      · subst ht
        rw[List.append_nil] at hseg hfl ⊢
        rw[if_neg (by simp only;omega)]
        refine Sq.done hd (hV.mono (by omega)) ?_
        funext k;unfold mset
        by_cases e:k=nSeg m.seg
        · rw[if_pos e,e,hseg,show s2=m.size by omega]
        · rw[if_neg e]
      · have : 0 < t.length := by cases t with | nil => exact absurd rfl ht | cons _ _ => simp
        rw[if_pos (by simp only[List.length_append];omega)]
        have hc:=Aam hV hns hseg (n:=m.size) (by simp only[List.length_append];omega)
        rw[htake] at hc
        refine .of hc rfl hR ⟨?_,⟨[],m.size,?_,Nat.le_refl _⟩,hR.ok,hR.sz,hR.cl,fun k hk=>hR.nm k ?_⟩
        · unfold mset;rw[if_neg (fun e=>Df hlo hR.ok.hi e.symm)];exact hR.man
        · unfold mset;rw[if_pos rfl,List.append_nil]
        · unfold mset at hk; split at hk
          · rename_i e;rw[e,hseg];simp
          · exact hk
    · subst e
      have hR':Rec (mset V (nSeg m.seg) (some (segB F,m.size))) m F:=by
        refine⟨?_,⟨[],m.size,?_,Nat.le_refl _⟩,hR.ok,hR.sz,hR.cl,fun k hk=>hR.nm k ?_⟩
        · unfold mset;rw[if_neg (fun e=>Df hlo hR.ok.hi e.symm)];exact hR.man
        · unfold mset;rw[if_pos rfl,List.append_nil]
        · unfold mset at hk; split at hk
          · rename_i e;rw[e,hseg];simp
          · exact hk
      have hmem:∀ x∈D'.l.map (·.1),mset V (nSeg m.seg) (some (segB F,m.size)) x≠none:=fun x hx=>by rw[← hV'.v];exact D5.2 hx
      unfold cleanD
      refine (Oo (D'.l.map (·.1)) hV'.good.ok.rise.nodup (fun x hx=>⟨hmem x hx,?_⟩) hV' hd' hR').imp (fun V2 hv=>?_) (fun _ h=>h) (fun _ h=>h) (j:=i+65) (by have:=hV'.good.ok.few;rw[List.length_map];omega)
      · obtain⟨y,hy,rfl⟩:=List.mem_map.1 hx;exact hV'.good.names y hy
      · funext k
        obtain⟨v1,v2⟩:=hv k
        by_cases e1:k=nMan
        · rw[v2 (by rw[e1,Ro];simp),e1,hR'.man,Jn]
        · by_cases e2 : k = nSeg m.seg
          · rw[v2 (by rw[e2,Pc hlo hR.ok.hi];simp),e2,Fs hlo hhi];unfold mset;rw[if_pos rfl]
          · have hr : shp m.seg (some (manB m, (manB m).length)) (some (segB F, m.size)) none none k = none := by
              unfold shp;rw[if_neg e1,if_neg e2];simp
            rw[hr]
            by_cases e3:mset V (nSeg m.seg) (some (segB F,m.size)) k=none
            · by_cases e4 : k ∈ D'.l.map (·.1) ∧ keepN k (nSeg m.seg) = false
              · exact v1 e4
              · rw[v2 e4,e3]
            · refine v1 ⟨D5.1 (by rw [← hV'.v] at e3; exact e3), ?_⟩
              have hkk:=(hR'.nm k e3).resolve_left e1
              cases hq:keepN k (nSeg m.seg) with
              | false=>rfl
              | true =>
                obtain⟨a,b⟩:=Fm.1 hq
                rcases hkk with c | c
                · exact absurd c a
                · exact absurd c (b.resolve_right e2)
  rcases hsq with ⟨a,b,c,V',d,e⟩ | ⟨a,b,c,V',d,e⟩ | ⟨_,_,_,V',_,e⟩
  · subst e
    exact .inl ⟨a,⟨⟨none,d,rfl⟩,b,hR.ok,hhi,hsz,hR.cl,fun _=>rfl,hF,hF,hR.cl,rfl⟩,rfl,rfl,rfl,rfl,rfl,c⟩
  · exact .inr ⟨a,b,c,V',d,e⟩
  · exact e.elim
theorem Aaj {b:By} (st:List UInt8):wakeF (b,b.length) st=(b,b.length):=by
  obtain⟨h1,h2,h3⟩:=Qn (f:=(b,b.length)) (Nat.le_refl _) st
  obtain⟨h4,_⟩:=Jg (f:=(b,b.length)) (Nat.le_refl _) st
  simp only at h1 h2 h3
  have e:(wakeF (b,b.length) st).1=b:=by
    refine List.ext_getElem (by omega) fun i hi hi2=>?_
    have:=h3 i hi
    rw[List.getD_eq_getElem?_getD,List.getElem?_eq_getElem hi,List.getD_eq_getElem?_getD,List.getElem?_eq_getElem hi2] at this
    rcases this with h | ⟨h,_⟩
    · exact h
    · omega
  exact Prod.ext e (by rw[← h4,e])
theorem Aai {b t:By} {s2:Nat} (h:b.length≤s2) (h2:s2≤(b++t).length) (st:List UInt8):∃ t' s',wakeF (b++t,s2) st=(b++t',s')∧b.length≤s':=by
  obtain⟨a1,a2,a3⟩:=Qn (f:=(b++t,s2)) h2 st
  obtain⟨a4,_⟩:=Jg (f:=(b++t,s2)) h2 st
  simp only at a1 a2 a3
  have e:(wakeF (b++t,s2) st).1.take b.length=b:=by
    refine List.ext_getElem (by rw[List.length_take];omega) fun i hi hi2=>?_
    rw[List.length_take] at hi
    have:=a3 i (by omega)
    rw[List.getD_eq_getElem?_getD,List.getElem?_eq_getElem (by omega),List.getD_eq_getElem?_getD,List.getElem?_eq_getElem (by simp;omega)] at this
    rw[List.getElem_take]
    rcases this with h | ⟨h,_⟩
    · simp only[Option.getD_some] at h;rw[h,List.getElem_append_left hi2]
    · omega
  refine⟨(wakeF (b++t,s2) st).1.drop b.length,(wakeF (b++t,s2) st).2,Prod.ext ?_ rfl,by omega⟩
  have:=List.take_append_drop b.length (wakeF (b++t,s2) st).1
  rw[e] at this
  exact this.symm
theorem Zb {D:DS} {M i:Nat} {V:ByteArray→Option Fb} {m:Mf} {F:List By} (hV:Vw D M i V) (hR:Rec V m F) (st:List UInt8):∃ V',Vw (E5 D st) M (i+1) V'∧Rec V' m F∧Up0 (E5 D st):=by
  obtain⟨t,s2,hseg,hs2⟩:=hR.seg
  have hfl:=(hV.flen hseg).2
  have hsz:=hR.sz
  have hw:∀ k f,V k=some f→∃ st',ascF (E5 D st).l k=some (wakeF f st'):=fun k f e=>V3 D.l st k f ((hV.v k).trans e)
  refine⟨fun k=>ascF (E5 D st).l k,⟨W9 hV.good st,hV.most,fun k=>rfl⟩,⟨?_,?_,hR.ok,hR.sz,hR.cl,fun k hk=>hR.nm k ?_⟩,rfl,rfl⟩
  · obtain ⟨st', e⟩ := hw _ _ hR.man
    rw[e,Aaj]
  · obtain ⟨st', e⟩ := hw _ _ hseg
    obtain⟨t',s',e2,h3⟩:=Aai (by omega) hfl st'
    exact⟨t',s',by rw[e,e2],by omega⟩
  · have h2 : k ∈ (E5 D st).l.map (·.1) := D5.1 hk
    have h3:(E5 D st).l.map (·.1)=D.l.map (·.1):=Ew D.l st
    rw[h3] at h2
    rw[← hV.v];exact D5.2 h2
end Go.Proofs.Eng
end
section
namespace Go.Proofs.Eng
open Go.RowKit
theorem Hz {xs ys:List Hash} {x:Hash}:x∈sel ys false xs↔x∈xs∧x∉ys:=by unfold sel;simp
theorem Ol {l:List Hash}:srt l=[]↔l=[]:=by
  constructor
  · intro h
    cases l with
    | nil=>rfl
    | cons x l=>have:x∈srt (x :: l):=mem_srt.2 (by simp);rw[h] at this;cases this
  · intro h;rw[h];rfl
theorem M9 {L:List By} {got:List Hash} (hg:∀ h∈got,findF L h≠none):(A0 L got).map shaF=got:=by
  unfold A0
  rw[List.map_map]
  conv=>rhs;rw[← List.map_id got]
  refine List.map_congr_left fun h hh=>?_
  obtain⟨c,hc⟩:=Option.ne_none_iff_exists'.1 (hg h hh)
  show shaF ((findF L h).getD [])=h
  rw[hc];exact(Do hc).1
theorem Qj {L:List By} {got:List Hash} (hg:∀ h∈got,findF L h≠none) (z:Hash):findF (A0 L got) z=if z∈got then findF L z else none:=by
  induction got with
  | nil=>rfl
  | cons x got ih =>
    obtain⟨c,hc⟩:=Option.ne_none_iff_exists'.1 (hg x (by simp))
    have hs:=(Do hc).1
    have e:A0 L (x :: got)=c :: A0 L got:=by unfold A0;rw[List.map_cons,hc];rfl
    have ih:=ih fun h hh=>hg h (by simp[hh])
    rw[e]
    unfold findF at ih ⊢
    rw[List.find?_cons]
    by_cases q:x=z
    · rw [decide_eq_true (hs.trans q)]
      have:List.find? (fun c=>decide (shaF c=z)) L=some c:=by rw[← q];exact hc
      simp[q,this]
    · rw [decide_eq_false (by rw [hs]; exact q)]
      simp only[List.mem_cons,Ne.symm q,false_or]
      exact ih
def rankS (live:List Hash):Option (List Hash×Nat)→Nat
  | none=>11
  | some gz=>if srt (sel live false (srt gz.1))=[] then (srt (sel (srt gz.1) false live)).length else 12
theorem Ua {l:List Hash}:∀ x∈l.take 4,x∈l:=fun x hx=>List.mem_of_mem_take hx
theorem Wl {live got:List Hash} (h1:srt (sel live false (srt got))=[]) (h2:srt (sel (srt got) false live)≠[]):rankS live (some (got++(srt (sel (srt got) false live)).take 4,0))<(srt (sel (srt got) false live)).length:=by
  obtain⟨l,hl⟩:∃ l,l=srt (sel (srt got) false live):=⟨_,rfl⟩
  have hml:∀ x,x∈l↔x∈live∧x∉got:=fun x=>by rw[hl,mem_srt,Hz,mem_srt]
  have hgl:∀ x∈got,x∈live:=fun x hx=>Classical.byContradiction fun hn=>by
    have:x∈srt (sel live false (srt got)):=mem_srt.2 (Hz.2 ⟨mem_srt.2 hx,hn⟩)
    rw[h1] at this;cases this
  rw[← hl] at h2 ⊢
  have e1:srt (sel live false (srt (got++l.take 4)))=[]:=by
    rw[Ol]
    refine List.eq_nil_iff_forall_not_mem.2 fun x hx=>?_
    obtain⟨a,b⟩:=Hz.1 hx
    rcases List.mem_append.1 (mem_srt.1 a) with c | c
    · exact b (hgl x c)
    · exact b ((hml x).1 (Ua x c)).1
  show (if srt (sel live false (srt (got++l.take 4)))=[] then (srt (sel (srt (got++l.take 4)) false live)).length else 12)<_
  rw[if_pos e1]
  have hnd:(srt (sel (srt (got++l.take 4)) false live)).Nodup:=(Fy _).nodup
  have hle:(srt (sel (srt (got++l.take 4)) false live)).length≤(l.drop 4).length:=by
    refine Fz hnd fun x hx=>?_
    obtain⟨a,b⟩:=Hz.1 (mem_srt.1 hx)
    rw[mem_srt,List.mem_append,not_or] at b
    have hx2:x∈l:=(hml x).2 ⟨a,b.1⟩
    rw[← List.take_append_drop 4 l] at hx2
    exact(List.mem_append.1 hx2).resolve_left b.2
  have:0<l.length:=by cases l with | nil=>exact absurd rfl h2 | cons _ _=>simp
  rw[List.length_drop] at hle
  omega
section
variable {C : CS} {M i : Nat} {F : List By}
def LiveP (C:CS) (live:List Hash) (G:List By):Prop:=(∀ h,findF G h=if h∈live then findF C.L h else none)∧(G.map shaF).Nodup∧∀ c∈G,c∈C.L
theorem Acr (h:Bst C M i F) (hM:M≤16777216) {live:List Hash} (hl:∀ h∈live,findF C.L h≠none) (hseg:C.seg+2≤999999) :
    ((stepF C live).2=(false,0)∧Bst (stepF C live).1 M (i+12) F∧(stepF C live).1={ C with D:=(stepF C live).1.D,next:=(stepF C live).1.next }∧(Up0 C.D→Up0 (stepF C live).1.D)∧((srt (srt live)).length≤10→rankS (srt live) (stepF C live).1.next<rankS (srt live) C.next)) ∨
    ((stepF C live).2=(true,0)∧(∃ G,Bst (stepF C live).1 M (i+12) G∧LiveP C live G)∧LiveP C live (stepF C live).1.L∧(stepF C live).1.index=C.index∧(stepF C live).1.seg=C.seg+1∧(stepF C live).1.next=none∧(Up0 C.D→Up0 (stepF C live).1.D)) ∨
    ((stepF C live).2=(false,21)∧Bst (stepF C live).1 M (i+12) F∧(stepF C live).1={ C with D:=(stepF C live).1.D,next:=none }∧(Up0 C.D→Up0 (stepF C live).1.D)∧∃ Z,(∃ l:List Hash,Z=(segB (A0 C.L l)).length∧l.Nodup∧∀ h∈l,findF C.L h≠none)∧M<(manB ⟨C.seg,C.size,C.index⟩).length+C.size+Z+(C.index.length+35)) ∨
    ((stepF C live).2=(false,20)∧¬ Up0 C.D∧Ded (stepF C live).1 M (i+12) (fun m G=>m.index=C.index∧((m.seg=C.seg∧G=F)∨(m.seg=C.seg+1∧LiveP C live G)))):=by
  obtain⟨X,hV,hN⟩:=h.vw
  have hlo:=h.ok.lo
  have hhi:=h.hi
  have hsF:=h.sz
  have hmain:=Oi (C:=C) (live:=live) (by rw[h.dead];simp) hl (by omega)
  obtain⟨m0,hm0⟩:∃ m:Mf,m=⟨C.seg,C.size,C.index⟩:=⟨_,rfl⟩
  have hok0:m0.Ok:=by rw[hm0];exact h.ok
  rw[← hm0] at hV ⊢
  have hs0:m0.seg=C.seg:=by rw[hm0]
  have hz0:m0.size=C.size:=by rw[hm0]
  have hi0:m0.index=C.index:=by rw[hm0]
  obtain⟨Mid,hMid⟩:∃ P:(ByteArray→Option Fb)→Prop,P=fun V=>∃ m G,Rec V m G∧m.index=C.index∧((m.seg=C.seg∧G=F)∨(m.seg=C.seg+1∧LiveP C live G)):=⟨_,rfl⟩
  have hmo:∀ t s2 N X',C.size≤s2→Mid (shp C.seg (some (manB m0,(manB m0).length)) (some (segB F++t,s2)) N X'):=fun t s2 N X' q=>by
    have:=No (t:=t) (N:=N) (X:=X') hok0 (by rw[hs0];exact hhi) (by rw[hz0];exact hsF) h.cl (by rw[hz0];exact q)
    rw[hs0] at this
    rw[hMid];exact⟨m0,F,this,hi0,.inl ⟨hs0,rfl⟩⟩
  have hmo0:∀ N X',Mid (shp C.seg (some (manB m0,(manB m0).length)) (some (segB F,C.size)) N X'):=fun N X'=>by have:=hmo [] C.size N X' (Nat.le_refl _);rwa [List.append_nil] at this
  have hlm:=Gx hok0
  -- what becomes of a call that failed
  have hdead:∀ {r:CS×Bool×Int},stepS C (srt live)=r→r.1={ C with D:=r.1.D }→r.2.2=20→¬ Up0 C.D→r.1.D.down=true→(∃ V,Vw r.1.D M (i+9) V∧Mid V) →
      ((stepF C live).2=(false,20)∧¬ Up0 C.D∧Ded (stepF C live).1 M (i+12) (fun m G=>m.index=C.index∧((m.seg=C.seg∧G=F)∨(m.seg=C.seg+1∧LiveP C live G)))):=by
    intro r hr h1 h2 h3 h4 ⟨V,hV',hm'⟩
    rw[hmain,hr,if_pos (by rw[h2];decide),h2,Ki]
    rw[hMid] at hm'
    obtain⟨m,G,e1,e2⟩:=hm'
    exact⟨rfl,h3,rfl,h4,V,m,G,hV'.mono (by omega),e1,e2⟩
  have hfull:∀ {r:CS×Bool×Int} {N X':Option Fb},stepS C (srt live)=r→r.1={ C with D:=r.1.D }→r.2.2=21→(Up0 C.D→Up0 r.1.D)→r.1.D.down=false→Vw r.1.D M (i+9) (shp C.seg (some (manB m0,(manB m0).length)) (some (segB F,C.size)) N X') →
      (∃ Z,(∃ l:List Hash,Z=(segB (A0 C.L l)).length∧l.Nodup∧∀ h∈l,findF C.L h≠none)∧M<(manB m0).length+C.size+Z+(C.index.length+35)) →
      ((stepF C live).2=(false,21)∧Bst (stepF C live).1 M (i+12) F∧(stepF C live).1={ C with D:=(stepF C live).1.D,next:=none }∧(Up0 C.D→Up0 (stepF C live).1.D)∧∃ Z,(∃ l:List Hash,Z=(segB (A0 C.L l)).length∧l.Nodup∧∀ h∈l,findF C.L h≠none)∧M<(manB m0).length+C.size+Z+(C.index.length+35)) ∨
      ((stepF C live).2=(false,20)∧¬ Up0 C.D∧Ded (stepF C live).1 M (i+12) (fun m G=>m.index=C.index∧((m.seg=C.seg∧G=F)∨(m.seg=C.seg+1∧LiveP C live G)))):=by
    intro r N X' hr h1 h2 h3 h4 hV' hroom
    have hV'':Vw r.1.D M (i+9) (shp C.seg (some (manB m0,(manB m0).length)) (some (segB F++[],C.size)) N X'):=by rw[List.append_nil];exact hV'
    have hu:=X2 hlo hhi hV'' h4 hsF (fun _=>rfl) (Nat.le_refl _) true (Mid:=Mid) (fun t s2 N X' q=>hmo t s2 N X' q)
    rw[hmain,hr,if_pos (by rw[h2];decide),h2]
    have e1:r.1.seg=C.seg:=by rw[h1]
    have e2:r.1.size=C.size:=by rw[h1]
    rcases hu with ⟨a',b',c',V',d',e'⟩ | ⟨a',b',c',V',d',e'⟩ | ⟨_,_,_,V',_,e'⟩
    · rw [A5 (by decide) rfl (by rw [e1, e2]; exact a'), e1, e2]
      subst e'
      refine .inl ⟨rfl,?_,by rw[h1];rfl,fun u=>c' (h3 u),hroom⟩
      rw[if_pos rfl] at d'
      rw[hm0] at d'
      rw[h1]
      exact⟨⟨none,d',rfl⟩,b',h.ok,hhi,hsF,h.cl,h.eq,h.nF,h.nL,h.cL,h.dead⟩
    · rw [Cx (by decide) rfl (by rw [e1, e2, a']; decide), e1, e2]
      rw[hMid] at e'
      obtain⟨m,G,e3,e4⟩:=e'
      exact .inr ⟨rfl,fun u=>b' (h3 u),rfl,c',V',m,G,d',e3,e4⟩
    · exact e'.elim
  have hgood:∀ {r:CS×Bool×Int},stepS C (srt live)=r→r.2.2=0→stepF C live=r:=fun hr h2=>by rw[hmain,hr,if_neg (by rw[h2];simp)]
  cases hnx:C.next with
  | none =>
    rw[hnx] at hN
    have hX:X=none:=hN
    subst hX
    have hst:=Gu (live:=srt live) hnx
    have ho:=L0 hV (C4 (by omega) hhi) (Fi hlo hhi) (Ih hlo hhi hV).2
    rw[Ii hlo hhi] at ho
    rcases ho with ⟨a,b,c,d⟩ | ⟨a,b,c,d⟩
    · rw [if_pos a] at hst
      refine .inl ?_
      rw[hgood hst a]
      refine⟨by rw[a],⟨⟨some ([],0),?_,⟨0,rfl⟩,rfl,(fun h hh=>by cases hh),List.nodup_nil⟩,c,h.ok,hhi,hsF,h.cl,h.eq,h.nF,h.nL,h.cL,h.dead⟩,rfl,d,fun q=>?_⟩
      · rw[hm0] at b;exact b.mono (by omega)
      · have e0 : srt (sel (srt live) false (srt ([] : List Hash))) = [] := by rw [Ol]; rfl
        have e2:(srt (sel (srt ([]:List Hash)) false (srt live)))=srt (srt live):=congrArg srt (List.filter_eq_self.2 fun x _=>by simp[show srt ([]:List Hash)=[] from rfl])
        have e3:rankS (srt live) (some ([],0))=(srt (srt live)).length:=by unfold rankS;simp only[];rw[if_pos e0,e2]
        show rankS (srt live) (some ([],0))<11
        rw[e3];omega
    · rw [if_neg (by rw [a]; decide)] at hst
      exact .inr (.inr (.inr (hdead hst (by rw[← hnx]) a b c (d.elim (fun d=>⟨_,d.mono (by omega),hmo0 _ _⟩) fun d=>⟨_,d.mono (by omega),hmo0 _ _⟩))))
  | some gz =>
    obtain⟨got,z⟩:=gz
    rw[hnx] at hN
    obtain⟨⟨s2,hX⟩,hz,hgin,hgnd⟩:=hN
    simp only at hz hgin hgnd
    subst hX
    by_cases h1:srt (sel (srt live) false (srt got))=[]
    · by_cases h2 : srt (sel (srt got) false (srt live)) = []
      · -- the end
        have hst:=Fh (live:=srt live) hnx h1 h2
        have hgl:∀ x,x∈got↔x∈live:=fun x=>by
          constructor
          · intro hx
            refine Classical.byContradiction fun hn=>?_
            have:x∈srt (sel (srt live) false (srt got)):=mem_srt.2 (Hz.2 ⟨mem_srt.2 hx,fun q=>hn (mem_srt.1 q)⟩)
            rw[h1] at this;cases this
          · intro hx
            refine Classical.byContradiction fun hn=>?_
            have:x∈srt (sel (srt got) false (srt live)):=mem_srt.2 (Hz.2 ⟨mem_srt.2 hx,fun q=>hn (mem_srt.1 q)⟩)
            rw[h2] at this;cases this
        obtain⟨G,hG⟩:∃ G,G=A0 C.L got:=⟨_,rfl⟩
        have hGs:G.map shaF=got:=by rw[hG];exact M9 hgin
        have hGf:∀ z,findF G z=if z∈live then findF C.L z else none:=fun z=>by
          rw[hG,Qj hgin];simp only[hgl z]
        have hGm:∀ c∈G,c∈C.L:=fun c hc=>by
          rw[hG] at hc
          obtain⟨y,hy,rfl⟩:=List.mem_map.1 hc
          obtain⟨d,hd⟩:=Option.ne_none_iff_exists'.1 (hgin y hy)
          rw[hd];exact(Do hd).2
        have hGP:LiveP C live G:=⟨hGf,by rw[hGs];exact hgnd,hGm⟩
        obtain⟨m1,hm1⟩:∃ m:Mf,m=⟨C.seg+1,z,C.index⟩:=⟨_,rfl⟩
        have hs1:m1.seg=C.seg+1:=by rw[hm1]
        have hz1:m1.size=z:=by rw[hm1]
        have hfl:=(hV.flen (Fi hlo hhi)).1
        simp only at hfl
        have hok1:m1.Ok:=by rw[hm1];exact⟨by show 1≤C.seg+1;omega,by show C.seg+1≤_;omega,by show z≤_;omega,h.ok.ix⟩
        rw[← hG] at hV hz
        have hzG:(segB G).length=m1.size:=by rw[hz1,hz]
        have hclG:∀ c∈G,c.length≤1048576:=fun c hc=>h.cL c (hGm c hc)
        have hnew:∀ {V},V nMan=some (manB m1,(manB m1).length)→V (nSeg (C.seg+1))=some (segB G,(segB G).length)→(∀ k,V k≠none→k=nMan∨k=nNew∨SegN k)→Mid V:=fun {V} a b c=>by
          rw[hMid]
          exact⟨m1,G,⟨a,⟨[],(segB G).length,by rw[hs1,List.append_nil];exact b,by rw[hzG];exact Nat.le_refl _⟩,hok1,hzG,hclG,c⟩,by rw[hm1],.inr ⟨hs1,hGP⟩⟩
        have hsq:Sq C.D (runD (lastOps C z) C.D) M (i+6) (fun V=>V=shp (C.seg+1) (some (manB m1,(manB m1).length)) (some (segB G,(segB G).length)) none none) Mid (fun V=>V=shp C.seg (some (manB m0,(manB m0).length)) (some (segB F,C.size)) (some ([],0)) (some (segB G,(segB G).length))∧M<(manB m0).length+C.size+(segB G).length+(C.index.length+35)):=by
          simp only[lastOps,runD,Ep]
          rw[← hm1]
          refine Sq.and (Ok:=fun V=>V=shp C.seg (some (manB m0,(manB m0).length)) (some (segB F,C.size)) none (some (segB G,(segB G).length))) (i:=i+1) (.of (Sa hV (C4 (by omega) hhi) (Fi hlo hhi)) (Ii hlo hhi) (hmo0 _ _) (by rw[Ii hlo hhi];exact hmo0 _ _)) (fun D V hd hV e=>?_) (by omega)
          subst e
          refine Sq.and (Ok:=fun V=>V=shp C.seg (some (manB m1,(manB m1).length)) (some (segB F,C.size)) none (some (segB G,(segB G).length))) (i:=i+5) (On hlo hhi hV hok1 rfl (fun N=>hmo0 _ _) (hnew Jn (Fi hlo hhi) (Sm hlo hhi)) fun q=>⟨rfl,?_⟩) (fun D V hd hV e=>?_) (by omega)
          · have hl1 := Gx hok1
            have e5:m1.index.length=C.index.length:=by rw[hm1]
            simp only[Eng.ol,Option.map_some,Option.getD_some] at q
            omega
          · subst e
            refine .of (Hh hV (C4 hlo (by omega)) (Fs hlo hhi)) ?_ (hnew Jn (Fi hlo hhi) (Sm hlo hhi)) ?_
            · rw[Hy hlo hhi,Ae5 hlo hhi]
            · rw[Hy hlo hhi];exact hnew Jn (Fi hlo hhi) (Sm hlo hhi)
        rcases hsq with ⟨a,b,c,V,d,e⟩ | ⟨a,b,c,V,d,e⟩ | ⟨a,b,c,V,d,e,hroom⟩
        · rw [if_neg (by rw [a]; simp)] at hst
          subst e
          refine .inr (.inl ?_)
          rw[hgood hst rfl]
          have hLf:∀ y,findF (C.L.filter fun c=>decide (shaF c∈got)) y=if y∈live then findF C.L y else none:=fun y=>by
            have:=H8 C.L (fun x=>decide (x∈got)) y
            rw[this]
            simp only[decide_eq_true_eq,hgl y]
          have hLn:((C.L.filter fun c=>decide (shaF c∈got)).map shaF).Nodup:=(List.filter_sublist.map shaF).nodup h.nL
          have hLm:∀ c∈C.L.filter fun c=>decide (shaF c∈got),c∈C.L:=fun c hc=>(List.mem_filter.1 hc).1
          have hd2:Vw (runD (lastOps C z) C.D).1 M (i+12) (shp (C.seg+1) (some (manB ⟨C.seg+1,z,C.index⟩,(manB ⟨C.seg+1,z,C.index⟩).length)) (some (segB G,z)) none none):=by
            rw[hm1,show (segB G).length=z from hz.symm] at d;exact d.mono (by omega)
          rw[hm1] at hok1
          exact⟨rfl,⟨G,⟨⟨none,hd2,rfl⟩,b,hok1,by show C.seg+1+1≤_;omega,hz.symm,hclG,fun y=>by rw[hGf];exact hLf y,hGP.2.1,hLn,fun c hc=>h.cL c (hLm c hc),h.dead⟩,hGP⟩,⟨hLf,hLn,hLm⟩,rfl,rfl,rfl,c⟩
        · rw [if_pos (by rw [a]; decide)] at hst
          exact .inr (.inr (.inr (hdead hst rfl a b c ⟨V,d.mono (by omega),e⟩)))
        · rw [if_pos (by rw [a]; decide)] at hst
          subst e
          rcases hfull hst rfl a c b (d.mono (by omega)) ⟨_,⟨got,by rw[← hG],hgnd,hgin⟩,hroom⟩ with q | q
          · exact .inr (.inr (.inl q))
          · exact .inr (.inr (.inr q))
      · -- some are brought
        have hst:=G4 (live:=srt live) hnx h1 h2
        have hrk:=Wl h1 h2
        have hml0:∀ x∈(srt (sel (srt got) false (srt live))).take 4,x∈live∧x∉got:=fun x hx=>by
          have:=Ua x hx
          rw[mem_srt,Hz,mem_srt,mem_srt] at this;exact this
        have hlnd:((srt (sel (srt got) false (srt live))).take 4).Nodup:=(List.take_sublist _ _).nodup ((Fy _).nodup)
        obtain⟨left,hleft⟩:∃ l,l=(srt (sel (srt got) false (srt live))).take 4:=⟨_,rfl⟩
        rw[← hleft] at hst hrk hml0 hlnd
        have hall:∀ y∈got++left,findF C.L y≠none:=fun y hy=>(List.mem_append.1 hy).elim (hgin y) fun q=>hl y (hml0 y q).1
        have hand:(got++left).Nodup:=List.nodup_append.2 ⟨hgnd,hlnd,fun a ha b hb e=>(hml0 b hb).2 (by rw[← e];exact ha)⟩
        have happ:segB (A0 C.L (got++left))=segB (A0 C.L got)++segB (A0 C.L left):=by unfold A0;rw[List.map_append,K8]
        have hsq:Sq C.D (A4 C.D (nSeg (C.seg+1)) (segB (A0 C.L left))) M (i+1) (fun V=>V=shp C.seg (some (manB m0,(manB m0).length)) (some (segB F,C.size)) none (some (segB (A0 C.L (got++left)),s2))) Mid (fun V=>V=shp C.seg (some (manB m0,(manB m0).length)) (some (segB F,C.size)) none (some (segB (A0 C.L got),s2))∧M<(manB m0).length+C.size+(segB (A0 C.L (got++left))).length+(C.index.length+35)):=by
          refine L3 hV (C4 (by omega) hhi) (Fi hlo hhi) (by rw[Ii hlo hhi,happ]) (hmo0 _ _) (by rw[Ii hlo hhi];exact hmo0 _ _) fun q=>⟨rfl,?_⟩
          have hr:=(Ih hlo hhi hV).1
          simp only[Eng.ol,Option.map_some,Option.getD_some,Option.map_none,Option.getD_none] at hr
          rw[happ,List.length_append];omega
        rcases hsq with ⟨a,b,c,V,d,e⟩ | ⟨a,b,c,V,d,e⟩ | ⟨a,b,c,V,d,e,hroom⟩
        · subst e
          have hbr:En C got z (nSeg (C.seg+1)) left=({ C with D:=(A4 C.D (nSeg (C.seg+1)) (segB (A0 C.L left))).1,next:=some (got++left,z+(segB (A0 C.L left)).length) },0):=by unfold En;rw[if_pos a,a]
          rw[hbr] at hst
          refine .inl ?_
          rw[hgood hst rfl]
          refine⟨rfl,⟨⟨some (segB (A0 C.L (got++left)),s2),?_,⟨s2,rfl⟩,?_,hall,hand⟩,b,h.ok,hhi,hsF,h.cl,h.eq,h.nF,h.nL,h.cL,h.dead⟩,rfl,c,fun _=>?_⟩
          · rw[hm0] at d;exact d.mono (by omega)
          · show z+_=_;rw[happ,List.length_append,hz]
          · show rankS (srt live) (some (got ++ left, _)) < (if srt (sel (srt live) false (srt got)) = [] then _ else 12)
            rw[if_pos h1];exact hrk
        · have hbr : En C got z (nSeg (C.seg + 1)) left = ({ C with D := (A4 C.D (nSeg (C.seg + 1)) (segB (A0 C.L left))).1, next := some (got, z) }, 20) := by unfold En; rw [if_neg (by rw [a]; decide), a]
          rw[hbr] at hst
          exact .inr (.inr (.inr (hdead hst (by rw[← hnx]) rfl b c ⟨V,d.mono (by omega),e⟩)))
        · subst e
          have hbr:En C got z (nSeg (C.seg+1)) left=({ C with D:=(A4 C.D (nSeg (C.seg+1)) (segB (A0 C.L left))).1,next:=some (got,z) },21):=by unfold En;rw[if_neg (by rw[a];decide),a]
          rw[hbr] at hst
          rcases hfull hst (by rw[← hnx]) rfl c b (d.mono (by omega)) ⟨_,⟨got++left,rfl,hand,hall⟩,hroom⟩ with q | q
          · exact .inr (.inr (.inl q))
          · exact .inr (.inr (.inr q))
    · -- begun anew
      have hst:=Hj (live:=srt live) hnx h1
      have ho:=Hh hV (C4 (by omega) hhi) (Fi hlo hhi)
      rw[Ii hlo hhi] at ho
      rcases ho with ⟨a,b,c,d⟩ | ⟨a,b,c,d⟩
      · rw [if_pos a] at hst
        refine .inl ?_
        rw[hgood hst a]
        refine⟨by rw[a],⟨⟨none,?_,rfl⟩,c,h.ok,hhi,hsF,h.cl,h.eq,h.nF,h.nL,h.cL,h.dead⟩,rfl,d,fun q=>?_⟩
        · rw[hm0] at b;exact b.mono (by omega)
        · show 11 < (if srt (sel (srt live) false (srt got)) = [] then _ else 12)
          rw[if_neg h1];omega
      · rw [if_neg (by rw [a]; decide)] at hst
        exact .inr (.inr (.inr (hdead hst (by rw[← hnx]) a b c (d.elim (fun d=>⟨_,d.mono (by omega),hmo0 _ _⟩) fun d=>⟨_,d.mono (by omega),hmo0 _ _⟩))))
end
end Go.Proofs.Eng
end
section
namespace Go.Proofs.Eng
open Go.RowKit
theorem Afb (most:Int) (M:Nat) (hm:M=(max 0 (min most 16777216)).toNat) :
    ((openC (newD most)).2=0∧Bst (openC (newD most)).1 M 5 []∧(openC (newD most)).1.L=[]∧(openC (newD most)).1.index=[]∧(openC (newD most)).1.seg=1∧(openC (newD most)).1.size=0∧(openC (newD most)).1.next=none∧Up0 (openC (newD most)).1.D)∨((openC (newD most)).2=21∧M<64):=by
  have hV:Vw (newD most) M 0 (fun _=>none):=⟨Vc most,hm.symm,fun _=>rfl⟩
  have hu:Up0 (newD most):=⟨rfl,rfl⟩
  have hok:(Mf.mk 1 0 []).Ok:=⟨by show 1≤1;omega,by show 1≤999999;omega,by show 0≤_;omega,by show 0≤_;omega⟩
  have hlm:=Gx hok
  have hcl:cleanD (newD most) (toStr [])=(newD most,0):=rfl
  have hsq:Sq (newD most) (runD openOps (newD most)) M 5 (fun V=>V=shp 1 (some (manB ⟨1,0,[]⟩,(manB ⟨1,0,[]⟩).length)) (some ([],0)) none none) (fun _=>True) (fun _=>M<64):=by
    simp only[openOps,runD,Ep]
    rw[hcl,Er (r:=(newD most,0)) rfl]
    refine Sq.and (Ok:=fun V=>V=shp 1 none (some ([],0)) none none) (i:=1) (.of (L0 hV (C4 (k:=1) (by omega) (by omega)) rfl (by show 0<64;omega)) ?_ trivial trivial) (fun D V hd hV e=>?_) (by omega)
    · funext k; unfold mset shp
      by_cases e:k=nSeg 1
      · rw[if_pos e,if_neg (by rw[e];exact Df (by omega) (by omega)),if_pos e]
      · rw[if_neg e];simp[e]
    · subst e
      refine On (by omega) (by omega) hV hok rfl (fun _=>trivial) trivial fun q=>?_
      simp only[Eng.ol,Option.map_some,Option.getD_some,Option.map_none,Option.getD_none,List.length_nil] at q hlm
      omega
  have ho:=L7 (D:=newD most) (by rw[Aal hV rfl Gk rfl])
  rcases hsq with ⟨a,b,c,V,d,e⟩ | ⟨_,b,_⟩ | ⟨a,_,_,V,_,e⟩
  · rw [ho]
    subst e
    exact .inl ⟨a,⟨⟨none,d,rfl⟩,b,hok,by show 1+1≤999999;omega,rfl,(fun c hc=>by cases hc),fun _=>rfl,List.nodup_nil,List.nodup_nil,(fun c hc=>by cases hc),rfl⟩,rfl,rfl,rfl,rfl,rfl,c hu⟩
  · exact absurd hu b
  · rw[ho];exact .inr ⟨a,e⟩
theorem Bst.cn {C:CS} {M i:Nat} {F:List By} (h:Bst C M i F) (hl:C.L.length≤100000):CN C i:=by
  obtain⟨X,hV,hN⟩:=h.vw
  have hz:=h.ok.sz
  have hx:=h.ok.ix
  have hh:=h.hi
  refine⟨hV.good,by omega,by have:C.size≤16777216:=hz;omega,by have:C.index.length≤524288:=hx;omega,fun g z e=>?_,by omega,h.cL⟩
  rw[e] at hN
  obtain⟨_,h2,h3,h4⟩:=hN
  simp only at h2 h3 h4
  have hk:=Pk h3 g h4 (fun z hz=>by unfold gotS;rw[if_pos hz];simp)
  have hc:∀ x∈A0 C.L g,x.length≤1048576:=fun x hx=>by
    obtain⟨y,_,rfl⟩:=List.mem_map.1 hx
    cases e:findF C.L y with
    | none=>simp
    | some c=>exact h.cL c (Do e).2
  have:=K7 hc
  rw[Jb] at this
  omega
theorem Bst.gn {C:CS} {M i:Nat} {F:List By} (h:Bst C M i F):∀ got z,C.next=some (got,z)→∀ x∈got,findF C.L x≠none:=fun got z e=>by
  obtain⟨X,hV,hN⟩:=h.vw
  rw[e] at hN;exact hN.2.2.1
theorem Tk {L all:List By} (hn:(L.map shaF).Nodup) (hs:∀ c∈L,c∈all):L.length≤all.length:=by
  have:=Fz hn (ks:=all.map shaF) fun z hz=>by
    obtain⟨c,hc,rfl⟩:=List.mem_map.1 hz;exact List.mem_map.2 ⟨c,hs c hc,rfl⟩
  simpa using this
theorem U4 {L:List By}:∀ h∈srt (L.map shaF),findF L h≠none:=fun h hh hn=>by
  obtain⟨c,hc,e⟩:=List.mem_map.1 (mem_srt.1 hh)
  exact I3.1 hn c hc e
def pickL (xss:List By) (ps:By):List By:=if xss=[] then [] else (ps.take 10).map fun b=>xss.getD (b.toNat % xss.length) []
theorem Dm {xss:List By} {ps:By}:∀ x∈pickL xss ps,x∈xss:=fun x hx=>by
  unfold pickL at hx
  split at hx
  · cases hx
  · rename_i hn
    obtain⟨b,_,rfl⟩:=List.mem_map.1 hx
    exact Cn (z:=[]) (i:=b.toNat % xss.length) (Nat.mod_lt _ (by cases xss with | nil=>exact absurd rfl hn | cons _ _=>simp)) rfl
theorem Aa8 {xss:List By} {ps:By}:(pickL xss ps).length≤10:=by
  unfold pickL;split
  · simp
  · simp;omega
theorem Abi {l:List By} (h:msum l≤4000):∀ x∈l,x.length≤4000:=(S3 h).1
end Go.Proofs.Eng
end
section
set_option maxRecDepth 100000
set_option maxHeartbeats 4000000
namespace Go.Proofs.Eng
open Go.RowKit
open Extern.Stop (cell)
theorem fb33:Tryz.f33.body.isNone=false:=by kernel_rfl
theorem fn33 : ngB Tryz.f33 = false := by kernel_rfl
theorem Afh:Bc Tryz.prog 26 0=some (5,0):=by kernel_rfl
theorem Afg:Bc Tryz.prog 26 1=some (23,1):=by kernel_rfl
end Go.Proofs.Eng
end
section
set_option maxRecDepth 100000
set_option maxHeartbeats 4000000
namespace Go.Proofs.Eng
open Go.RowKit
open Extern.Stop (cell)
theorem Ss (xss:List By) (B:Nat) (p:Option Addr) (n c:Nat) (w:World) (hl:Sl kLo 23 B w p n c xss) (hBw:B≤w.heap.size) (ps:By) (e2 B2:Nat) (q:Option Addr) (m c2:Nat) (hp:Sl kByte e2 B2 w q m c2 ps) :
    Ret Tryz.prog 33 [.slice p n c,.slice q m c2] w (fun v w'=>(∃ q1 m1 c1,v = .slice q1 m1 c1∧Own kLo 23 B w.heap.size w' q1 m1 c1 (pickL xss ps))∧Ext w w'):=by
 have hX:=Ext.refl w
 refine eN 37 Tryz.func33 ?_
 refine Ab (Aa ?_)
 refine pA ?_
 refine Ac (t_n (Ab ?_))
 have hln:=hl.len
 have hlc:=hl.cap
 have hlf:=hl.fit
 have hpn:=hp.len
 have hpc:=hp.cap
 have hpf:=hp.fit
 refine Aa ?_
 refine pA ?_
 refine Ac (t_n (Ab (Ab (Aa ?_))))
 refine pA ?_
 refine Ac (t_n (Am ?_))
 refine Bg (ι:=Nat×Option Addr×Nat×Nat) [5,6,7,8,9,10,11,12,13,14,15,16,17,18,19,20,21,22,23,24,25,26,27,28,29,30,31,32,33,34,35] (fun (k,ql,ml,cl)=>[(5,.slice ql ml cl),(6,.int .i64 (k:Int))]) (fun (k,ql,ml,cl) w'=>Ext w w'∧(k≤m∧k≤10∧(n=0→k=0)∧Own kLo 23 B w.heap.size w' ql ml cl ((ps.take k).map fun b:UInt8=>xss.getD (b.toNat % xss.length) []))) (fun (k,ql,ml,cl)=>10 - k) ((0,none,0,0)) ⟨rfl,rfl,trivial⟩ ⟨hX,Nat.zero_le _,Nat.zero_le _,fun _=>rfl,by rw[List.take_zero];exact Own.nil _ _ _ _ _⟩ ?_
 rintro⟨k,ql,ml,cl⟩ GL0 w1 ⟨hE1,hk,hk2,hk3,hO⟩
 have hX:=hE1
 have hol:=hO.len
 rw[List.length_map,List.length_take] at hol
 refine Ab (Ab (Aa ?_))
 refine pM ?_
 refine pM ?_
 refine p1 (Aj u23 rfl) ?_
 refine p1 (Bx rfl rfl) ?_
 refine p1b (Al (by conv=>lhs;whnf)) (fun hb3_4=>?_) (fun hb3_4=>?_)
 ·try simp only[dA,dB,dC,dD,dE,dF,dG,Int.not_lt,Int.not_le] at hb3_4
  refine gM 11 ?_
  refine g1 11 rfl rfl (Bx rfl rfl) ?_
  refine p1 (Ap rfl (by conv=>lhs;whnf)) ?_
  refine p1b (Al (by conv=>lhs;whnf)) (fun hb3_8=>?_) (fun hb3_8=>?_)
  ·try simp only[dA,dB,dC,dD,dE,dF,dG,Int.not_lt,Int.not_le] at hb3_8
   refine gM 15 ?_
   refine g1 15 rfl rfl (Aj u22 rfl) ?_
   refine g1 15 rfl rfl (C0 rfl rfl) ?_
   refine p1 (Ap rfl (by conv=>lhs;whnf)) ?_
   refine Ac (t_n ?_)
   refine As rfl (fun hc19=>?_) (fun hc19=>?_)
   ·try simp only[dA,dB,dC,dD,dE,dF,dG,Int.not_lt,Int.not_le] at hc19
    refine Ai (t_n (Ab (Am ?_)))
    obtain⟨q1,m1,c1,hck,hrow⟩:=hl.loAt ((ps.getD k 0).toNat % n) (Nat.mod_lt _ (by omega))
    refine Aa ?_
    refine pM ?_
    refine pM ?_
    refine pM ?_
    refine pM ?_
    refine p1 (Fd u23 sz5 rfl rfl ((hp.ext hX).adr Bw (by omega)) (by omega) (by omega)) ?_
    refine p1 (Ae un5 rfl ((hp.ext hX).byteAtI (k:Int) (by omega) (by omega))) ?_
    refine p1 (Cs u3 us5 rfl (Ag (by have:=(ps.getD ((k:Int)).toNat 0).toNat_lt;omega) (by have:=(ps.getD ((k:Int)).toNat 0).toNat_lt;omega))) ?_
    refine pM ?_
    refine p1 (Aj u22 rfl) ?_
    refine p1 ((N5 rfl rfl (by omega) (by omega)).cast (congrArg (Value.int .i64) (by simp:_=(((ps.getD k 0).toNat % n:Nat):Int)))) ?_
    refine p1 (C5 (i:=(ps.getD k 0).toNat % n) u22 sz23 rfl rfl ((hl.ext hX).adr Cd (by omega)) (Nat.mod_lt _ (by omega))) ?_
    refine p1 (Ae un23 rfl (hX.cell hck)) ?_
    have hXp:=hX.size
    refine Au u22 inf23 rfl (by decide) (fun base hb=>Cj (by rfl) base hb) ?_
    intro w2 g34 hN34
    have hE2:=hN34.ext
    have hX:=hX.ext hE2
    have hO:=hO.ext hE2
    have hJ:=Adx hN34 (hrow.ext hX) (Nat.le_trans hBw hXp)
    obtain⟨cssJ,hAJ,hsrJ⟩:=Dx u22 hJ Cd
    have hB1:=hX.size
    refine Bv (d:=kLo) ([xss.getD ((ps.getD k 0).toNat % n) []]) u22 inf23 rfl Cd rfl rfl hO (hsrJ) rfl (hAJ) (rfl) (by omega) (by omega) (by omega) (by omega) (by simp[kLo]) ?_
    intro p35 c35 w3 hO hM3
    have hX:=hX.mod hM3 (Nat.le_refl _)
    refine pA ?_
    refine Ac (b_n (t_n (Aa ?_)))
    refine pM ?_
    refine p1 (Aw rfl rfl (Ag (by omega) (by omega))) ?_
    refine pA ?_
    refine Ac ?_
    refine t_n (aK ((k+1,p35,ml+1,c35)) ⟨rfl,rfl,trivial⟩ ?_)
    exact⟨⟨hX,by omega,by omega,by omega,by rw[List.take_succ_eq_append_getElem (by omega),List.map_append,List.map_cons,List.map_nil];have e:=hO;rw[← hln,List.getD_eq_getElem?_getD (l:=ps),List.getElem?_eq_getElem (by omega)] at e;exact e⟩,by(dsimp only;omega)⟩
   try simp only[dA,dB,dC,dD,dE,dF,dG,Int.not_lt,Int.not_le] at hc19
   have hex:n=0∨k=m∨k=10:=by omega
   have hfin:(ps.take k).map (fun b:UInt8=>xss.getD (b.toNat % xss.length) [])=pickL xss ps:=by
     unfold pickL
     split
     · rename_i e;rw[hk3 (by rw[← hln,e];rfl)];rfl
     · rename_i e
       have hn0:n≠0:=fun q=>e (List.length_eq_zero_iff.1 (by omega))
       rcases hex with q | q | q
       · exact absurd q hn0
       · rw[List.take_of_length_le (by omega:ps.length≤k),List.take_of_length_le (by omega)]
       · rw[q]
   rw[hfin] at hO
   refine Ba (t_e (t_e (Bu (t_n (Ab (Aa ?_))))))
   refine pM ?_
   refine pA ?_
   refine Ac (t_n (Ak ?_))
   refine eR1 ?_
   exact⟨⟨_,_,_,rfl,hO⟩,hX⟩
  try simp only[dA,dB,dC,dD,dE,dF,dG,Int.not_lt,Int.not_le] at hb3_8
  refine gF 15 ?_
  refine gF 15 ?_
  refine gF 15 ?_
  refine p1 (Aq rfl (by conv=>lhs;whnf)) ?_
  refine Ac (t_n ?_)
  refine c_f rfl ?_
  have hex:n=0∨k=m∨k=10:=by omega
  have hfin:(ps.take k).map (fun b:UInt8=>xss.getD (b.toNat % xss.length) [])=pickL xss ps:=by
    unfold pickL
    split
    · rename_i e;rw[hk3 (by rw[← hln,e];rfl)];rfl
    · rename_i e
      have hn0:n≠0:=fun q=>e (List.length_eq_zero_iff.1 (by omega))
      rcases hex with q | q | q
      · exact absurd q hn0
      · rw[List.take_of_length_le (by omega:ps.length≤k),List.take_of_length_le (by omega)]
      · rw[q]
  rw[hfin] at hO
  refine Ba (t_e (t_e (Bu (t_n (Ab (Aa ?_))))))
  refine pM ?_
  refine pA ?_
  refine Ac (t_n (Ak ?_))
  refine eR1 ?_
  exact⟨⟨_,_,_,rfl,hO⟩,hX⟩
 try simp only[dA,dB,dC,dD,dE,dF,dG,Int.not_lt,Int.not_le] at hb3_4
 refine gF 11 ?_
 refine gF 11 ?_
 refine p1 (Aq rfl (by conv=>lhs;whnf)) ?_
 refine pM ?_
 refine gF 15 ?_
 refine gF 15 ?_
 refine gF 15 ?_
 refine p1 (Aq rfl (by conv=>lhs;whnf)) ?_
 refine Ac (t_n ?_)
 refine c_f rfl ?_
 have hex:n=0∨k=m∨k=10:=by omega
 have hfin:(ps.take k).map (fun b:UInt8=>xss.getD (b.toNat % xss.length) [])=pickL xss ps:=by
   unfold pickL
   split
   · rename_i e;rw[hk3 (by rw[← hln,e];rfl)];rfl
   · rename_i e
     have hn0:n≠0:=fun q=>e (List.length_eq_zero_iff.1 (by omega))
     rcases hex with q | q | q
     · exact absurd q hn0
     · rw[List.take_of_length_le (by omega:ps.length≤k),List.take_of_length_le (by omega)]
     · rw[q]
 rw[hfin] at hO
 refine Ba (t_e (t_e (Bu (t_n (Ab (Aa ?_))))))
 refine pM ?_
 refine pA ?_
 refine Ac (t_n (Ak ?_))
 refine eR1 ?_
 exact⟨⟨_,_,_,rfl,hO⟩,hX⟩
end Go.Proofs.Eng
end
section
namespace Go.Proofs.Eng
open Go.RowKit
structure FI (all:List By) (M k:Nat) (C:CS) (F:List By):Prop where
  b:Bst C M (70+12 * k) F
  u:Up0 C.D
  s:C.seg≤1+k
  i:C.index.length≤4000
  L:∀ c∈C.L,c∈all
  F:∀ c∈F,c∈all
section
variable {all F : List By} {M k : Nat} {C : CS}
theorem FI.len (h:FI all M k C F):C.L.length≤all.length:=Tk h.b.nL h.L
theorem FI.cn (h:FI all M k C F) (ha:all.length≤20):CN C (70+12 * k):=h.b.cn (by have:=h.len;omega)
theorem Afi (most:Int) (hm:M=(max 0 (min most 16777216)).toNat) :
    ((openC (newD most)).2=0∧FI all M 0 (openC (newD most)).1 []∧(openC (newD most)).1.L=[]∧(openC (newD most)).1.index=[])∨((openC (newD most)).2=21∧M<64):=by
  rcases Afb most M hm with ⟨a,b,c,d,e,f,g,h⟩ | h
  · exact .inl ⟨a,⟨b.rest (by omega),h,by omega,by rw[d];exact Nat.zero_le _,(by rw[c];exact fun _ h=>by cases h),fun _ h=>by cases h⟩,c,d⟩
  · exact .inr h
theorem Pu {l all:List By} (hn:(l.map shaF).Nodup) (hs:∀ c∈l,c∈all) (ha:all.length≤20) (hal:∀ c∈all,c.length≤4000):(segB l).length≤80300:=by
  have h1:=Tk hn hs
  have h2:∀ l:List By,(∀ c∈l,c.length≤4000)→(segB l).length≤l.length * 4015:=fun l=>by
    induction l with
    | nil=>intro _;simp[segB]
    | cons c l ih =>
      intro h
      have h0:=Ow 1 c (by have:=h c (by simp);omega)
      have hi:=ih fun x hx=>h x (by simp[hx])
      have hc:=h c (by simp)
      have e:segB (c :: l)=sealF 1 c++segB l:=rfl
      rw[e,List.length_append,List.length_cons];omega
  have h3:=h2 l fun c hc=>hal c (hs c hc)
  omega
theorem Xl {L:List By} {l:List Hash} (hl:∀ h∈l,findF L h≠none):∀ c∈A0 L l,c∈L:=fun c hc=>by
  obtain⟨y,hy,rfl⟩:=List.mem_map.1 hc
  obtain⟨d,hd⟩:=Option.ne_none_iff_exists'.1 (hl y hy)
  rw[hd];exact(Do hd).2
theorem M6 {L all:List By} {l:List Hash} (hn:l.Nodup) (hl:∀ h∈l,findF L h≠none) (hL:∀ c∈L,c∈all) (ha:all.length≤20) (hal:∀ c∈all,c.length≤4000):(segB (A0 L l)).length≤80300 :=
  Pu (by rw[M9 hl];exact hn) (fun c hc=>hL c (Xl hl c hc)) ha hal
theorem Bst.nxl {i:Nat} (h:Bst C M i F) (hL:∀ c∈C.L,c∈all) (ha:all.length≤20) (hal:∀ c∈all,c.length≤4000):nxL C.L C.next≤80300:=by
  obtain⟨X,hV,hN⟩:=h.vw
  cases e:C.next with
  | none=>exact Nat.zero_le _
  | some gz=>rw[e] at hN;exact M6 hN.2.2.2 hN.2.2.1 hL ha hal
theorem Bst.room {i:Nat} (h:Bst C M i F) (hF:∀ c∈F,c∈all) (hi:C.index.length≤4000) (ha:all.length≤20) (hal:∀ c∈all,c.length≤4000):C.size≤80300∧(manB ⟨C.seg,C.size,C.index⟩).length≤4035:=by
  have h1:=Pu h.nF hF ha hal
  have h2:=Gx h.ok
  rw[h.sz] at h1
  exact⟨h1,by simp only at h2;omega⟩
theorem Bst.no21 {i:Nat} (h:Bst C M i F) (hM:1048576≤M) (hL:∀ c∈C.L,c∈all) (hF:∀ c∈F,c∈all) (hi:C.index.length≤4000) (ha:all.length≤20) (hal:∀ c∈all,c.length≤4000) {cs:List By} (hc:∀ c∈cs,c∈all) {ix:By} (hix:ix.length≤4000) :
    ¬ M<(manB ⟨C.seg,C.size,C.index⟩).length+C.size+(segB (Av C.L cs)).length+(manB ⟨C.seg,C.size+(segB (Av C.L cs)).length,ix⟩).length+nxL C.L C.next:=by
  obtain⟨h1,h2⟩:=h.room hF hi ha hal
  have h3:=h.nxl hL ha hal
  have hnd:=G8 cs C.L h.nL
  rw[List.map_append,List.nodup_append] at hnd
  have h4:=Pu hnd.2.1 (fun c q=>hc c (Dh cs C.L c q).2) ha hal
  have hlo:=h.ok.lo
  have hhi:=h.hi
  have h5:=Gx (m:=⟨C.seg,C.size+(segB (Av C.L cs)).length,ix⟩) ⟨hlo,by show C.seg≤_;omega,by show C.size+_≤_;omega,by show ix.length≤_;omega⟩
  simp only at h5
  omega
theorem Bst.no21s {i:Nat} (h:Bst C M i F) (hM:1048576≤M) (hL:∀ c∈C.L,c∈all) (hF:∀ c∈F,c∈all) (hi:C.index.length≤4000) (ha:all.length≤20) (hal:∀ c∈all,c.length≤4000) :
    ¬ ∃ Z,(∃ l:List Hash,Z=(segB (A0 C.L l)).length∧l.Nodup∧∀ h∈l,findF C.L h≠none)∧M<(manB ⟨C.seg,C.size,C.index⟩).length+C.size+Z+(C.index.length+35):=by
  rintro⟨Z,⟨l,rfl,hn,hl⟩,h3⟩
  obtain⟨h1,h2⟩:=h.room hF hi ha hal
  have h4:=M6 hn hl hL ha hal
  omega
end
def KeyE (L H:List By):Prop:=∀ z,z∈L.map shaF↔z∈H.map shaF
theorem Gw {L:List By} {z:Hash}:z∈L.map shaF↔findF L z≠none:=by
  constructor
  · intro hz hn
    obtain⟨c,hc,e⟩:=List.mem_map.1 hz
    exact I3.1 hn c hc e
  · intro hz
    obtain⟨c,hc⟩:=Option.ne_none_iff_exists'.1 hz
    obtain⟨e,hm⟩:=Do hc
    exact List.mem_map.2 ⟨c,hm,e⟩
theorem KeyE.srt {L H:List By} (h:KeyE L H):Eng.srt (L.map shaF)=Eng.srt (H.map shaF):=Om (Fy _) fun z=>by rw[mem_srt];exact h z
theorem KeyE.of {L H:List By} (h:Eng.srt (L.map shaF)=Eng.srt (H.map shaF)):KeyE L H:=fun z=>by rw[← mem_srt (xs:=L.map shaF),h,mem_srt]
theorem KeyE.put {L H:List By} (h:KeyE L H) (cs:List By):KeyE (L++Av L cs) (H++cs):=fun z=>by
  rw[List.map_append,List.map_append,List.mem_append,List.mem_append]
  constructor
  · rintro (q | q)
    · exact .inl ((h z).1 q)
    · obtain ⟨c, hc, e⟩ := List.mem_map.1 q
      exact .inr (List.mem_map.2 ⟨c,(Dh cs L c hc).2,e⟩)
  · rintro (q | q)
    · exact .inl ((h z).2 q)
    · obtain ⟨c, hc, rfl⟩ := List.mem_map.1 q
      have:=Gw.2 (Xb cs L c hc)
      rw[List.map_append,List.mem_append] at this;exact this
theorem KeyE.put_of {L F cs:List By} (h:∀ z,findF L z=findF F z):KeyE (L++Av L cs) (F++Av L cs):=fun z=>by
  rw[Gw,Gw,Be,Be,h]
theorem KeyE.eqF {L F:List By} (h:∀ z,findF L z=findF F z):KeyE L F:=fun z=>by rw[Gw,Gw,h]
theorem KeyE.trans {A B D:List By} (h:KeyE A B) (h2:KeyE B D):KeyE A D:=fun z=>(h z).trans (h2 z)
theorem KeyE.symm {A B:List By} (h:KeyE A B):KeyE B A:=fun z=>(h z).symm
theorem KeyE.live {C:CS} {G H:List By} (h:LiveP C (Eng.srt (C.L.map shaF)) G) (hk:KeyE C.L H):KeyE G H:=fun z=>by
  rw[Gw,h.1,← hk z,← mem_srt (xs:=C.L.map shaF)]
  split
  · rename_i q;exact⟨fun _=>q,fun _=>U4 z q⟩
  · rename_i q;exact⟨fun h=>absurd rfl h,fun h=>absurd h q⟩
theorem Ns {C:CS} {all l:List By} (hap:∀ x∈all,∀ y∈all,shaF x=shaF y→x=y) (hL:∀ c∈C.L,c∈all) (hl:∀ c∈l,c∈all) (hk:KeyE C.L l):HasP C l C.index:=by
  refine⟨fun x hx=>?_,hk.srt,rfl⟩
  have:=Gw.1 ((hk (shaF x)).2 (List.mem_map.2 ⟨x,hx,rfl⟩))
  obtain⟨c,hc⟩:=Option.ne_none_iff_exists'.1 this
  obtain⟨e,hm⟩:=Do hc
  rw[hc,hap c (hL c hm) x (hl x hx) e]
theorem Aax (l:List Hash):(srt l).length≤l.length:=Fz (Fy l).nodup fun z hz=>mem_srt.1 hz
end Go.Proofs.Eng
end
section
namespace Go.Proofs.Eng
open Go.RowKit
theorem Ext.someSize {a b:World} (_:Ext a b):∃ z,z=a.heap.size:=⟨_,rfl⟩
end Go.Proofs.Eng
end
section
set_option maxRecDepth 100000
set_option maxHeartbeats 4000000
namespace Go.Proofs.Eng
open Go.RowKit
open Extern.Stop (cell)
theorem fb24:Tryz.f24.body.isNone=false:=by kernel_rfl
theorem fb42:Tryz.f42.body.isNone=false:=by kernel_rfl
theorem fb43:Tryz.f43.body.isNone=false:=by kernel_rfl
theorem fn24 : ngB Tryz.f24 = false := by kernel_rfl
theorem fn42 : ngB Tryz.f42 = false := by kernel_rfl
theorem fn43 : ngB Tryz.f43 = false := by kernel_rfl
theorem Xd:Bc Tryz.prog 26 3=some (3,3):=by kernel_rfl
theorem Aca:Bc Tryz.prog 26 4=some (4,4):=by kernel_rfl
theorem Ab9:Bc Tryz.prog 26 5=some (23,5):=by kernel_rfl
theorem ua26:(Tryz.prog.underlying 26).map TypeDesc.isRow=some true:=by kernel_rfl
theorem us86:(Tryz.prog.underlying 86).isSome=true:=by kernel_rfl
theorem zr26:(Tryz.prog.info? 26).map (·.zero)=some (some (.agg #[.int .u8 0,.slice none 0 0,.slice none 0 0,.int .i64 0,.bool false,.slice none 0 0])):=by kernel_rfl
end Go.Proofs.Eng
end
section
namespace Go.Proofs.Eng
open Go.RowKit
def Wh (all:List By) (k:Nat) (H:List By) (ih:By) (may:Bool) (N:List By) (nw:By) (m:Mf) (G:List By):Prop :=
  m.seg≤1+k∧(G.map shaF).Nodup∧(∀ c∈G,c∈all)∧m.index.length≤4000∧((KeyE G H∧m.index=ih)∨(may=true∧KeyE G N∧m.index=nw))
def Onl (all:List By) (i k:Nat) (D:DS) (H:List By) (ih:By) (may:Bool) (N:List By) (nw:By):Prop:=∃ V m G,Vw D 1048576 i V∧Rec V m G∧Wh all k H ih may N nw m G
structure Liv (all:List By) (i k:Nat) (C:CS) (F:List By):Prop where
  b:Bst C 1048576 i F
  s:C.seg≤1+k
  i:C.index.length≤4000
  L:∀ c∈C.L,c∈all
  F:∀ c∈F,c∈all
structure CrI (all:List By) (k:Nat) (C:CS) (H:List By) (ih:By) (may:Bool) (N:List By) (nw:By):Prop where
  cn:CN C (200+200 * k)
  gn:∀ got z,C.next=some (got,z)→∀ h∈got,findF C.L h≠none
  st:(may=false∧(∃ F,Liv all (200+200 * k) k C F)∧KeyE C.L H∧C.index=ih)∨(C.dead=true∧C.D.down=true∧Onl all (200+200 * k) k C.D H ih may N nw)
section
variable {all F H N : List By} {ih nw : By} {may : Bool} {i j k l : Nat} {C : CS} {D : DS}
theorem Wh.free {m:Mf} {G:List By} (h:Wh all k H ih false N nw m G) (b:Bool) (N2:List By) (nw2:By):Wh all k H ih b N2 nw2 m G:=by
  obtain⟨a,c,d,e,f⟩:=h
  exact⟨a,c,d,e,.inl (f.resolve_right fun q=>by cases q.1)⟩
theorem Onl.free (h:Onl all i k D H ih false N nw) (b:Bool) (N2:List By) (nw2:By):Onl all i k D H ih b N2 nw2:=by
  obtain⟨V,m,G,a,b',c⟩:=h
  exact⟨V,m,G,a,b',c.free b N2 nw2⟩
theorem Onl.le (h:Onl all i k D H ih may N nw) (hi:i≤j) (hk:k≤l):Onl all j l D H ih may N nw:=by
  obtain⟨V,m,G,a,b',c⟩:=h
  exact⟨V,m,G,a.mono hi,b',by have:=c.1;omega,c.2⟩
theorem Liv.le (h:Liv all i k C F) (hi:i≤j) (hk:k≤l):Liv all j l C F:=⟨h.b.rest hi,by have:=h.s;omega,h.i,h.L,h.F⟩
theorem Liv.cn (h:Liv all i k C F) (ha:all.length≤20):CN C i:=h.b.cn (by have:=Tk h.b.nL h.L;omega)
theorem Liv.onl (h:Liv all i k C F) (hk:KeyE C.L H) (he:C.index=ih):Onl all i k C.D H ih may N nw:=by
  obtain⟨V,hV,hR⟩:=h.b.rec_
  exact⟨V,_,F,hV,hR,h.s,h.b.nF,h.F,h.i,.inl ⟨(KeyE.eqF h.b.eq).symm.trans hk,he⟩⟩
theorem Liv.cr (h:Liv all (200+200 * k) k C F) (ha:all.length≤20) (hk:KeyE C.L H) (he:C.index=ih):CrI all k C H ih false N nw:=⟨h.cn ha,h.b.gn,.inl ⟨rfl,⟨F,h⟩,hk,he⟩⟩
theorem Xs {V:ByteArray→Option Fb} {M:Nat} (h:Vw D M i V):Good D i:=h.good
theorem CN.dead (h:CN C i) {D:DS} (hg:Good D j) {o:Option (List Hash×Nat)} (ho:o=C.next∨o=none) (b:Bool):CN { C with D:=D,dead:=b,next:=o } j :=
  ⟨hg,h.hi,h.sz,h.ix,(fun g z e=>by
    have e:o=some (g,z):=e
    rcases ho with q | q
    · exact h.nx g z (by rw[← q];exact e)
    · rw[q] at e;cases e),h.ln,h.cl⟩
theorem Of (C:CS) (e:Int) (st:Bool):∃ D o b,(undoC C e st).1={ C with D:=D,dead:=b,next:=o }∧(o=C.next∨o=none):=by
  unfold undoC
  split
  · exact⟨C.D,C.next,true,rfl,.inl rfl⟩
  · split
    · exact⟨_,C.next,true,rfl,.inl rfl⟩
    · exact⟨_,_,C.dead,rfl,by split;exact .inr rfl;exact .inl rfl⟩
theorem Zc {cs:List By} {ix:By} (h:(putC C cs ix).2≠0):∃ D o b,(putC C cs ix).1={ C with D:=D,dead:=b,next:=o }∧(o=C.next∨o=none):=by
  by_cases h1:C.dead=true
  · unfold putC;rw[if_pos h1];exact⟨_,_,_,rfl,.inl rfl⟩
  · by_cases h2 : 524288 < ix.length ∨ ∃ c ∈ cs, 1048576 < c.length
    · unfold putC;rw[if_neg h1,if_pos h2];exact⟨_,_,_,rfl,.inl rfl⟩
    · rw [Jq h1 h2] at h ⊢
      by_cases h3:(putR C (Av C.L cs) ix).2≠0
      · rw[if_pos h3];exact Of _ _ _
      · rw[if_neg h3] at h;exact absurd rfl h
theorem Wi {live:List Hash} (h:(stepF C live).2.2≠0):∃ D o b,(stepF C live).1={ C with D:=D,dead:=b,next:=o }∧(o=C.next∨o=none):=by
  unfold stepF at h ⊢
  by_cases h1:C.dead=true
  · rw[if_pos h1];exact⟨_,_,_,rfl,.inl rfl⟩
  · rw [if_neg h1] at h ⊢
    by_cases h2:∃ h∈live,findF C.L h=none
    · rw[if_pos h2];exact⟨_,_,_,rfl,.inl rfl⟩
    · rw [if_neg h2] at h ⊢
      by_cases h3:999999≤C.seg
      · rw[if_pos h3];exact⟨_,_,_,rfl,.inl rfl⟩
      · rw [if_neg h3] at h ⊢
        simp only at h ⊢
        by_cases h4:(stepS C (srt live)).2.2≠0
        · rw [if_pos h4]
          obtain⟨D,o,b,e1,e2⟩:=Of (stepS C (srt live)).1 (stepS C (srt live)).2.2 true
          have e3:=(Qw h4).1
          exact⟨D,o,b,by show (undoC _ _ _).1=_;rw[e1,e3],by rw[e3] at e2;exact e2⟩
        · rw[if_neg h4] at h;exact absurd h h4
theorem Yg {o:Option (List Hash×Nat)} {D:DS} {b:Bool} (h:∀ got z,C.next=some (got,z)→∀ h∈got,findF C.L h≠none) (ho:o=C.next∨o=none):∀ got z,({ C with D:=D,dead:=b,next:=o }:CS).next=some (got,z)→∀ h∈got,findF ({ C with D:=D,dead:=b,next:=o }:CS).L h≠none:=fun got z e=>by
  rcases ho with q | q
  · exact h got z (by rw[← q];exact e)
  · have e : o = some (got, z) := e
    rw[q] at e;cases e
theorem Afu (h:CrI all k C H ih may N nw) (ha:all.length≤20) (hal:∀ c∈all,c.length≤4000) {cs:List By} (hc:∀ c∈cs,c∈all) {ix:By} (hix:ix.length≤4000) :
    ((putC C cs ix).2=0∧may=false∧∀ N2 nw2,CrI all (k+1) (putC C cs ix).1 (H++cs) ix false N2 nw2) ∨
    ((putC C cs ix).2=20∧(putC C cs ix).1.D.down=true∧(may=true→CrI all (k+1) (putC C cs ix).1 H ih true N nw)∧(may=false→CrI all (k+1) (putC C cs ix).1 H ih true (H++cs) ix)):=by
  rcases h.st with ⟨rfl,⟨F,hF⟩,hk,hi⟩ | ⟨hd,hdn,hO⟩
  · have hs := hF.s
    have hno:=hF.b.no21 (Nat.le_refl _) hF.L hF.F hF.i ha hal hc hix
    have hfr:∀ c∈Av C.L cs,c∈all:=fun c q=>hc c (Dh cs C.L c q).2
    have hnd:=G8 cs F hF.b.nF
    rw[← Rx cs C.L F hF.b.eq] at hnd
    rcases Aeg hF.b (cs:=cs) (ix:=ix) (fun c q=>by have:=hal c (hc c q);omega) (by omega) (by omega) with ⟨a,b,c,d,e,f⟩ | ⟨_,_,_,_,e⟩ | ⟨a,_,b,c,V,m,G,d,e,f,g⟩
    · refine .inl ⟨a,rfl,fun N2 nw2=>Liv.cr (F:=F++Av C.L cs) ⟨b.rest (by omega),by rw[e];omega,by rw[d];exact hix,(by rw[c];exact fun x q=>(List.mem_append.1 q).elim (hF.L x) (hfr x)),fun x q=>(List.mem_append.1 q).elim (hF.F x) (hfr x)⟩ ha (by rw[c];exact hk.put cs) d⟩
    · exact absurd e hno
    · obtain ⟨D2, o, b2, e1, e2⟩ := Zc (C := C) (cs := cs) (ix := ix) (by rw [a]; decide)
      have hgd:Good D2 (200+200 * (k+1)):=by have:=Xs d;rw[e1] at this;exact this.mono (by omega)
      refine .inr ⟨a,c,(fun q=>by cases q),fun _=>⟨by rw[e1];exact h.cn.dead hgd e2 b2,by rw[e1];exact Yg h.gn e2,.inr ⟨b,c,V,m,G,d.mono (by omega),e,by omega,?_,?_,?_,?_⟩⟩⟩
      · rcases g with ⟨q, _⟩ | ⟨q, _⟩ <;> rw [q]
        · exact hF.b.nF
        · exact hnd
      · rcases g with ⟨q, _⟩ | ⟨q, _⟩ <;> rw [q]
        · exact hF.F
        · exact fun x q=>(List.mem_append.1 q).elim (hF.F x) (hfr x)
      · rcases g with ⟨_, q⟩ | ⟨_, q⟩ <;> rw [q]
        · exact hF.i
        · exact hix
      · rcases g with ⟨q, q2⟩ | ⟨q, q2⟩ <;> rw [q, q2]
        · exact .inl ⟨(KeyE.eqF hF.b.eq).symm.trans hk,hi⟩
        · exact .inr ⟨rfl,(KeyE.put_of hF.b.eq).symm.trans (hk.put cs),rfl⟩
  · have e : putC C cs ix = (C, 20) := by unfold putC; rw [if_pos hd]
    rw[e]
    have hg:=h.cn
    have hcn:CN C (200+200 * (k+1)):=⟨hg.good.mono (by omega),hg.hi,hg.sz,hg.ix,hg.nx,hg.ln,hg.cl⟩
    refine .inr ⟨rfl,hdn,fun q=>?_,fun q=>?_⟩
    · subst q;exact⟨hcn,h.gn,.inr ⟨hd,hdn,hO.le (by omega) (by omega)⟩⟩
    · subst q;exact⟨hcn,h.gn,.inr ⟨hd,hdn,(hO.le (by omega) (by omega)).free _ _ _⟩⟩
theorem Yr (h:CrI all k C H ih may N nw) (hk0:k≤1000) (ha:all.length≤20) (hal:∀ c∈all,c.length≤4000) :
    ((stepF C (srt (C.L.map shaF))).2.2=0∨(stepF C (srt (C.L.map shaF))).2.2=20)∧CrI all (k+1) (stepF C (srt (C.L.map shaF))).1 H ih may N nw:=by
  rcases h.st with ⟨rfl,⟨F,hF⟩,hk,hi⟩ | ⟨hd,hdn,hO⟩
  · have hs := hF.s
    have hno:=hF.b.no21s (Nat.le_refl _) hF.L hF.F hF.i ha hal
    rcases Acr hF.b (by omega) (live:=srt (C.L.map shaF)) U4 (by omega) with ⟨a,b,c,d,_⟩ | ⟨a,⟨G,b,b2⟩,c,d,e,f,g⟩ | ⟨_,_,_,_,e⟩ | ⟨a,_,b,c,V,m,G,d,e,f,g⟩
    · refine ⟨.inl (by rw [a]), Liv.cr (F := F) ⟨b.rest (by omega), ?_, ?_, ?_, hF.F⟩ ha ?_ ?_⟩
      · rw[c];show C.seg≤_;omega
      · rw[c];exact hF.i
      · rw[c];exact hF.L
      · rw[c];exact hk
      · rw[c];exact hi
    · exact⟨.inl (by rw[a]),Liv.cr (F:=G) ⟨b.rest (by omega),by omega,by rw[d];exact hF.i,fun x q=>hF.L x (c.2.2 x q),fun x q=>hF.L x (b2.2.2 x q)⟩ ha (KeyE.live c hk) (d.trans hi)⟩
    · exact absurd e hno
    · obtain ⟨D2, o, b2, e1, e2⟩ := Wi (C := C) (live := srt (C.L.map shaF)) (by rw [a]; decide)
      have hgd:Good D2 (200+200 * (k+1)):=by have:=Xs d;rw[e1] at this;exact this.mono (by omega)
      refine⟨.inr (by rw[a]),by rw[e1];exact h.cn.dead hgd e2 b2,by rw[e1];exact Yg h.gn e2,.inr ⟨b,c,V,m,G,d.mono (by omega),e,?_,?_,?_,by rw[f];exact hF.i,.inl ⟨?_,f.trans hi⟩⟩⟩
      · rcases g with ⟨q,_⟩ | ⟨q,_⟩ <;> omega
      · rcases g with ⟨_, q⟩ | ⟨_, q⟩
        · rw[q];exact hF.b.nF
        · exact q.2.1
      · rcases g with ⟨_, q⟩ | ⟨_, q⟩
        · rw[q];exact hF.F
        · exact fun x hx=>hF.L x (q.2.2 x hx)
      · rcases g with ⟨_, q⟩ | ⟨_, q⟩
        · rw[q];exact(KeyE.eqF hF.b.eq).symm.trans hk
        · exact KeyE.live q hk
  · have e : stepF C (srt (C.L.map shaF)) = (C, false, 20) := by unfold stepF; rw [if_pos hd]
    rw[e]
    have hg:=h.cn
    exact⟨.inr rfl,⟨hg.good.mono (by omega),hg.hi,hg.sz,hg.ix,hg.nx,hg.ln,hg.cl⟩,h.gn,.inr ⟨hd,hdn,hO.le (by omega) (by omega)⟩⟩
theorem Sc {M:Nat} {V:ByteArray→Option Fb} (h:Vw D M i V) {n:Int} (hn:0≤n) (hn2:n≤100) (b:Bool):Vw (failD D n b).1 M i V∧(failD D n b).1.down=D.down:=by
  unfold failD
  by_cases hd:D.down=true
  · rw[if_pos hd];exact⟨h,rfl⟩
  · rw [if_neg hd, if_neg (by omega)]
    exact⟨⟨⟨⟨h.good.ok.rise,h.good.ok.few,h.good.ok.room,h.good.ok.most,by show -1≤n;omega,h.good.ok.safe⟩,h.good.steps,by show n≤_;omega,h.good.names⟩,h.most,h.v⟩,rfl⟩
theorem Uz (h:Onl all i k D H ih may N nw) {n:Int} (hn:0≤n) (hn2:n≤100) (b:Bool):Onl all i k (failD D n b).1 H ih may N nw:=by
  obtain⟨V,m,G,a,c,d⟩:=h
  exact⟨V,m,G,(Sc a hn hn2 b).1,c,d⟩
theorem Aef (h:CrI all k C H ih may N nw) {n:Int} (hn:0≤n) (hn2:n≤100) (b:Bool):CrI all (k+1) { C with D:=(failD C.D n b).1 } H ih may N nw:=by
  have hg:=h.cn
  refine⟨⟨(Zv hg.good n b (by omega)).mono (by omega),hg.hi,hg.sz,hg.ix,hg.nx,hg.ln,hg.cl⟩,h.gn,?_⟩
  rcases h.st with ⟨rfl,⟨F,hF⟩,hk,hi⟩ | ⟨hd,hdn,hO⟩
  · refine .inl ⟨rfl, ⟨F, ⟨?_, by show C.seg ≤ _; have := hF.s; omega, hF.i, hF.L, hF.F⟩⟩, hk, hi⟩
    obtain⟨X,hV,hN⟩:=hF.b.vw
    have hB:=hF.b
    exact⟨⟨X,((Sc hV hn hn2 b).1).mono (by omega),hN⟩,(Sc hV hn hn2 b).2.trans hB.up,hB.ok,hB.hi,hB.sz,hB.cl,hB.eq,hB.nF,hB.nL,hB.cL,hB.dead⟩
  · refine .inr ⟨hd, ?_, (Uz hO hn hn2 b).le (by omega) (by omega)⟩
    show (failD C.D n b).1.down=true
    unfold failD;rw[if_pos hdn];exact hdn
theorem CrI.onl (h:CrI all k C H ih may N nw):Onl all (200+200 * k) k C.D H ih may N nw:=by
  rcases h.st with ⟨rfl,⟨F,hF⟩,hk,hi⟩ | ⟨_,_,hO⟩
  · exact hF.onl hk hi
  · exact hO
theorem Qx (h:Onl all i k D H ih may N nw) (st:List UInt8):Onl all (i+1) k (E5 D st) H ih may N nw∧Up0 (E5 D st):=by
  obtain⟨V,m,G,a,b,c⟩:=h
  obtain⟨V',d,e,f⟩:=Zb a b st
  exact⟨⟨V',m,G,d,e,c⟩,f⟩
theorem Uy (h:Onl all i k D H ih may N nw) (hk:k≤1000) (hd:D.down=false) :
    ((openC D).2=0∧∃ F,Liv all (i+65) k (openC D).1 F∧((KeyE (openC D).1.L H∧(openC D).1.index=ih)∨(may=true∧KeyE (openC D).1.L N∧(openC D).1.index=nw))) ∨
    ((openC D).2=20∧¬ Up0 D∧Onl all (i+65) k (openC D).1.D H ih may N nw):=by
  obtain⟨V,m,G,hV,hR,h1,h2,h3,h4,h5⟩:=h
  rcases Aa4 hV hd hR (by omega) h2 with ⟨a,b,c,d,e,f,g,_⟩ | ⟨a,b,c,V',d,e⟩
  · refine .inl ⟨a, G, ⟨b, by omega, by rw [d]; exact h4, by rw [c]; exact h3, h3⟩, ?_⟩
    rw[c,d];exact h5
  · exact .inr ⟨a,b,V',m,G,d,e,h1,h2,h3,h4,h5⟩
theorem Lc (h:Onl all i k D H ih may N nw):Good D i:=by
  obtain⟨V,m,G,hV,_⟩:=h
  exact hV.good
end
theorem Id (a:Int):0≤IntKind.u64.wrap a:=by
  unfold IntKind.wrap
  simp[IntKind.bits,IntKind.signed]
  omega
section
variable {P : Program} {w : World} {n : Nat} {f : Nat → Value} {x y : Operand} {k : IntKind} {a b : Int} {T T' ty : TypeId} {pos : String} {aft : Array Edge} {dst : Option Nat} {gd : Option (Nat × Bool)}
theorem Aev (hx:ev n f x = .int k a) (hy:ev n f y = .int k b) (h1:¬ b=0):Ex P w n f ⟨dst,.binOp .rem T x y T',ty,pos,aft,gd⟩ (.int k (a.tmod b)) :=
  Cc hx hy (Bs k k) (by simp[binOp,Op.intDiv,if_neg h1])
end
theorem fail_down {D:DS} {n:Int} {b:Bool}:(failD D n b).1.down=D.down:=by
  unfold failD
  split
  · rfl
  · split <;> rfl
def Opd (all:List By) (k:Nat) (C:CS) (H:List By) (ih:By) (may:Bool) (N:List By) (nw:By):Prop :=
  ∃ F,Liv all (200+200 * (k+1)) (k+1) C F∧((KeyE C.L H∧C.index=ih)∨(may=true∧KeyE C.L N∧C.index=nw))
end Go.Proofs.Eng
end
section
set_option maxRecDepth 100000
set_option maxHeartbeats 4000000
namespace Go.Proofs.Eng
open Go.RowKit
open Extern.Stop (cell)
theorem Nh (all:List By) (p q:Option Addr) (n c m c2:Nat) (w:World) (hl:Sl kLo 23 w.heap.size w p n c all) (acts:List CAct) (ha:Sl kCA 26 w.heap.size w q m c2 acts) (hg:Gt w) :
    Ret Tryz.prog 8 [.slice p n c,.slice q m c2] w (fun v w'=>v = .bool true∧Ext w w'):=by
 have hgs:=hg.size
 have hX:=Ext.refl w
 refine eN 183 Tryz.func8 ?_
 refine Ab (Aa ?_)
 refine pA (Ac (t_n (Ab (Ab (Aa ?_)))))
 refine pM (pM ?_)
 refine Ah Tryz.func9 fn9 fb9 (Za _ _ _ _ _ _ (hl.ext hX) _ _ _ _ _ (ha.ext hX)) rfl ?_
 rintro v1 w1 ⟨⟨bf,rfl,hbf⟩,hE1⟩
 have hX:=hX.ext hE1
 refine p1 (Fc rfl) ?_
 refine p1b (Al (by conv=>lhs;whnf)) (fun hb1_4=>?_) (fun hb1_4=>?_)
 ·try simp only[dA,dB,dC,dD,dE,dF,dG,Int.not_lt,Int.not_le] at hb1_4
  refine gF 26 (gF 26 (gF 26 ?_))
  refine p1 (Ap rfl (by conv=>lhs;whnf)) ?_
  refine Ac (t_n ?_)
  refine c_t rfl ?_
  refine Ab (Aa ?_)
  refine Ah Tryz.func11 fn11 fb11 (Ip _ (hg.ext hX)) rfl ?_
  rintro v2 w2 ⟨rfl,hE2⟩
  have hX:=hX.ext hE2
  refine pA (Ac (t_n (Ak (t_r ?_))))
  refine eR1 ?_
  exact⟨rfl,hX⟩
 try simp only[dA,dB,dC,dD,dE,dF,dG,Int.not_lt,Int.not_le] at hb1_4
 have hbt:bf=true:=by simpa using hb1_4
 obtain⟨hf1,hf2,hf3⟩:=hbf hbt
 obtain⟨hle,_⟩:=S3 (l:=all) (by omega)
 have hixs:=Abi (l:=acts.map CAct.index) (by omega)
 have hln:=hl.len
 have hlc:=hl.cap
 have han:=ha.len
 have hac:=ha.cap
 have haf:=ha.fit
 refine gM 26 ?_
 refine B8 26 rfl rfl ?_
 refine Ah Tryz.func10 fn10 fb10 (U5 all _ p n c _ (hl.ext hX) hX.size hle (hg:=hg.ext hX)) rfl ?_
 rintro v3 w3 ⟨⟨ba,rfl,hba⟩,hE3⟩
 have hX:=hX.ext hE3
 refine g1 26 rfl rfl (Fc rfl) ?_
 refine p1 (Aq rfl (by conv=>lhs;whnf)) ?_
 refine Ac (t_n ?_)
 refine Ia rfl (fun hc30=>?_) (fun hc30=>?_)
 ·try simp only[dA,dB,dC,dD,dE,dF,dG,Int.not_lt,Int.not_le] at hc30
  refine Ab (Aa ?_)
  refine Ah Tryz.func11 fn11 fb11 (Ip _ (hg.ext hX)) rfl ?_
  rintro v4 w4 ⟨rfl,hE4⟩
  have hX:=hX.ext hE4
  refine pA (Ac (t_n (Ak (t_r ?_))))
  refine eR1 ?_
  exact⟨rfl,hX⟩
 try simp only[dA,dB,dC,dD,dE,dF,dG,Int.not_lt,Int.not_le] at hc30
 have hap:=hba (by simpa using hc30)
 refine Ai (t_n (Ab (Aa ?_)))
 have hXs1:=hX.size
 refine Ah Tryz.func13 fn13 fb13 (Vp 1048576 _) rfl ?_
 rintro v5 w5 ⟨⟨gd,rfl,hD⟩,hE5⟩
 have hX:=hX.ext hE5
 have hD:Dsk (since w) _ gd (newD 1048576):=hD.mono (fun k _ h=>h.elim False.elim fun q=>Nat.le_trans hXs1 q.1)
 refine pA (Ac (t_n (Ab (Aa ?_))))
 refine pM ?_
 have hXs:=hX.size
 refine Ah Tryz.func12 fn12 fb12 (F4 gd (since w) (newD 1048576) _ hD (Sz 1048576) (by show 0<_;omega) (by show (-1:Int)≤_;omega) (fun x hx=>by cases hx) (fun k h=>Nat.le_trans hgs (show w.heap.size≤k from h)) (hg.ext hX)) rfl ?_
 rintro v6 w6 ⟨⟨pv6,rfl,hor6⟩,hM6⟩
 have hX:=hX.modS hM6 (B3 w)
 obtain⟨hn1,hF1,hL1,hi1⟩:=(Afi (all:=all) (M:=1048576) 1048576 (by rfl)).resolve_right (fun h=>by have:=h.2;omega)
 obtain⟨ho2,gq0,rfl,hC⟩:=hor6.resolve_right (fun h=>h.1 hn1)
 rw[ho2]
 obtain⟨C1,hC1⟩:∃ c,c=(openC (newD 1048576)).1:=⟨_,rfl⟩
 rw[← hC1] at hC hF1 hL1 hi1
 have hC:Cst (since w) w6 gq0 gd C1:=hC.mono (fun j _ h=>h.elim (fun h=>h) fun q=>Nat.le_trans hXs q.1)
 refine pM ?_
 refine p1 (Ao rfl rfl) ?_
 refine p1 (Ao rfl rfl) ?_
 refine pA (pA (Ac (t_n (Ab (Ab (Aa ?_))))))
 refine pM ?_
 refine p1 ((A2 rfl rfl).cast (congrArg Value.bool (decide_eq_false (by simp)))) ?_
 refine pM (gM 40 ?_)
 refine g1 40 rfl rfl ((Bb u30 rfl rfl).cast (congrArg Value.bool (decide_eq_false (by simp)))) ?_
 refine p1 (Aq rfl (by conv=>lhs;whnf)) ?_
 refine Ac (t_n ?_)
 refine c_f rfl ?_
 refine Ai (t_n (Ab (Aa ?_)))
 refine pA (pA (Ac (t_n (Ab (Aa ?_)))))
 refine pA (pA (Ac (t_n (Ab (Aa ?_)))))
 refine pA (Ac (t_n (Ab (Ab (Aa ?_)))))
 refine pA (Ac (t_n (Am ?_)))
 refine Bg (ι:=Nat×CS×Nat×List By×By×Bool×List By×By×Option Addr×Nat×Nat×Option Addr×Nat×Nat×Option Addr×Nat×Nat×Option Addr×Nat×Nat) [4,6,8,9,10,11,12,13,14,15,16,17,18,19,20,21,44,45,46,47,48,49,50,51,52,53,54,55,56,57,58,59,60,61,62,63,64,65,66,67,68,69,70,71,72,73,74,75,76,77,78,79,80,81,82,83,84,85,86,87,88,89,90,91,92,93,94,95,96,97,98,99,100,101,102,103,104,105,106,107,108,109,110,111,112,113,114,115,116,117,118,119,120,121,122,123,124,125,126,127,128,129,130,131,132,133,134,135,136,137,138,139,140,141,142,143,144,145,146,147,148,149,150,151,152,153,154,155,156,157,158,159,160,161,162,163,164,165,166,167,168,169,170,171,172,173,174,175,176,177,178,179,180,181] (fun (k,C,g,H,ih,may,N,nw,qh,nh,ch,qn,nn,cn,qi,mi,cj,qw,mw,cw)=>[(6,.pointer (some ⟨g,0,none⟩)),(8,.slice qh nh ch),(9,.slice qn nn cn),(10,.slice qi mi cj),(11,.slice qw mw cw),(12,.bool may),(13,.int .i64 (k:Int))]) (fun (k,C,g,H,ih,may,N,nw,qh,nh,ch,qn,nn,cn,qi,mi,cj,qw,mw,cw) w'=>Ext w w'∧(k≤m∧Cst (since w) w' g gd C∧CrI all k C H ih may N nw∧(∀ x∈H,x∈all)∧(∀ x∈N,x∈all)∧H.length≤10 * k∧N.length≤10 * k∧Sl kLo 23 w.heap.size w' qh nh ch H∧Sl kLo 23 w.heap.size w' qn nn cn N∧Lo w.heap.size w qi mi cj ih∧Lo w.heap.size w qw mw cw nw)) (fun (k,C,g,H,ih,may,N,nw,qh,nh,ch,qn,nn,cn,qi,mi,cj,qw,mw,cw)=>m - k) ((0,C1,gq0,[],[],false,[],[],none,0,0,none,0,0,none,0,0,none,0,0)) ⟨rfl,rfl,rfl,rfl,rfl,rfl,rfl,trivial⟩ ⟨hX,Nat.zero_le _,hC,Liv.cr (F:=[]) ⟨hF1.b.rest (by omega),hF1.s,hF1.i,hF1.L,hF1.F⟩ hf1 (fun z=>by rw[hL1]) hi1,(fun x h=>by cases h),(fun x h=>by cases h),Nat.zero_le _,Nat.zero_le _,(Own.nil kLo 23 _ 0 _).sl,(Own.nil kLo 23 _ 0 _).sl,Lo.nil _ _,Lo.nil _ _⟩ ?_
 rintro⟨k,C,g,H,ih,may,N,nw,qh,nh,ch,qn,nn,cn,qi,mi,cj,qw,mw,cw⟩ GL0 w7 ⟨hE7,hk,hC,hCr,hHa,hNa,hHl,hNl,hHr,hNr,hI,hJ⟩
 have hX:=hE7
 obtain⟨Sd,r,μ,pi,ni,ci,nx,hCX⟩:=hC
 have hCXr:=hCX
 have hHrr:=hHr
 have hNrr:=hNr
 have hXa:=Ext.refl w7
 have hHn:=hHr.len
 have hNn:=hNr.len
 refine Ab (Ab (Aa ?_))
 refine pM (pM ?_)
 refine p1 (Aj u27 rfl) ?_
 refine p1 (Bx rfl rfl) ?_
 refine Ac (t_n ?_)
 refine As rfl (fun hc47=>?_) (fun hc47=>?_)
 ·try simp only[dA,dB,dC,dD,dE,dF,dG,Int.not_lt,Int.not_le] at hc47
  refine Ai (t_n (Ab (Am (Ab ?_))))
  obtain⟨pa1,na1,ca1,pa2,na2,ca2,pa3,na3,ca3,hra,hr1,hr2,hr3,hb1,hb2⟩:=ha.caAt k (by omega)
  have hak:(acts.getD k default).index.length≤4000:=hixs _ (List.mem_map.2 ⟨_,Cn (z:=default) (xs:=acts) (i:=k) (by omega) rfl,rfl⟩)
  have hku:=(acts.getD k default).k.toNat_lt
  refine Aa ?_
  refine pM (pM ?_)
  refine p1 (Fd u27 sz26 rfl rfl ((ha.ext hX).adr Yc (by omega)) (by omega) (by omega)) ?_
  refine p1 (C9 ua26 rfl (by exact sz26) (fun j v hv=>hX.cell (hra j v hv))) ?_
  have hXs14:=hX.size
  have hXas:=hXa.size
  refine A6 zr26 ?_
  intro w8 g14 hN14
  have hE8:=hN14.ext
  have hX:=hX.ext hE8
  have hCX:=hCX.ext hE8
  have hHr:=hHr.ext hE8
  have hNr:=hNr.ext hE8
  have hXa:=hXa.ext hE8
  have hB14:=hN14.blk
  refine Az rfl (by conv=>lhs;whnf) (by simp[Value.oneCell']) (by exact sz26) hB14 (by rfl) ?_
  intro w9 hP9
  have hX:=hX.put hP9 (by rw[hN14.g_eq];exact hXs14)
  have hCX:=hCXr.ext (hXa.put hP9 (by rw[hN14.g_eq];exact hXas))
  have hHr:=hHrr.ext (hXa.put hP9 (by rw[hN14.g_eq];exact hXas))
  have hNr:=hNrr.ext (hXa.put hP9 (by rw[hN14.g_eq];exact hXas))
  have hB14:=hP9.blk
  refine Ac (t_n (Ab (Aa ?_)))
  refine p1 (Ad Afh sz5 rfl) ?_
  refine p1 (Ae un5 rfl (hB14.cell (rfl))) ?_
  refine p1 (N5 rfl rfl (by omega) (by omega)) ?_
  refine Ac (t_n (Am (Ab (Ab (Aa ?_)))))
  refine p1 (Bn rfl rfl) ?_
  refine pA (Ac (t_n ?_))
  refine As rfl (fun hc93=>?_) (fun hc93=>?_)
  ·try simp only[dA,dB,dC,dD,dE,dF,dG,Int.not_lt,Int.not_le] at hc93
   refine Ai (t_n ?_)
   refine c_t (congrArg Value.bool (decide_eq_true (by omega))) ?_
   refine Ab (Aa ?_)
   refine pM (pM ?_)
   refine Ah Tryz.func30 fn30 fb30 (Hx g gd r _ Sd μ pi nx ni ci C (200+200 * k) _ hCX hCr.cn) rfl ?_
   rintro v10 w10 ⟨⟨qz,mz,cz,rfl,hK⟩,hE10⟩
   have hX:=hX.ext hE10
   have hCX:=hCX.ext hE10
   have hHr:=hHr.ext hE10
   have hNr:=hNr.ext hE10
   have hml:=hK.len
   have hmk:=Aax (C.L.map shaF)
   rw[List.length_map] at hmk
   have hcln:=hCr.cn.ln
   refine Ah Tryz.func29 fn29 fb29 (Oh g gd r (since w) Sd μ pi nx ni ci C (200+200 * k) _ hCX hCr.cn (fun j h=>Nat.le_trans hgs h) (hg.ext hX) (by omega) hCr.gn (srt (C.L.map shaF)) _ _ _ _ hK.sl (by omega)) rfl ?_
   rintro v11 w11 ⟨rfl,hC,hM11⟩
   have hXs2:=hX.size
   have hX:=hX.modS hM11 (B3 w)
   have hHr:=hHr.modS hM11 (B3 w) (by decide)
   have hNr:=hNr.modS hM11 (B3 w) (by decide)
   have hC:Cst (since w) w11 g gd (stepF C (srt (C.L.map shaF))).1:=hC.mono (fun j _ h=>h.elim (fun h=>h) fun q=>Nat.le_trans hXs2 q.1)
   obtain⟨hor2,hCr2⟩:=Yr hCr (by omega) hf1 hle
   obtain⟨C2,hC2⟩:∃ c,c=(stepF C (srt (C.L.map shaF))).1:=⟨_,rfl⟩
   obtain⟨e2,he2⟩:∃ e,e=(stepF C (srt (C.L.map shaF))).2.2:=⟨_,rfl⟩
   rw[← he2] at hor2
   rw[← hC2] at hC hCr2
   rw[← he2]
   refine pM ?_
   refine p1 (Ao rfl rfl) ?_
   refine p1 (Ao rfl rfl) ?_
   refine pA (pA (Ac (t_n (Ab (Aa ?_)))))
   refine pM ?_
   refine p1 (A2 rfl rfl) ?_
   refine p1b (Al (by conv=>lhs;whnf)) (fun hb28_2=>?_) (fun hb28_2=>?_)
   ·try simp only[dA,dB,dC,dD,dE,dF,dG,Int.not_lt,Int.not_le] at hb28_2
    refine gM 105 ?_
    refine g1 105 rfl rfl ((A2 rfl rfl).cast (congrArg Value.bool (decide_eq_false (by omega)))) ?_
    refine p1 (Ap rfl (by conv=>lhs;whnf)) ?_
    refine Ac (t_n ?_)
    refine c_f rfl ?_
    refine Ai (b_n (b_n (t_n (Aa ?_))))
    refine pM ?_
    refine p1 ((Aw rfl rfl (Ag (by omega) (by omega))).cast (congrArg (Value.int .i64) (by omega:_=((k+1:Nat):Int)))) ?_
    refine pA (Ac ?_)
    exact t_n (aK ((k+1,C2,g,H,ih,may,N,nw,qh,nh,ch,qn,nn,cn,qi,mi,cj,qw,mw,cw)) ⟨rfl,rfl,rfl,rfl,rfl,rfl,rfl,trivial⟩ ⟨⟨hX,by omega,hC,hCr2,hHa,hNa,by omega,by omega,hHr,hNr,hI,hJ⟩,by(dsimp only;omega)⟩)
   try simp only[dA,dB,dC,dD,dE,dF,dG,Int.not_lt,Int.not_le] at hb28_2
   refine gF 105 (gF 105 ?_)
   refine p1 (Aq rfl (by conv=>lhs;whnf)) ?_
   refine Ac (t_n ?_)
   refine c_f rfl ?_
   refine Ai (b_n (b_n (t_n (Aa ?_))))
   refine pM ?_
   refine p1 ((Aw rfl rfl (Ag (by omega) (by omega))).cast (congrArg (Value.int .i64) (by omega:_=((k+1:Nat):Int)))) ?_
   refine pA (Ac ?_)
   exact t_n (aK ((k+1,C2,g,H,ih,may,N,nw,qh,nh,ch,qn,nn,cn,qi,mi,cj,qw,mw,cw)) ⟨rfl,rfl,rfl,rfl,rfl,rfl,rfl,trivial⟩ ⟨⟨hX,by omega,hC,hCr2,hHa,hNa,by omega,by omega,hHr,hNr,hI,hJ⟩,by(dsimp only;omega)⟩)
  try simp only[dA,dB,dC,dD,dE,dF,dG,Int.not_lt,Int.not_le] at hc93
  refine Aa ?_
  refine p1 (Bn rfl rfl) ?_
  refine pA (Ac (t_n ?_))
  refine As rfl (fun hc93=>?_) (fun hc93=>?_)
  ·try simp only[dA,dB,dC,dD,dE,dF,dG,Int.not_lt,Int.not_le] at hc93
   refine Ab (Aa ?_)
   refine pM (pM ?_)
   refine Ah Tryz.func30 fn30 fb30 (Hx g gd r _ Sd μ pi nx ni ci C (200+200 * k) _ hCX hCr.cn) rfl ?_
   rintro v12 w12 ⟨⟨qz,mz,cz,rfl,hK⟩,hE12⟩
   have hX:=hX.ext hE12
   have hCX:=hCX.ext hE12
   have hHr:=hHr.ext hE12
   have hNr:=hNr.ext hE12
   have hml:=hK.len
   have hmk:=Aax (C.L.map shaF)
   rw[List.length_map] at hmk
   have hcln:=hCr.cn.ln
   refine Ah Tryz.func29 fn29 fb29 (Oh g gd r (since w) Sd μ pi nx ni ci C (200+200 * k) _ hCX hCr.cn (fun j h=>Nat.le_trans hgs h) (hg.ext hX) (by omega) hCr.gn (srt (C.L.map shaF)) _ _ _ _ hK.sl (by omega)) rfl ?_
   rintro v13 w13 ⟨rfl,hC,hM13⟩
   have hXs2:=hX.size
   have hX:=hX.modS hM13 (B3 w)
   have hHr:=hHr.modS hM13 (B3 w) (by decide)
   have hNr:=hNr.modS hM13 (B3 w) (by decide)
   have hC:Cst (since w) w13 g gd (stepF C (srt (C.L.map shaF))).1:=hC.mono (fun j _ h=>h.elim (fun h=>h) fun q=>Nat.le_trans hXs2 q.1)
   obtain⟨hor2,hCr2⟩:=Yr hCr (by omega) hf1 hle
   obtain⟨C2,hC2⟩:∃ c,c=(stepF C (srt (C.L.map shaF))).1:=⟨_,rfl⟩
   obtain⟨e2,he2⟩:∃ e,e=(stepF C (srt (C.L.map shaF))).2.2:=⟨_,rfl⟩
   rw[← he2] at hor2
   rw[← hC2] at hC hCr2
   rw[← he2]
   refine pM ?_
   refine p1 (Ao rfl rfl) ?_
   refine p1 (Ao rfl rfl) ?_
   refine pA (pA (Ac (t_n (Ab (Aa ?_)))))
   refine pM ?_
   refine p1 (A2 rfl rfl) ?_
   refine p1b (Al (by conv=>lhs;whnf)) (fun hb28_2=>?_) (fun hb28_2=>?_)
   ·try simp only[dA,dB,dC,dD,dE,dF,dG,Int.not_lt,Int.not_le] at hb28_2
    refine gM 105 ?_
    refine g1 105 rfl rfl ((A2 rfl rfl).cast (congrArg Value.bool (decide_eq_false (by omega)))) ?_
    refine p1 (Ap rfl (by conv=>lhs;whnf)) ?_
    refine Ac (t_n ?_)
    refine c_f rfl ?_
    refine Ai (b_n (b_n (t_n (Aa ?_))))
    refine pM ?_
    refine p1 ((Aw rfl rfl (Ag (by omega) (by omega))).cast (congrArg (Value.int .i64) (by omega:_=((k+1:Nat):Int)))) ?_
    refine pA (Ac ?_)
    exact t_n (aK ((k+1,C2,g,H,ih,may,N,nw,qh,nh,ch,qn,nn,cn,qi,mi,cj,qw,mw,cw)) ⟨rfl,rfl,rfl,rfl,rfl,rfl,rfl,trivial⟩ ⟨⟨hX,by omega,hC,hCr2,hHa,hNa,by omega,by omega,hHr,hNr,hI,hJ⟩,by(dsimp only;omega)⟩)
   try simp only[dA,dB,dC,dD,dE,dF,dG,Int.not_lt,Int.not_le] at hb28_2
   refine gF 105 (gF 105 ?_)
   refine p1 (Aq rfl (by conv=>lhs;whnf)) ?_
   refine Ac (t_n ?_)
   refine c_f rfl ?_
   refine Ai (b_n (b_n (t_n (Aa ?_))))
   refine pM ?_
   refine p1 ((Aw rfl rfl (Ag (by omega) (by omega))).cast (congrArg (Value.int .i64) (by omega:_=((k+1:Nat):Int)))) ?_
   refine pA (Ac ?_)
   exact t_n (aK ((k+1,C2,g,H,ih,may,N,nw,qh,nh,ch,qn,nn,cn,qi,mi,cj,qw,mw,cw)) ⟨rfl,rfl,rfl,rfl,rfl,rfl,rfl,trivial⟩ ⟨⟨hX,by omega,hC,hCr2,hHa,hNa,by omega,by omega,hHr,hNr,hI,hJ⟩,by(dsimp only;omega)⟩)
  try simp only[dA,dB,dC,dD,dE,dF,dG,Int.not_lt,Int.not_le] at hc93
  refine Ab (Aa ?_)
  refine p1 (Bn rfl rfl) ?_
  refine pA (Ac (t_n ?_))
  refine As rfl (fun hc109=>?_) (fun hc109=>?_)
  ·try simp only[dA,dB,dC,dD,dE,dF,dG,Int.not_lt,Int.not_le] at hc109
   refine Aa ?_
   refine pM ?_
   refine p1 (Ad Xd sz3 rfl) ?_
   refine p1 (Ae un3 rfl (hB14.cell (rfl))) ?_
   refine p1 (Hb u86 us3 rfl) ?_
   refine p1 (N5 rfl rfl (Id _) (by omega)) ?_
   refine p1 (Cs u3 us86 rfl (Ag (by have:=Id (acts.getD k default).n;omega) (by have:=Id (acts.getD k default).n;omega))) ?_
   refine p1 (Ad Aca sz4 rfl) ?_
   refine p1 (Ae un4 rfl (hB14.cell (rfl))) ?_
   have hu:=Id (acts.getD k default).n
   obtain⟨nf,hnf⟩:∃ x,x=IntKind.u64.wrap (acts.getD k default).n % 16:=⟨_,rfl⟩
   have hnf0:0≤nf:=by omega
   have hnf1:nf≤100:=by omega
   rw[← hnf]
   have hXs:=hX.size
   refine Ah Tryz.func24 fn24 fb24 (R5 gd Sd C.D _ hCX.d hCr.cn.good.ok (Nat.lt_of_le_of_lt hCr.cn.good.steps (by omega)) hCr.cn.good.left nf (by omega) (by omega) (acts.getD k default).done) rfl ?_
   rintro v14 w14 ⟨rfl,hD2,hM2⟩
   have hsub:=hCX.sub
   have hC:=((hCX.start).stepD (Nat.le_refl _) hM2 hD2).done
   have hC:Cst (since w) w14 g gd { C with D:=(failD C.D nf (acts.getD k default).done).1 }:=hC.mono (fun j _ h=>h.elim (fun h=>h) fun q=>Nat.le_trans hXs q.1)
   have hX:=hX.modS hM2 (fun j h=>hsub j h)
   have hHr:=hHr.modS hM2 (fun j h=>hsub j h) (by decide)
   have hNr:=hNr.modS hM2 (fun j h=>hsub j h) (by decide)
   have hCr2:=Aef hCr hnf0 hnf1 (acts.getD k default).done
   obtain⟨C2,hC2⟩:∃ c,c=({ C with D:=(failD C.D nf (acts.getD k default).done).1 }:CS):=⟨_,rfl⟩
   rw[← hC2] at hC hCr2
   refine Ac (b_n (b_n (t_n (Aa ?_))))
   refine pM ?_
   refine p1 ((Aw rfl rfl (Ag (by omega) (by omega))).cast (congrArg (Value.int .i64) (by omega:_=((k+1:Nat):Int)))) ?_
   refine pA (Ac ?_)
   exact t_n (aK ((k+1,C2,g,H,ih,may,N,nw,qh,nh,ch,qn,nn,cn,qi,mi,cj,qw,mw,cw)) ⟨rfl,rfl,rfl,rfl,rfl,rfl,rfl,trivial⟩ ⟨⟨hX,by omega,hC,hCr2,hHa,hNa,by omega,by omega,hHr,hNr,hI,hJ⟩,by(dsimp only;omega)⟩)
  try simp only[dA,dB,dC,dD,dE,dF,dG,Int.not_lt,Int.not_le] at hc109
  refine Ab (Aa ?_)
  refine p1 (Bn rfl rfl) ?_
  refine pA (Ac (t_n ?_))
  refine As rfl (fun hc120=>?_) (fun hc120=>?_)
  ·try simp only[dA,dB,dC,dD,dE,dF,dG,Int.not_lt,Int.not_le] at hc120
   refine Ab (Aa ?_)
   refine pM ?_
   refine p1 (Ad Ab9 sz23 rfl) ?_
   refine p1 (Ae un23 rfl (hB14.cell (rfl))) ?_
   have hsub:=hCX.sub
   obtain⟨D1,hD1e⟩:∃ d,d=E5 C.D (acts.getD k default).keep:=⟨_,rfl⟩
   have hXs:=hX.size
   refine Ah Tryz.func42 fn42 fb42 (Pv gd Sd C.D _ hCX.d hCr.cn.good.ok (acts.getD k default).keep pa3 na3 ca3 (Out.ofSl (hr3.ext hX).sl5 (fun hne h=>by have:=hr3.low hne;have h3:=hsub _ h;have h3:w.heap.size≤ab pa3:=h3;omega))) rfl ?_
   rintro v15 w15 ⟨hD2,hM2⟩
   rw[← hD1e] at hD2
   have hD:Dsk (since w) w15 gd D1:=hD2.mono (fun j _ h=>h.elim (fun h=>hsub j h) fun q=>Nat.le_trans hXs q.1)
   have hX:=hX.modS hM2 (fun j h=>hsub j h)
   have hHr:=hHr.modS hM2 (fun j h=>hsub j h) (by decide)
   have hNr:=hNr.modS hM2 (fun j h=>hsub j h) (by decide)
   have hB14:=hB14.modS hM2 (.inr (by decide))
   obtain⟨hOn,hUp⟩:=Qx hCr.onl (acts.getD k default).keep
   rw[← hD1e] at hOn hUp
   have hOn:Onl all (200+200 * k+1) (k+1) D1 H ih may N nw:=hOn.le (by omega) (by omega)
   have hdn:D1.down=false:=hUp.1
   refine Ac (t_n (Ab (Ab (Aa ?_))))
   refine p1 (Ad Xd sz3 rfl) ?_
   refine p1 (Ae un3 rfl (hB14.cell (rfl))) ?_
   refine p1 (Aev rfl rfl (by omega)) ?_
   refine p1 (Bn rfl rfl) ?_
   refine Ac (t_n ?_)
   refine F6 (ι:=DS) [130,131,132,133,134,135,136,137,138] (fun D1=>[]) (fun D1 w'=>Ext w w'∧(Dsk (since w) w' gd D1∧Onl all (200+200 * k+1) (k+1) D1 H ih may N nw∧D1.down=false∧Sl kLo 23 w.heap.size w' qh nh ch H∧Sl kLo 23 w.heap.size w' qn nn cn N∧Blk w' g14 #[.int .u8 ((acts.getD k default).k.toNat:Int),.slice pa1 na1 ca1,.slice pa2 na2 ca2,.int .i64 (acts.getD k default).n,.bool (acts.getD k default).done,.slice pa3 na3 ca3] 26)) ?_ ?_
   ·skip
    refine As rfl (fun hc129=>?_) (fun hc129=>?_)
    ·try simp only[dA,dB,dC,dD,dE,dF,dG,Int.not_lt,Int.not_le] at hc129
     refine Aa ?_
     refine pM ?_
     refine p1 (Ad Xd sz3 rfl) ?_
     refine p1 (Ae un3 rfl (hB14.cell (rfl))) ?_
     refine p1 (Hb u86 us3 rfl) ?_
     refine p1 (N5 rfl rfl (Id _) (by omega)) ?_
     refine p1 (Cs u3 us86 rfl (Ag (by have:=Id (acts.getD k default).n;omega) (by have:=Id (acts.getD k default).n;omega))) ?_
     refine p1 (Ad Aca sz4 rfl) ?_
     refine p1 (Ae un4 rfl (hB14.cell (rfl))) ?_
     have hu:=Id (acts.getD k default).n
     obtain⟨nf,hnf⟩:∃ x,x=IntKind.u64.wrap (acts.getD k default).n % 8:=⟨_,rfl⟩
     have hnf0:0≤nf:=by omega
     have hnf1:nf≤100:=by omega
     rw[← hnf]
     have hXs:=hX.size
     have hgd:=Lc hOn
     refine Ah Tryz.func24 fn24 fb24 (R5 gd (since w) D1 _ hD hgd.ok (Nat.lt_of_le_of_lt hgd.steps (by omega)) hgd.left nf (by omega) (by omega) (acts.getD k default).done) rfl ?_
     rintro v17 w17 ⟨rfl,hD2,hM2⟩
     have hD:Dsk (since w) w17 gd (failD D1 nf (acts.getD k default).done).1:=hD2.all (B3 w) hXs
     have hX:=hX.modS hM2 (B3 w)
     have hHr:=hHr.modS hM2 (B3 w) (by decide)
     have hNr:=hNr.modS hM2 (B3 w) (by decide)
     have hB14:=hB14.modS hM2 (.inr (by decide))
     have hOn:=Uz hOn hnf0 hnf1 (acts.getD k default).done
     have hdn:(failD D1 nf (acts.getD k default).done).1.down=false:=fail_down.trans hdn
     obtain⟨D3,hD3⟩:∃ d,d=(failD D1 nf (acts.getD k default).done).1:=⟨_,rfl⟩
     rw[← hD3] at hD hOn hdn
     clear hD3
     obtain⟨D1,rfl⟩:∃ d,d=D3:=⟨_,rfl⟩
     refine Ac ?_
     refine t_n (aK (D1) trivial ?_)
     exact⟨hX,hD,hOn,hdn,hHr,hNr,hB14⟩
    try simp only[dA,dB,dC,dD,dE,dF,dG,Int.not_lt,Int.not_le] at hc129
    refine Ai ?_
    refine t_n (aK (D1) trivial ?_)
    exact⟨hX,hD,hOn,hdn,hHr,hNr,hB14⟩
   rintro D1 Gcutif129 w16 ⟨hE16,hD,hOn,hdn,hHr,hNr,hB14⟩
   have hX:=hE16
   refine t_n (Ab (Aa ?_))
   refine pM ?_
   have hgd:=Lc hOn
   have hXs:=hX.size
   refine Ah Tryz.func12 fn12 fb12 (F4 gd (since w) D1 _ hD hgd.ok (Nat.lt_of_le_of_lt hgd.steps (by omega)) hgd.left hgd.names (fun j h=>Nat.le_trans hgs (show w.heap.size≤j from h)) (hg.ext hX)) rfl ?_
   rintro v18 w18 ⟨⟨pv18,rfl,hor18⟩,hM18⟩
   have hX:=hX.modS hM18 (B3 w)
   have hHr:=hHr.modS hM18 (B3 w) (by decide)
   have hNr:=hNr.modS hM18 (B3 w) (by decide)
   have hB14:=hB14.modS hM18 (.inr (by decide))
   have hop:=Uy hOn (by omega) hdn
   obtain⟨C2,hC2⟩:∃ c,c=(openC D1).1:=⟨_,rfl⟩
   obtain⟨e2,he2⟩:∃ e,e=(openC D1).2:=⟨_,rfl⟩
   rw[← hC2,← he2] at hop hor18
   rw[← he2]
   have hpo:∃ po,pv18 = .pointer po∧((e2=0∧∃ g2 C2,po=some ⟨g2,0,none⟩∧Cst (since w) w18 g2 gd C2∧Opd all k C2 H ih may N nw)∨(e2=20∧(0:Nat)=0∧po=none∧∃ D2,Dsk (since w) w18 gd D2∧Onl all (200+200 * k+80) (k+1) D2 H ih may N nw)):=by
     rcases hop with ⟨a,F,b,c⟩ | ⟨a,_,b⟩
     · obtain ⟨_, g2, e, h3⟩ := hor18.resolve_right (fun h => h.1 a)
       exact⟨_,e,.inl ⟨a,g2,C2,rfl,h3.mono (fun j _ h=>h.elim (fun h=>h) fun q=>Nat.le_trans hXs q.1),F,b.le (by omega) (by omega),c⟩⟩
     · obtain ⟨_, e, h3⟩ := hor18.resolve_left (fun h => by have := h.1; omega)
       exact⟨_,e,.inr ⟨a,rfl,rfl,C2.D,h3.all (B3 w) hXs,b.le (by omega) (by omega)⟩⟩
   obtain⟨po,rfl,hpo⟩:=hpo
   refine pM ?_
   refine p1 (Ao rfl rfl) ?_
   refine p1 (Ao rfl rfl) ?_
   refine pA (pA (Ac (t_n (Ab (Ab (Aa ?_))))))
   refine pA (Ac (t_n ?_))
   refine F6 (ι:=Nat×CS) [17,18,19,144,145,146,147,148,149,150,151,152,153,154,155,156,157,158,159,160] (fun (g2,C2)=>[(17,.pointer (some ⟨g2,0,none⟩)),(18,.int .i64 0)]) (fun (g2,C2) w'=>Ext w w'∧(Cst (since w) w' g2 gd C2∧Opd all k C2 H ih may N nw∧Sl kLo 23 w.heap.size w' qh nh ch H∧Sl kLo 23 w.heap.size w' qn nn cn N∧Blk w' g14 #[.int .u8 ((acts.getD k default).k.toNat:Int),.slice pa1 na1 ca1,.slice pa2 na2 ca2,.int .i64 (acts.getD k default).n,.bool (acts.getD k default).done,.slice pa3 na3 ca3] 26)) ?_ ?_
   ·refine Am ?_
    refine Bg (ι:=Nat×Int×Option Addr) [17,18,19,144,145,146,147,148,149,150,151,152,153,154,155,156,157,158,159,160] (fun (tu,e,po)=>[(17,.pointer po),(18,.int .i64 e),(19,.int .i64 (tu:Int))]) (fun (tu,e,po) w'=>Ext w w'∧(Sl kLo 23 w.heap.size w' qh nh ch H∧Sl kLo 23 w.heap.size w' qn nn cn N∧Blk w' g14 #[.int .u8 ((acts.getD k default).k.toNat:Int),.slice pa1 na1 ca1,.slice pa2 na2 ca2,.int .i64 (acts.getD k default).n,.bool (acts.getD k default).done,.slice pa3 na3 ca3] 26∧((e=0∧∃ g2 C2,po=some ⟨g2,0,none⟩∧Cst (since w) w' g2 gd C2∧Opd all k C2 H ih may N nw)∨(e=20∧tu=0∧po=none∧∃ D2,Dsk (since w) w' gd D2∧Onl all (200+200 * k+80) (k+1) D2 H ih may N nw)))) (fun (tu,e,po)=>3 - tu) ((0,e2,po)) ⟨rfl,rfl,rfl,trivial⟩ ⟨hX,hHr,hNr,hB14,hpo⟩ ?_
    rintro⟨tu,e,po⟩ GL3 w20 ⟨hE20,hHr,hNr,hB14,hS⟩
    have hX:=hE20
    refine Ab (Ab (Aa ?_))
    refine pM ?_
    refine p1 (Bn rfl rfl) ?_
    refine p1b (Al (by conv=>lhs;whnf)) (fun hb38_2=>?_) (fun hb38_2=>?_)
    ·try simp only[dA,dB,dC,dD,dE,dF,dG,Int.not_lt,Int.not_le] at hb38_2
     refine gM 146 ?_
     refine g1 146 rfl rfl (Bx rfl rfl) ?_
     refine p1 (Ap rfl (by conv=>lhs;whnf)) ?_
     refine Ac (t_n ?_)
     refine As rfl (fun hc149=>?_) (fun hc149=>?_)
     ·try simp only[dA,dB,dC,dD,dE,dF,dG,Int.not_lt,Int.not_le] at hc149
      obtain⟨hee,htu,hpo2,D2,hD,hOn⟩:=hS.resolve_left (fun h=>by have:=h.1;omega)
      have hgD:=Lc hOn
      refine Ai (t_n (Ab (Am (Ab (Aa ?_)))))
      refine pM ?_
      refine p1 (Ad Ab9 sz23 rfl) ?_
      refine p1 (Ae un23 rfl (hB14.cell (rfl))) ?_
      have hsub:∀ j,since w j→since w j:=fun _ h=>h
      obtain⟨D1,hD1e⟩:∃ d,d=E5 D2 (acts.getD k default).keep:=⟨_,rfl⟩
      have hXs:=hX.size
      refine Ah Tryz.func42 fn42 fb42 (Pv gd (since w) D2 _ hD hgD.ok (acts.getD k default).keep pa3 na3 ca3 (Out.ofSl (hr3.ext hX).sl5 (fun hne h=>by have:=hr3.low hne;have h3:=hsub _ h;have h3:w.heap.size≤ab pa3:=h3;omega))) rfl ?_
      rintro v21 w21 ⟨hD2,hM2⟩
      rw[← hD1e] at hD2
      have hD:Dsk (since w) w21 gd D1:=hD2.mono (fun j _ h=>h.elim (fun h=>hsub j h) fun q=>Nat.le_trans hXs q.1)
      have hX:=hX.modS hM2 (fun j h=>hsub j h)
      have hHr:=hHr.modS hM2 (fun j h=>hsub j h) (by decide)
      have hNr:=hNr.modS hM2 (fun j h=>hsub j h) (by decide)
      have hB14:=hB14.modS hM2 (.inr (by decide))
      obtain⟨hOn,hUp⟩:=Qx hOn (acts.getD k default).keep
      rw[← hD1e] at hOn hUp
      have hOn:Onl all (200+200 * k+81) (k+1) D1 H ih may N nw:=hOn.le (by omega) (by omega)
      have hdn:D1.down=false:=hUp.1
      refine Ac (t_n (Aa ?_))
      refine pM ?_
      have hgd:=Lc hOn
      have hXs:=hX.size
      refine Ah Tryz.func12 fn12 fb12 (F4 gd (since w) D1 _ hD hgd.ok (Nat.lt_of_le_of_lt hgd.steps (by omega)) hgd.left hgd.names (fun j h=>Nat.le_trans hgs (show w.heap.size≤j from h)) (hg.ext hX)) rfl ?_
      rintro v22 w22 ⟨⟨pv22,rfl,hor22⟩,hM22⟩
      have hX:=hX.modS hM22 (B3 w)
      have hHr:=hHr.modS hM22 (B3 w) (by decide)
      have hNr:=hNr.modS hM22 (B3 w) (by decide)
      have hB14:=hB14.modS hM22 (.inr (by decide))
      have hop:=Uy hOn (by omega) hdn
      obtain⟨ha0,F3,hLv3,hlt3⟩:=hop.resolve_right (fun h=>h.2.1 hUp)
      obtain⟨_,g3,rfl,h3⟩:=hor22.resolve_right (fun h=>h.1 ha0)
      rw[ha0]
      have hC:Cst (since w) w22 g3 gd (openC D1).1:=h3.mono (fun j _ h=>h.elim (fun h=>h) fun q=>Nat.le_trans hXs q.1)
      have hOp:Opd all k (openC D1).1 H ih may N nw:=⟨F3,hLv3.le (by omega) (by omega),hlt3⟩
      refine pM ?_
      refine p1 (Ao rfl rfl) ?_
      refine p1 (Ao rfl rfl) ?_
      refine pA (pA (Ac (b_n (t_n (Aa ?_)))))
      refine pM ?_
      refine p1 ((Aw rfl rfl (Ag (by omega) (by omega))).cast (congrArg (Value.int .i64) (by omega:_=((tu+1:Nat):Int)))) ?_
      refine pA (Ac ?_)
      refine t_n (aK ((tu+1,0,some ⟨g3,0,none⟩)) ⟨rfl,rfl,rfl,trivial⟩ ?_)
      exact⟨⟨hX,hHr,hNr,hB14,.inl ⟨rfl,g3,_,rfl,hC,hOp⟩⟩,by(dsimp only;omega)⟩
     try simp only[dA,dB,dC,dD,dE,dF,dG,Int.not_lt,Int.not_le] at hc149
     refine Ba (t_e (t_e (Bu ?_)))
     have he0:e=0:=by
       rcases hS with ⟨h,_⟩ | ⟨h,h2,_⟩
       · exact h
       · exfalso
         omega
     obtain⟨_,g2,C2,hpo2,hC,hOp⟩:=hS.resolve_right (fun h=>by have:=h.1;omega)
     subst hpo2
     subst he0
     refine t_n (aK ((g2,C2)) ⟨rfl,rfl,trivial⟩ ?_)
     exact⟨hX,hC,hOp,hHr,hNr,hB14⟩
    try simp only[dA,dB,dC,dD,dE,dF,dG,Int.not_lt,Int.not_le] at hb38_2
    refine gF 146 (gF 146 ?_)
    refine p1 (Aq rfl (by conv=>lhs;whnf)) ?_
    refine Ac (t_n ?_)
    refine c_f rfl ?_
    refine Ba (t_e (t_e (Bu ?_)))
    have he0:e=0:=by
      rcases hS with ⟨h,_⟩ | ⟨h,h2,_⟩
      · exact h
      · exfalso
        omega
    obtain⟨_,g2,C2,hpo2,hC,hOp⟩:=hS.resolve_right (fun h=>by have:=h.1;omega)
    subst hpo2
    subst he0
    refine t_n (aK ((g2,C2)) ⟨rfl,rfl,trivial⟩ ?_)
    exact⟨hX,hC,hOp,hHr,hNr,hB14⟩
   rintro⟨g2,C2⟩ Gcut3 w19 ⟨hE19,hC,hOp,hHr,hNr,hB14⟩
   have hX:=hE19
   refine t_n (Ab (Ab ?_))
   obtain⟨F2,hLv2,halt⟩:=hOp
   have hcn2:=hLv2.cn hf1
   obtain⟨Sd2,r2,μ2,pi2,ni2,ci2,nx2,hCX2⟩:=hC
   refine Aa ?_
   refine pM ?_
   refine p1 ((A2 rfl rfl).cast (congrArg Value.bool (decide_eq_false (by simp)))) ?_
   refine pM (gM 163 ?_)
   refine g1 163 rfl rfl ((Bb u30 rfl rfl).cast (congrArg Value.bool (decide_eq_false (by simp)))) ?_
   refine p1 (Aq rfl (by conv=>lhs;whnf)) ?_
   refine Ac (t_n ?_)
   refine c_f rfl ?_
   refine Ai (t_n (Ab (Aa ?_)))
   refine pM (pA (Ac (t_n (Ab (Ab (Aa ?_))))))
   refine pM ?_
   refine p1b (Al (by conv=>lhs;whnf)) (fun hb45_1=>?_) (fun hb45_1=>?_)
   ·try simp only[dA,dB,dC,dD,dE,dF,dG,Int.not_lt,Int.not_le] at hb45_1
    refine gM 169 (gM 169 (gM 169 ?_))
    refine B8 169 rfl rfl ?_
    refine Ah Tryz.func16 fn16 fb16 (J4 g2 gd r2 _ Sd2 μ2 pi2 nx2 ni2 ci2 C2 (200+200 * (k+1)) _ hCX2 hcn2 (hg.ext hX) N _ qn nn cn hNr hX.size (by omega) (fun x hx=>by have:=hle x (hNa x hx);omega) _ _ _ _ _ _ (hJ.ext hX).sl5) rfl ?_
    rintro v23 w23 ⟨⟨bh,rfl,hbh⟩,hE23⟩
    have hX:=hX.ext hE23
    have hHr:=hHr.ext hE23
    have hNr:=hNr.ext hE23
    have hCX2:=hCX2.ext hE23
    refine p1 (Ap rfl (by conv=>lhs;whnf)) ?_
    refine Ac (t_n ?_)
    refine Ia rfl (fun hc174=>?_) (fun hc174=>?_)
    ·try simp only[dA,dB,dC,dD,dE,dF,dG,Int.not_lt,Int.not_le] at hc174
     have hHas:HasP C2 N nw:=hbh.1 hc174
     have hCr2:CrI all (k+1) C2 N nw false N nw:=hLv2.cr hf1 (KeyE.of hHas.2.1) hHas.2.2
     have hHas2:=hHas
     have hHr2:=hNr
     have hI2:=hJ
     have hHa2:=hNa
     have hHl2:N.length≤10 * (k+1):=by omega
     have hHn2:=hNn
     refine Aa ?_
     refine pM (pM (pA (pA (Ac (t_n (Ab (Aa ?_)))))))
     refine pA (Ac (t_n (Ab (Aa ?_))))
     refine pM (pM (pM ?_))
     refine Ah Tryz.func16 fn16 fb16 (J4 g2 gd r2 _ Sd2 μ2 pi2 nx2 ni2 ci2 C2 (200+200 * (k+1)) _ hCX2 hcn2 (hg.ext hX) _ _ _ _ _ hHr2 hX.size (by omega) (fun x hx=>by have:=hle x (hHa2 x hx);omega) _ _ _ _ _ _ (hI2.ext hX).sl5) rfl ?_
     rintro v24 w24 ⟨⟨bg,rfl,hbg⟩,hE24⟩
     have hX:=hX.ext hE24
     have hNr:=hNr.ext hE24
     have hbt2:bg=true:=hbg.2 hHas2
     subst hbt2
     have hC:=(hCX2.ext hE24).fin
     refine p1 (Fc rfl) ?_
     refine Ac (t_n ?_)
     refine c_f rfl ?_
     refine Ai (b_n (b_n (t_n (Aa ?_))))
     refine pM ?_
     refine p1 ((Aw rfl rfl (Ag (by omega) (by omega))).cast (congrArg (Value.int .i64) (by omega:_=((k+1:Nat):Int)))) ?_
     refine pA (Ac ?_)
     exact t_n (aK ((k+1,C2,g2,N,nw,false,N,nw,qn,nn,cn,qn,nn,cn,qw,mw,cw,qw,mw,cw)) ⟨rfl,rfl,rfl,rfl,rfl,rfl,rfl,trivial⟩ ⟨⟨hX,by omega,hC,hCr2,hNa,hNa,by omega,by omega,hNr,hNr,hJ,hJ⟩,by(dsimp only;omega)⟩)
    try simp only[dA,dB,dC,dD,dE,dF,dG,Int.not_lt,Int.not_le] at hc174
    have halt1:=halt.resolve_right (fun h=>by
      have h5:=Ns hap hLv2.L hNa h.2.1
      rw[h.2.2] at h5
      (have h6:=hbh.2 h5;subst h6;cases hc174;done))
    have hCr2:CrI all (k+1) C2 H ih false N nw:=hLv2.cr hf1 halt1.1 halt1.2
    have hHas2:=Ns hap hLv2.L hHa halt1.1
    rw[halt1.2] at hHas2
    have hHr2:=hHr
    have hI2:=hI
    have hHa2:=hHa
    have hHl2:H.length≤10 * (k+1):=by omega
    have hHn2:=hHn
    refine Ai (t_n (Ab (Aa ?_)))
    refine pA (Ac (t_n (Ab (Aa ?_))))
    refine pM (pM (pM ?_))
    refine Ah Tryz.func16 fn16 fb16 (J4 g2 gd r2 _ Sd2 μ2 pi2 nx2 ni2 ci2 C2 (200+200 * (k+1)) _ hCX2 hcn2 (hg.ext hX) _ _ _ _ _ hHr2 hX.size (by omega) (fun x hx=>by have:=hle x (hHa2 x hx);omega) _ _ _ _ _ _ (hI2.ext hX).sl5) rfl ?_
    rintro v25 w25 ⟨⟨bg,rfl,hbg⟩,hE25⟩
    have hX:=hX.ext hE25
    have hHr:=hHr.ext hE25
    have hNr:=hNr.ext hE25
    have hbt2:bg=true:=hbg.2 hHas2
    subst hbt2
    have hC:=(hCX2.ext hE25).fin
    refine p1 (Fc rfl) ?_
    refine Ac (t_n ?_)
    refine c_f rfl ?_
    refine Ai (b_n (b_n (t_n (Aa ?_))))
    refine pM ?_
    refine p1 ((Aw rfl rfl (Ag (by omega) (by omega))).cast (congrArg (Value.int .i64) (by omega:_=((k+1:Nat):Int)))) ?_
    refine pA (Ac ?_)
    exact t_n (aK ((k+1,C2,g2,H,ih,false,N,nw,qh,nh,ch,qn,nn,cn,qi,mi,cj,qw,mw,cw)) ⟨rfl,rfl,rfl,rfl,rfl,rfl,rfl,trivial⟩ ⟨⟨hX,by omega,hC,hCr2,hHa,hNa,by omega,by omega,hHr,hNr,hI,hJ⟩,by(dsimp only;omega)⟩)
   try simp only[dA,dB,dC,dD,dE,dF,dG,Int.not_lt,Int.not_le] at hb45_1
   refine gF 169 (gF 169 (gF 169 (gF 169 ?_)))
   refine p1 (Aq rfl (by conv=>lhs;whnf)) ?_
   refine Ac (t_n ?_)
   refine c_f rfl ?_
   have halt1:=halt.resolve_right (fun h=>by
     have h5:=Ns hap hLv2.L hNa h.2.1
     rw[h.2.2] at h5
     (rw[hb45_1] at h;cases h.1))
   have hCr2:CrI all (k+1) C2 H ih false N nw:=hLv2.cr hf1 halt1.1 halt1.2
   have hHas2:=Ns hap hLv2.L hHa halt1.1
   rw[halt1.2] at hHas2
   have hHr2:=hHr
   have hI2:=hI
   have hHa2:=hHa
   have hHl2:H.length≤10 * (k+1):=by omega
   have hHn2:=hHn
   refine Ai (t_n (Ab (Aa ?_)))
   refine pA (Ac (t_n (Ab (Aa ?_))))
   refine pM (pM (pM ?_))
   refine Ah Tryz.func16 fn16 fb16 (J4 g2 gd r2 _ Sd2 μ2 pi2 nx2 ni2 ci2 C2 (200+200 * (k+1)) _ hCX2 hcn2 (hg.ext hX) _ _ _ _ _ hHr2 hX.size (by omega) (fun x hx=>by have:=hle x (hHa2 x hx);omega) _ _ _ _ _ _ (hI2.ext hX).sl5) rfl ?_
   rintro v26 w26 ⟨⟨bg,rfl,hbg⟩,hE26⟩
   have hX:=hX.ext hE26
   have hHr:=hHr.ext hE26
   have hNr:=hNr.ext hE26
   have hbt2:bg=true:=hbg.2 hHas2
   subst hbt2
   have hC:=(hCX2.ext hE26).fin
   refine p1 (Fc rfl) ?_
   refine Ac (t_n ?_)
   refine c_f rfl ?_
   refine Ai (b_n (b_n (t_n (Aa ?_))))
   refine pM ?_
   refine p1 ((Aw rfl rfl (Ag (by omega) (by omega))).cast (congrArg (Value.int .i64) (by omega:_=((k+1:Nat):Int)))) ?_
   refine pA (Ac ?_)
   exact t_n (aK ((k+1,C2,g2,H,ih,false,N,nw,qh,nh,ch,qn,nn,cn,qi,mi,cj,qw,mw,cw)) ⟨rfl,rfl,rfl,rfl,rfl,rfl,rfl,trivial⟩ ⟨⟨hX,by omega,hC,hCr2,hHa,hNa,by omega,by omega,hHr,hNr,hI,hJ⟩,by(dsimp only;omega)⟩)
  try simp only[dA,dB,dC,dD,dE,dF,dG,Int.not_lt,Int.not_le] at hc120
  refine Ab (Aa ?_)
  refine pM ?_
  refine p1 (Ad Afg sz23 rfl) ?_
  refine p1 (Ae un23 rfl (hB14.cell (rfl))) ?_
  refine Ah Tryz.func33 fn33 fb33 (Ss all w.heap.size p n c _ (hl.ext hX) hX.size (acts.getD k default).picks _ _ _ _ _ (hr1.ext hX).sl5) rfl ?_
  rintro v27 w27 ⟨⟨qp,mp,cp,rfl,hP⟩,hE27⟩
  have hX:=hX.ext hE27
  have hCX:=hCX.ext hE27
  have hHr:=hHr.ext hE27
  have hNr:=hNr.ext hE27
  have hB14:=hB14.ext hE27
  have hPs:=hP.sl
  have hPn:=hP.len
  have hp10:=Aa8 (xss:=all) (ps:=(acts.getD k default).picks)
  refine pA (Ac (t_n (Ab (Aa ?_))))
  refine pM (pM ?_)
  refine p1 (Ad Mi sz23 rfl) ?_
  refine p1 (Ae un23 rfl (hB14.cell (rfl))) ?_
  refine Ah Tryz.func14 fn14 fb14 (Qv g gd r (since w) Sd μ pi nx ni ci C (200+200 * k) _ hCX hCr.cn (fun j h=>Nat.le_trans hgs h) (hg.ext hX) (by omega) (pickL all (acts.getD k default).picks) _ _ _ _ hPs.loSl hX.size (by omega) (acts.getD k default).index _ _ _ (Out.ofSl (hr2.ext hX).sl5 (fun hne h=>by have:=hr2.low hne;have h3:w.heap.size≤ab pa2:=h;omega))) rfl ?_
  rintro v28 w28 ⟨rfl,hC,hM28⟩
  have hXs2:=hX.size
  have hX:=hX.modS hM28 (B3 w)
  have hHr:=hHr.modS hM28 (B3 w) (by decide)
  have hNr:=hNr.modS hM28 (B3 w) (by decide)
  have hB14:=hB14.modS hM28 (.inr (by decide))
  have hPs:=hPs.modS hM28 (B3 w) (by decide)
  have hC:Cst (since w) w28 g gd (putC C (pickL all (acts.getD k default).picks) (acts.getD k default).index).1:=hC.mono (fun j _ h=>h.elim (fun h=>h) fun q=>Nat.le_trans hXs2 q.1)
  have hcp:=Afu hCr hf1 hle (cs:=pickL all (acts.getD k default).picks) (fun x hx=>Dm x hx) hak
  obtain⟨C2,hC2⟩:∃ c,c=(putC C (pickL all (acts.getD k default).picks) (acts.getD k default).index).1:=⟨_,rfl⟩
  obtain⟨e2,he2⟩:∃ e,e=(putC C (pickL all (acts.getD k default).picks) (acts.getD k default).index).2:=⟨_,rfl⟩
  rw[← hC2,← he2] at hcp
  rw[← hC2] at hC
  rw[← he2]
  have hor2:e2=0∨e2=20:=hcp.imp (fun h=>h.1) fun h=>h.1
  refine pA (Ac (t_n (Ab (Ab (Aa ?_)))))
  refine pM ?_
  refine p1 (A2 rfl rfl) ?_
  refine p1b (Al (by conv=>lhs;whnf)) (fun hb17_2=>?_) (fun hb17_2=>?_)
  ·try simp only[dA,dB,dC,dD,dE,dF,dG,Int.not_lt,Int.not_le] at hb17_2
   refine gM 68 ?_
   refine g1 68 rfl rfl ((A2 rfl rfl).cast (congrArg Value.bool (decide_eq_false (by omega)))) ?_
   refine p1 (Ap rfl (by conv=>lhs;whnf)) ?_
   refine Ac (t_n ?_)
   refine c_f rfl ?_
   refine Ai (t_n (Ab (Ab (Aa ?_))))
   refine pM ?_
   refine p1 (Fc rfl) ?_
   refine p1b (Al (by conv=>lhs;whnf)) (fun hb19_2=>?_) (fun hb19_2=>?_)
   ·try simp only[dA,dB,dC,dD,dE,dF,dG,Int.not_lt,Int.not_le] at hb19_2
    refine gM 74 ?_
    refine g1 74 rfl rfl (Bn rfl rfl) ?_
    refine g1b 74 rfl rfl (Al (by conv=>lhs;whnf)) (fun hb19_5=>?_) (fun hb19_5=>?_)
    ·try simp only[dA,dB,dC,dD,dE,dF,dG,Int.not_lt,Int.not_le] at hb19_5
     refine gF 77 (gF 77 ?_)
     refine g1 74 rfl rfl (Ap rfl (by conv=>lhs;whnf)) ?_
     refine p1 (Ap rfl (by conv=>lhs;whnf)) ?_
     refine Ac (t_n ?_)
     refine c_t rfl ?_
     refine Ab ?_
     refine B7 (fun w1 w2=>Ext w1 w2) mixed ?_
     intro w29 hE29
     have hX:=hX.ext hE29
     have hHr:=hHr.ext hE29
     have hNr:=hNr.ext hE29
     have hB14:=hB14.ext hE29
     have hC:=hC.ext hE29
     have hPs:=hPs.ext hE29
     have hSr20:(fun w1 w2=>Ext w1 w2) w29 w29:=Ext.refl w29
     have hwZE:=hX.size
     obtain⟨ZE,hZE⟩:=Ext.someSize hSr20
     have hHr0:=hHr
     have hPs0:=hPs
     have hNr0:=hNr
     have hC0:=hC
     have hB0:=hB14
     refine hT 1 rfl hSr20 (fun wS hSS=>by(exact(Al (by conv=>lhs;whnf)))) ?_
     refine hT 3 rfl hSr20 (fun wS hSS=>by(exact(Al (by conv=>lhs;whnf)))) ?_
     refine hT 5 rfl hSr20 (fun wS hSS=>by(exact(Ad Mi sz23 rfl))) ?_
     refine hT 6 rfl hSr20 (fun wS hSS=>by(have hB14:=hB14.ext hSS;exact(Ae un23 rfl (hB14.cell (rfl))))) ?_
     refine h1L 0 (fun Q0 hQ0=>?_)
     refine Au u22 inf23 rfl (by decide) (fun base hb=>by have h0:base=#[]:=Array.eq_empty_of_size_eq_zero (by simpa using hb);subst h0;rfl) ?_
     intro w30 g82 hN82
     have hE30:=hN82.ext
     have hX:=hX.ext hE30
     have hHr:=hHr.ext hE30
     have hNr:=hNr.ext hE30
     have hB14:=hB14.ext hE30
     have hC:=hC.ext hE30
     have hPs:=hPs.ext hE30
     have hSr20:=hSr20.ext hE30
     have hQ:Own kLo 23 w.heap.size ZE w30 _ 0 0 []:=Li hN82 ZE (by have:=hN82.g_eq;have:=hSr20.size;omega)
     refine An hQ0 ⟨hSr20,?_⟩
     refine h1L 2 (fun Q2 hQ2=>?_)
     obtain⟨css1,hA1,hsr1⟩:=Dx u22 hHr Cd
     have hZs:=hSr20.size
     have hB1:=hX.size
     refine Bv (d:=kLo) (H) u22 inf23 rfl Cd rfl rfl hQ (hsr1) hHn (hA1) (rfl) (by omega) (by omega) (by omega) (by omega) (by simp[kLo]) ?_
     intro p84 c84 w31 hQ hM31
     have hX:=hX.mod hM31 ((by omega))
     have hHr:=hHr0.ext (hSr20.mod hM31 (by omega))
     have hNr:=hNr0.ext (hSr20.mod hM31 (by omega))
     have hB14:=hB0.ext (hSr20.mod hM31 (by omega))
     have hC:=hC0.ext (hSr20.mod hM31 (by omega))
     have hPs:=hPs0.ext (hSr20.mod hM31 (by omega))
     have hSr20:=hSr20.mod hM31 (by omega)
     refine An hQ2 ⟨hSr20,?_⟩
     refine h1L 4 (fun Q4 hQ4=>?_)
     obtain⟨css2,hA2,hsr2⟩:=Dx u22 hPs Cd
     have hZs:=hSr20.size
     have hB1:=hX.size
     refine Bv (d:=kLo) ((pickL all (acts.getD k default).picks)) u22 inf23 rfl Cd rfl rfl hQ (hsr2) hPn (hA2) (rfl) (by omega) (by omega) (by omega) (by omega) (by simp[kLo]) ?_
     intro p86 c86 w32 hQ hM32
     have hX:=hX.mod hM32 ((by omega))
     have hHr:=hHr0.ext (hSr20.mod hM32 (by omega))
     have hNr:=hNr0.ext (hSr20.mod hM32 (by omega))
     have hB14:=hB0.ext (hSr20.mod hM32 (by omega))
     have hC:=hC0.ext (hSr20.mod hM32 (by omega))
     have hPs:=hPs0.ext (hSr20.mod hM32 (by omega))
     have hSr20:=hSr20.mod hM32 (by omega)
     refine An hQ4 ⟨hSr20,?_⟩
     refine hT 7 rfl hSr20 (fun wS hSS=>by(exact(Ax (by conv=>lhs;whnf)))) ?_
     refine hT 8 rfl hSr20 (fun wS hSS=>by(exact(Ax (by conv=>lhs;whnf)))) ?_
     refine Bm (by kernel_rfl) ?_
     refine t_n (Aa ?_)
     refine pA (Ac (t_n (Ab (Aa ?_))))
     refine pM ?_
     refine p1 (Bn rfl rfl) ?_
     refine Ac (t_n ?_)
     refine As rfl (fun hc90=>?_) (fun hc90=>?_)
     ·try simp only[dA,dB,dC,dD,dE,dF,dG,Int.not_lt,Int.not_le] at hc90
      have hCr3:=(hcp.resolve_right (fun h=>by have:=h.1;omega)).2.2
      refine Ab (Aa ?_)
      refine pM (pM (pA (pA (Ac (t_n (Aa ?_))))))
      refine pA (Ac (b_n (b_n (t_n (Aa ?_)))))
      refine pM ?_
      refine p1 ((Aw rfl rfl (Ag (by omega) (by omega))).cast (congrArg (Value.int .i64) (by omega:_=((k+1:Nat):Int)))) ?_
      refine pA (Ac ?_)
      exact t_n (At.mk ((k+1,C2,g,H++pickL all (acts.getD k default).picks,(acts.getD k default).index,false,H++pickL all (acts.getD k default).picks,(acts.getD k default).index,p86,_,c86,p86,_,c86,pa2,na2,ca2,pa2,na2,ca2)) (by repeat (first | exact Agr.refl _ _ | exact Agr.hav _ _ _ | refine Agr.upd rfl ?_ | refine Agr.updR rfl ?_ | refine Agr.updL ?_ _ rfl | refine Agr.hav' rfl ?_)) ⟨rfl,rfl,rfl,rfl,rfl,rfl,rfl,trivial⟩ ⟨⟨hX,by omega,hC,hCr3 _ _,(fun x hx=>(List.mem_append.1 hx).elim (hHa x) (fun q=>Dm x q)),(fun x hx=>(List.mem_append.1 hx).elim (hHa x) (fun q=>Dm x q)),(by rw[List.length_append];omega),(by rw[List.length_append];omega),hQ.sl,hQ.sl,hr2,hr2⟩,by(dsimp only;omega)⟩)
     try simp only[dA,dB,dC,dD,dE,dF,dG,Int.not_lt,Int.not_le] at hc90
     obtain⟨he20b,hdn3,hk1b,hk2⟩:=hcp.resolve_left (fun h=>hc90 h.1)
     refine Ai (b_n (b_n (t_n (Aa ?_))))
     refine pM ?_
     refine p1 ((Aw rfl rfl (Ag (by omega) (by omega))).cast (congrArg (Value.int .i64) (by omega:_=((k+1:Nat):Int)))) ?_
     refine pA (Ac ?_)
     exact t_n (At.mk ((k+1,C2,g,H,ih,true,H++pickL all (acts.getD k default).picks,(acts.getD k default).index,qh,nh,ch,p86,_,c86,qi,mi,cj,pa2,na2,ca2)) (by repeat (first | exact Agr.refl _ _ | exact Agr.hav _ _ _ | refine Agr.upd rfl ?_ | refine Agr.updR rfl ?_ | refine Agr.updL ?_ _ rfl | refine Agr.hav' rfl ?_)) ⟨rfl,rfl,rfl,rfl,rfl,rfl,rfl,trivial⟩ ⟨⟨hX,by omega,hC,hk2 (by simpa using hb19_2),hHa,(fun x hx=>(List.mem_append.1 hx).elim (hHa x) (fun q=>Dm x q)),by omega,(by rw[List.length_append];omega),hHr,hQ.sl,hI,hr2⟩,by(dsimp only;omega)⟩)
    try simp only[dA,dB,dC,dD,dE,dF,dG,Int.not_lt,Int.not_le] at hb19_5
    refine gM 77 ?_
    refine B8 77 rfl rfl ?_
    obtain⟨hd1,hd2,_⟩:=hcp.resolve_left (fun h=>by have:=h.1;omega)
    obtain⟨Se,re,μe,pe,ne,ce,xe,hCE⟩:=hC
    refine Ah Tryz.func43 fn43 fb43 (R6 gd Se C2.D _ hCE.d) rfl ?_
    rintro v33 w33 ⟨rfl,hE33⟩
    rw[hd2]
    have hC:=hCE.fin
    have hX:=hX.ext hE33
    have hHr:=hHr.ext hE33
    have hNr:=hNr.ext hE33
    have hB14:=hB14.ext hE33
    have hC:=hC.ext hE33
    have hPs:=hPs.ext hE33
    refine g1 74 rfl rfl (Aq rfl (by conv=>lhs;whnf)) ?_
    refine p1 (Ap rfl (by conv=>lhs;whnf)) ?_
    refine Ac (t_n ?_)
    refine c_t rfl ?_
    refine Ab ?_
    refine B7 (fun w1 w2=>Ext w1 w2) mixed ?_
    intro w34 hE34
    have hX:=hX.ext hE34
    have hHr:=hHr.ext hE34
    have hNr:=hNr.ext hE34
    have hB14:=hB14.ext hE34
    have hC:=hC.ext hE34
    have hPs:=hPs.ext hE34
    have hSr20:(fun w1 w2=>Ext w1 w2) w34 w34:=Ext.refl w34
    have hwZE:=hX.size
    obtain⟨ZE,hZE⟩:=Ext.someSize hSr20
    have hHr0:=hHr
    have hPs0:=hPs
    have hNr0:=hNr
    have hC0:=hC
    have hB0:=hB14
    refine hT 1 rfl hSr20 (fun wS hSS=>by(exact(Al (by conv=>lhs;whnf)))) ?_
    refine hT 3 rfl hSr20 (fun wS hSS=>by(exact(Al (by conv=>lhs;whnf)))) ?_
    refine hT 5 rfl hSr20 (fun wS hSS=>by(exact(Ad Mi sz23 rfl))) ?_
    refine hT 6 rfl hSr20 (fun wS hSS=>by(have hB14:=hB14.ext hSS;exact(Ae un23 rfl (hB14.cell (rfl))))) ?_
    refine h1L 0 (fun Q0 hQ0=>?_)
    refine Au u22 inf23 rfl (by decide) (fun base hb=>by have h0:base=#[]:=Array.eq_empty_of_size_eq_zero (by simpa using hb);subst h0;rfl) ?_
    intro w35 g82 hN82
    have hE35:=hN82.ext
    have hX:=hX.ext hE35
    have hHr:=hHr.ext hE35
    have hNr:=hNr.ext hE35
    have hB14:=hB14.ext hE35
    have hC:=hC.ext hE35
    have hPs:=hPs.ext hE35
    have hSr20:=hSr20.ext hE35
    have hQ:Own kLo 23 w.heap.size ZE w35 _ 0 0 []:=Li hN82 ZE (by have:=hN82.g_eq;have:=hSr20.size;omega)
    refine An hQ0 ⟨hSr20,?_⟩
    refine h1L 2 (fun Q2 hQ2=>?_)
    obtain⟨css1,hA1,hsr1⟩:=Dx u22 hHr Cd
    have hZs:=hSr20.size
    have hB1:=hX.size
    refine Bv (d:=kLo) (H) u22 inf23 rfl Cd rfl rfl hQ (hsr1) hHn (hA1) (rfl) (by omega) (by omega) (by omega) (by omega) (by simp[kLo]) ?_
    intro p84 c84 w36 hQ hM36
    have hX:=hX.mod hM36 ((by omega))
    have hHr:=hHr0.ext (hSr20.mod hM36 (by omega))
    have hNr:=hNr0.ext (hSr20.mod hM36 (by omega))
    have hB14:=hB0.ext (hSr20.mod hM36 (by omega))
    have hC:=hC0.ext (hSr20.mod hM36 (by omega))
    have hPs:=hPs0.ext (hSr20.mod hM36 (by omega))
    have hSr20:=hSr20.mod hM36 (by omega)
    refine An hQ2 ⟨hSr20,?_⟩
    refine h1L 4 (fun Q4 hQ4=>?_)
    obtain⟨css2,hA2,hsr2⟩:=Dx u22 hPs Cd
    have hZs:=hSr20.size
    have hB1:=hX.size
    refine Bv (d:=kLo) ((pickL all (acts.getD k default).picks)) u22 inf23 rfl Cd rfl rfl hQ (hsr2) hPn (hA2) (rfl) (by omega) (by omega) (by omega) (by omega) (by simp[kLo]) ?_
    intro p86 c86 w37 hQ hM37
    have hX:=hX.mod hM37 ((by omega))
    have hHr:=hHr0.ext (hSr20.mod hM37 (by omega))
    have hNr:=hNr0.ext (hSr20.mod hM37 (by omega))
    have hB14:=hB0.ext (hSr20.mod hM37 (by omega))
    have hC:=hC0.ext (hSr20.mod hM37 (by omega))
    have hPs:=hPs0.ext (hSr20.mod hM37 (by omega))
    have hSr20:=hSr20.mod hM37 (by omega)
    refine An hQ4 ⟨hSr20,?_⟩
    refine hT 7 rfl hSr20 (fun wS hSS=>by(exact(Ax (by conv=>lhs;whnf)))) ?_
    refine hT 8 rfl hSr20 (fun wS hSS=>by(exact(Ax (by conv=>lhs;whnf)))) ?_
    refine Bm (by kernel_rfl) ?_
    refine t_n (Aa ?_)
    refine pA (Ac (t_n (Ab (Aa ?_))))
    refine pM ?_
    refine p1 (Bn rfl rfl) ?_
    refine Ac (t_n ?_)
    refine As rfl (fun hc90=>?_) (fun hc90=>?_)
    ·try simp only[dA,dB,dC,dD,dE,dF,dG,Int.not_lt,Int.not_le] at hc90
     have hCr3:=(hcp.resolve_right (fun h=>by have:=h.1;omega)).2.2
     refine Ab (Aa ?_)
     refine pM (pM (pA (pA (Ac (t_n (Aa ?_))))))
     refine pA (Ac (b_n (b_n (t_n (Aa ?_)))))
     refine pM ?_
     refine p1 ((Aw rfl rfl (Ag (by omega) (by omega))).cast (congrArg (Value.int .i64) (by omega:_=((k+1:Nat):Int)))) ?_
     refine pA (Ac ?_)
     exact t_n (At.mk ((k+1,C2,g,H++pickL all (acts.getD k default).picks,(acts.getD k default).index,false,H++pickL all (acts.getD k default).picks,(acts.getD k default).index,p86,_,c86,p86,_,c86,pa2,na2,ca2,pa2,na2,ca2)) (by repeat (first | exact Agr.refl _ _ | exact Agr.hav _ _ _ | refine Agr.upd rfl ?_ | refine Agr.updR rfl ?_ | refine Agr.updL ?_ _ rfl | refine Agr.hav' rfl ?_)) ⟨rfl,rfl,rfl,rfl,rfl,rfl,rfl,trivial⟩ ⟨⟨hX,by omega,hC,hCr3 _ _,(fun x hx=>(List.mem_append.1 hx).elim (hHa x) (fun q=>Dm x q)),(fun x hx=>(List.mem_append.1 hx).elim (hHa x) (fun q=>Dm x q)),(by rw[List.length_append];omega),(by rw[List.length_append];omega),hQ.sl,hQ.sl,hr2,hr2⟩,by(dsimp only;omega)⟩)
    try simp only[dA,dB,dC,dD,dE,dF,dG,Int.not_lt,Int.not_le] at hc90
    obtain⟨he20b,hdn3,hk1b,hk2⟩:=hcp.resolve_left (fun h=>hc90 h.1)
    refine Ai (b_n (b_n (t_n (Aa ?_))))
    refine pM ?_
    refine p1 ((Aw rfl rfl (Ag (by omega) (by omega))).cast (congrArg (Value.int .i64) (by omega:_=((k+1:Nat):Int)))) ?_
    refine pA (Ac ?_)
    exact t_n (At.mk ((k+1,C2,g,H,ih,true,H++pickL all (acts.getD k default).picks,(acts.getD k default).index,qh,nh,ch,p86,_,c86,qi,mi,cj,pa2,na2,ca2)) (by repeat (first | exact Agr.refl _ _ | exact Agr.hav _ _ _ | refine Agr.upd rfl ?_ | refine Agr.updR rfl ?_ | refine Agr.updL ?_ _ rfl | refine Agr.hav' rfl ?_)) ⟨rfl,rfl,rfl,rfl,rfl,rfl,rfl,trivial⟩ ⟨⟨hX,by omega,hC,hk2 (by simpa using hb19_2),hHa,(fun x hx=>(List.mem_append.1 hx).elim (hHa x) (fun q=>Dm x q)),by omega,(by rw[List.length_append];omega),hHr,hQ.sl,hI,hr2⟩,by(dsimp only;omega)⟩)
   try simp only[dA,dB,dC,dD,dE,dF,dG,Int.not_lt,Int.not_le] at hb19_2
   refine gF 74 (gF 74 (gF 74 (gF 77 (gF 77 (gF 74 ?_)))))
   refine p1 (Aq rfl (by conv=>lhs;whnf)) ?_
   refine Ac (t_n ?_)
   refine c_f rfl ?_
   have hmt:may=true:=by simpa using hb19_2
   obtain⟨he20,hdn2,hk1,_⟩:=hcp.resolve_left (fun h=>by have:=h.2.1;rw[hmt] at this;cases this)
   have hCr2:CrI all (k+1) C2 H ih may N nw:=by rw[hmt];exact hk1 hmt
   refine Ai (t_n (Ab (Aa ?_)))
   refine pM ?_
   refine p1 (Bn rfl rfl) ?_
   refine Ac (t_n ?_)
   refine As rfl (fun hc90=>?_) (fun hc90=>?_)
   ·try simp only[dA,dB,dC,dD,dE,dF,dG,Int.not_lt,Int.not_le] at hc90
    have hCr3:=(hcp.resolve_right (fun h=>by have:=h.1;omega)).2.2
    refine Ab (Aa ?_)
    refine pM (pM (pA (pA (Ac (t_n (Aa ?_))))))
    refine pA (Ac (b_n (b_n (t_n (Aa ?_)))))
    refine pM ?_
    refine p1 ((Aw rfl rfl (Ag (by omega) (by omega))).cast (congrArg (Value.int .i64) (by omega:_=((k+1:Nat):Int)))) ?_
    refine pA (Ac ?_)
    exact t_n (aK ((k+1,C2,g,[],[],_,[],[],_,_,_,_,_,_,_,_,_,_,_,_)) ⟨rfl,rfl,rfl,rfl,rfl,rfl,rfl,trivial⟩ ⟨⟨hX,(by exfalso;omega),(by exfalso;omega),(by exfalso;omega),(by exfalso;omega),(by exfalso;omega),(by exfalso;omega),(by exfalso;omega),(by exfalso;omega),(by exfalso;omega),(by exfalso;omega),(by exfalso;omega)⟩,by(dsimp only;omega)⟩)
   try simp only[dA,dB,dC,dD,dE,dF,dG,Int.not_lt,Int.not_le] at hc90
   obtain⟨he20b,hdn3,hk1b,hk2⟩:=hcp.resolve_left (fun h=>hc90 h.1)
   refine Ai (b_n (b_n (t_n (Aa ?_))))
   refine pM ?_
   refine p1 ((Aw rfl rfl (Ag (by omega) (by omega))).cast (congrArg (Value.int .i64) (by omega:_=((k+1:Nat):Int)))) ?_
   refine pA (Ac ?_)
   exact t_n (aK ((k+1,C2,g,H,ih,may,N,nw,qh,nh,ch,qn,nn,cn,qi,mi,cj,qw,mw,cw)) ⟨rfl,rfl,rfl,rfl,rfl,rfl,rfl,trivial⟩ ⟨⟨hX,by omega,hC,hCr2,hHa,hNa,by omega,by omega,hHr,hNr,hI,hJ⟩,by(dsimp only;omega)⟩)
  try simp only[dA,dB,dC,dD,dE,dF,dG,Int.not_lt,Int.not_le] at hb17_2
  refine gF 68 (gF 68 ?_)
  refine p1 (Aq rfl (by conv=>lhs;whnf)) ?_
  refine Ac (t_n ?_)
  refine c_f rfl ?_
  refine Ai (t_n (Ab (Ab (Aa ?_))))
  refine pM ?_
  refine p1 (Fc rfl) ?_
  refine p1b (Al (by conv=>lhs;whnf)) (fun hb19_2=>?_) (fun hb19_2=>?_)
  ·try simp only[dA,dB,dC,dD,dE,dF,dG,Int.not_lt,Int.not_le] at hb19_2
   refine gM 74 ?_
   refine g1 74 rfl rfl (Bn rfl rfl) ?_
   refine g1b 74 rfl rfl (Al (by conv=>lhs;whnf)) (fun hb19_5=>?_) (fun hb19_5=>?_)
   ·try simp only[dA,dB,dC,dD,dE,dF,dG,Int.not_lt,Int.not_le] at hb19_5
    refine gF 77 (gF 77 ?_)
    refine g1 74 rfl rfl (Ap rfl (by conv=>lhs;whnf)) ?_
    refine p1 (Ap rfl (by conv=>lhs;whnf)) ?_
    refine Ac (t_n ?_)
    refine c_t rfl ?_
    refine Ab ?_
    refine B7 (fun w1 w2=>Ext w1 w2) mixed ?_
    intro w38 hE38
    have hX:=hX.ext hE38
    have hHr:=hHr.ext hE38
    have hNr:=hNr.ext hE38
    have hB14:=hB14.ext hE38
    have hC:=hC.ext hE38
    have hPs:=hPs.ext hE38
    have hSr20:(fun w1 w2=>Ext w1 w2) w38 w38:=Ext.refl w38
    have hwZE:=hX.size
    obtain⟨ZE,hZE⟩:=Ext.someSize hSr20
    have hHr0:=hHr
    have hPs0:=hPs
    have hNr0:=hNr
    have hC0:=hC
    have hB0:=hB14
    refine hT 1 rfl hSr20 (fun wS hSS=>by(exact(Al (by conv=>lhs;whnf)))) ?_
    refine hT 3 rfl hSr20 (fun wS hSS=>by(exact(Al (by conv=>lhs;whnf)))) ?_
    refine hT 5 rfl hSr20 (fun wS hSS=>by(exact(Ad Mi sz23 rfl))) ?_
    refine hT 6 rfl hSr20 (fun wS hSS=>by(have hB14:=hB14.ext hSS;exact(Ae un23 rfl (hB14.cell (rfl))))) ?_
    refine h1L 0 (fun Q0 hQ0=>?_)
    refine Au u22 inf23 rfl (by decide) (fun base hb=>by have h0:base=#[]:=Array.eq_empty_of_size_eq_zero (by simpa using hb);subst h0;rfl) ?_
    intro w39 g82 hN82
    have hE39:=hN82.ext
    have hX:=hX.ext hE39
    have hHr:=hHr.ext hE39
    have hNr:=hNr.ext hE39
    have hB14:=hB14.ext hE39
    have hC:=hC.ext hE39
    have hPs:=hPs.ext hE39
    have hSr20:=hSr20.ext hE39
    have hQ:Own kLo 23 w.heap.size ZE w39 _ 0 0 []:=Li hN82 ZE (by have:=hN82.g_eq;have:=hSr20.size;omega)
    refine An hQ0 ⟨hSr20,?_⟩
    refine h1L 2 (fun Q2 hQ2=>?_)
    obtain⟨css1,hA1,hsr1⟩:=Dx u22 hHr Cd
    have hZs:=hSr20.size
    have hB1:=hX.size
    refine Bv (d:=kLo) (H) u22 inf23 rfl Cd rfl rfl hQ (hsr1) hHn (hA1) (rfl) (by omega) (by omega) (by omega) (by omega) (by simp[kLo]) ?_
    intro p84 c84 w40 hQ hM40
    have hX:=hX.mod hM40 ((by omega))
    have hHr:=hHr0.ext (hSr20.mod hM40 (by omega))
    have hNr:=hNr0.ext (hSr20.mod hM40 (by omega))
    have hB14:=hB0.ext (hSr20.mod hM40 (by omega))
    have hC:=hC0.ext (hSr20.mod hM40 (by omega))
    have hPs:=hPs0.ext (hSr20.mod hM40 (by omega))
    have hSr20:=hSr20.mod hM40 (by omega)
    refine An hQ2 ⟨hSr20,?_⟩
    refine h1L 4 (fun Q4 hQ4=>?_)
    obtain⟨css2,hA2,hsr2⟩:=Dx u22 hPs Cd
    have hZs:=hSr20.size
    have hB1:=hX.size
    refine Bv (d:=kLo) ((pickL all (acts.getD k default).picks)) u22 inf23 rfl Cd rfl rfl hQ (hsr2) hPn (hA2) (rfl) (by omega) (by omega) (by omega) (by omega) (by simp[kLo]) ?_
    intro p86 c86 w41 hQ hM41
    have hX:=hX.mod hM41 ((by omega))
    have hHr:=hHr0.ext (hSr20.mod hM41 (by omega))
    have hNr:=hNr0.ext (hSr20.mod hM41 (by omega))
    have hB14:=hB0.ext (hSr20.mod hM41 (by omega))
    have hC:=hC0.ext (hSr20.mod hM41 (by omega))
    have hPs:=hPs0.ext (hSr20.mod hM41 (by omega))
    have hSr20:=hSr20.mod hM41 (by omega)
    refine An hQ4 ⟨hSr20,?_⟩
    refine hT 7 rfl hSr20 (fun wS hSS=>by(exact(Ax (by conv=>lhs;whnf)))) ?_
    refine hT 8 rfl hSr20 (fun wS hSS=>by(exact(Ax (by conv=>lhs;whnf)))) ?_
    refine Bm (by kernel_rfl) ?_
    refine t_n (Aa ?_)
    refine pA (Ac (t_n (Ab (Aa ?_))))
    refine pM ?_
    refine p1 (Bn rfl rfl) ?_
    refine Ac (t_n ?_)
    refine As rfl (fun hc90=>?_) (fun hc90=>?_)
    ·try simp only[dA,dB,dC,dD,dE,dF,dG,Int.not_lt,Int.not_le] at hc90
     have hCr3:=(hcp.resolve_right (fun h=>by have:=h.1;omega)).2.2
     refine Ab (Aa ?_)
     refine pM (pM (pA (pA (Ac (t_n (Aa ?_))))))
     refine pA (Ac (b_n (b_n (t_n (Aa ?_)))))
     refine pM ?_
     refine p1 ((Aw rfl rfl (Ag (by omega) (by omega))).cast (congrArg (Value.int .i64) (by omega:_=((k+1:Nat):Int)))) ?_
     refine pA (Ac ?_)
     exact t_n (At.mk ((k+1,C2,g,H++pickL all (acts.getD k default).picks,(acts.getD k default).index,false,H++pickL all (acts.getD k default).picks,(acts.getD k default).index,p86,_,c86,p86,_,c86,pa2,na2,ca2,pa2,na2,ca2)) (by repeat (first | exact Agr.refl _ _ | exact Agr.hav _ _ _ | refine Agr.upd rfl ?_ | refine Agr.updR rfl ?_ | refine Agr.updL ?_ _ rfl | refine Agr.hav' rfl ?_)) ⟨rfl,rfl,rfl,rfl,rfl,rfl,rfl,trivial⟩ ⟨⟨hX,by omega,hC,hCr3 _ _,(fun x hx=>(List.mem_append.1 hx).elim (hHa x) (fun q=>Dm x q)),(fun x hx=>(List.mem_append.1 hx).elim (hHa x) (fun q=>Dm x q)),(by rw[List.length_append];omega),(by rw[List.length_append];omega),hQ.sl,hQ.sl,hr2,hr2⟩,by(dsimp only;omega)⟩)
    try simp only[dA,dB,dC,dD,dE,dF,dG,Int.not_lt,Int.not_le] at hc90
    obtain⟨he20b,hdn3,hk1b,hk2⟩:=hcp.resolve_left (fun h=>hc90 h.1)
    refine Ai (b_n (b_n (t_n (Aa ?_))))
    refine pM ?_
    refine p1 ((Aw rfl rfl (Ag (by omega) (by omega))).cast (congrArg (Value.int .i64) (by omega:_=((k+1:Nat):Int)))) ?_
    refine pA (Ac ?_)
    exact t_n (At.mk ((k+1,C2,g,H,ih,true,H++pickL all (acts.getD k default).picks,(acts.getD k default).index,qh,nh,ch,p86,_,c86,qi,mi,cj,pa2,na2,ca2)) (by repeat (first | exact Agr.refl _ _ | exact Agr.hav _ _ _ | refine Agr.upd rfl ?_ | refine Agr.updR rfl ?_ | refine Agr.updL ?_ _ rfl | refine Agr.hav' rfl ?_)) ⟨rfl,rfl,rfl,rfl,rfl,rfl,rfl,trivial⟩ ⟨⟨hX,by omega,hC,hk2 (by simpa using hb19_2),hHa,(fun x hx=>(List.mem_append.1 hx).elim (hHa x) (fun q=>Dm x q)),by omega,(by rw[List.length_append];omega),hHr,hQ.sl,hI,hr2⟩,by(dsimp only;omega)⟩)
   try simp only[dA,dB,dC,dD,dE,dF,dG,Int.not_lt,Int.not_le] at hb19_5
   refine gM 77 ?_
   refine B8 77 rfl rfl ?_
   obtain⟨hd1,hd2,_⟩:=hcp.resolve_left (fun h=>by have:=h.1;omega)
   obtain⟨Se,re,μe,pe,ne,ce,xe,hCE⟩:=hC
   refine Ah Tryz.func43 fn43 fb43 (R6 gd Se C2.D _ hCE.d) rfl ?_
   rintro v42 w42 ⟨rfl,hE42⟩
   rw[hd2]
   have hC:=hCE.fin
   have hX:=hX.ext hE42
   have hHr:=hHr.ext hE42
   have hNr:=hNr.ext hE42
   have hB14:=hB14.ext hE42
   have hC:=hC.ext hE42
   have hPs:=hPs.ext hE42
   refine g1 74 rfl rfl (Aq rfl (by conv=>lhs;whnf)) ?_
   refine p1 (Ap rfl (by conv=>lhs;whnf)) ?_
   refine Ac (t_n ?_)
   refine c_t rfl ?_
   refine Ab ?_
   refine B7 (fun w1 w2=>Ext w1 w2) mixed ?_
   intro w43 hE43
   have hX:=hX.ext hE43
   have hHr:=hHr.ext hE43
   have hNr:=hNr.ext hE43
   have hB14:=hB14.ext hE43
   have hC:=hC.ext hE43
   have hPs:=hPs.ext hE43
   have hSr20:(fun w1 w2=>Ext w1 w2) w43 w43:=Ext.refl w43
   have hwZE:=hX.size
   obtain⟨ZE,hZE⟩:=Ext.someSize hSr20
   have hHr0:=hHr
   have hPs0:=hPs
   have hNr0:=hNr
   have hC0:=hC
   have hB0:=hB14
   refine hT 1 rfl hSr20 (fun wS hSS=>by(exact(Al (by conv=>lhs;whnf)))) ?_
   refine hT 3 rfl hSr20 (fun wS hSS=>by(exact(Al (by conv=>lhs;whnf)))) ?_
   refine hT 5 rfl hSr20 (fun wS hSS=>by(exact(Ad Mi sz23 rfl))) ?_
   refine hT 6 rfl hSr20 (fun wS hSS=>by(have hB14:=hB14.ext hSS;exact(Ae un23 rfl (hB14.cell (rfl))))) ?_
   refine h1L 0 (fun Q0 hQ0=>?_)
   refine Au u22 inf23 rfl (by decide) (fun base hb=>by have h0:base=#[]:=Array.eq_empty_of_size_eq_zero (by simpa using hb);subst h0;rfl) ?_
   intro w44 g82 hN82
   have hE44:=hN82.ext
   have hX:=hX.ext hE44
   have hHr:=hHr.ext hE44
   have hNr:=hNr.ext hE44
   have hB14:=hB14.ext hE44
   have hC:=hC.ext hE44
   have hPs:=hPs.ext hE44
   have hSr20:=hSr20.ext hE44
   have hQ:Own kLo 23 w.heap.size ZE w44 _ 0 0 []:=Li hN82 ZE (by have:=hN82.g_eq;have:=hSr20.size;omega)
   refine An hQ0 ⟨hSr20,?_⟩
   refine h1L 2 (fun Q2 hQ2=>?_)
   obtain⟨css1,hA1,hsr1⟩:=Dx u22 hHr Cd
   have hZs:=hSr20.size
   have hB1:=hX.size
   refine Bv (d:=kLo) (H) u22 inf23 rfl Cd rfl rfl hQ (hsr1) hHn (hA1) (rfl) (by omega) (by omega) (by omega) (by omega) (by simp[kLo]) ?_
   intro p84 c84 w45 hQ hM45
   have hX:=hX.mod hM45 ((by omega))
   have hHr:=hHr0.ext (hSr20.mod hM45 (by omega))
   have hNr:=hNr0.ext (hSr20.mod hM45 (by omega))
   have hB14:=hB0.ext (hSr20.mod hM45 (by omega))
   have hC:=hC0.ext (hSr20.mod hM45 (by omega))
   have hPs:=hPs0.ext (hSr20.mod hM45 (by omega))
   have hSr20:=hSr20.mod hM45 (by omega)
   refine An hQ2 ⟨hSr20,?_⟩
   refine h1L 4 (fun Q4 hQ4=>?_)
   obtain⟨css2,hA2,hsr2⟩:=Dx u22 hPs Cd
   have hZs:=hSr20.size
   have hB1:=hX.size
   refine Bv (d:=kLo) ((pickL all (acts.getD k default).picks)) u22 inf23 rfl Cd rfl rfl hQ (hsr2) hPn (hA2) (rfl) (by omega) (by omega) (by omega) (by omega) (by simp[kLo]) ?_
   intro p86 c86 w46 hQ hM46
   have hX:=hX.mod hM46 ((by omega))
   have hHr:=hHr0.ext (hSr20.mod hM46 (by omega))
   have hNr:=hNr0.ext (hSr20.mod hM46 (by omega))
   have hB14:=hB0.ext (hSr20.mod hM46 (by omega))
   have hC:=hC0.ext (hSr20.mod hM46 (by omega))
   have hPs:=hPs0.ext (hSr20.mod hM46 (by omega))
   have hSr20:=hSr20.mod hM46 (by omega)
   refine An hQ4 ⟨hSr20,?_⟩
   refine hT 7 rfl hSr20 (fun wS hSS=>by(exact(Ax (by conv=>lhs;whnf)))) ?_
   refine hT 8 rfl hSr20 (fun wS hSS=>by(exact(Ax (by conv=>lhs;whnf)))) ?_
   refine Bm (by kernel_rfl) ?_
   refine t_n (Aa ?_)
   refine pA (Ac (t_n (Ab (Aa ?_))))
   refine pM ?_
   refine p1 (Bn rfl rfl) ?_
   refine Ac (t_n ?_)
   refine As rfl (fun hc90=>?_) (fun hc90=>?_)
   ·try simp only[dA,dB,dC,dD,dE,dF,dG,Int.not_lt,Int.not_le] at hc90
    have hCr3:=(hcp.resolve_right (fun h=>by have:=h.1;omega)).2.2
    refine Ab (Aa ?_)
    refine pM (pM (pA (pA (Ac (t_n (Aa ?_))))))
    refine pA (Ac (b_n (b_n (t_n (Aa ?_)))))
    refine pM ?_
    refine p1 ((Aw rfl rfl (Ag (by omega) (by omega))).cast (congrArg (Value.int .i64) (by omega:_=((k+1:Nat):Int)))) ?_
    refine pA (Ac ?_)
    exact t_n (At.mk ((k+1,C2,g,H++pickL all (acts.getD k default).picks,(acts.getD k default).index,false,H++pickL all (acts.getD k default).picks,(acts.getD k default).index,p86,_,c86,p86,_,c86,pa2,na2,ca2,pa2,na2,ca2)) (by repeat (first | exact Agr.refl _ _ | exact Agr.hav _ _ _ | refine Agr.upd rfl ?_ | refine Agr.updR rfl ?_ | refine Agr.updL ?_ _ rfl | refine Agr.hav' rfl ?_)) ⟨rfl,rfl,rfl,rfl,rfl,rfl,rfl,trivial⟩ ⟨⟨hX,by omega,hC,hCr3 _ _,(fun x hx=>(List.mem_append.1 hx).elim (hHa x) (fun q=>Dm x q)),(fun x hx=>(List.mem_append.1 hx).elim (hHa x) (fun q=>Dm x q)),(by rw[List.length_append];omega),(by rw[List.length_append];omega),hQ.sl,hQ.sl,hr2,hr2⟩,by(dsimp only;omega)⟩)
   try simp only[dA,dB,dC,dD,dE,dF,dG,Int.not_lt,Int.not_le] at hc90
   obtain⟨he20b,hdn3,hk1b,hk2⟩:=hcp.resolve_left (fun h=>hc90 h.1)
   refine Ai (b_n (b_n (t_n (Aa ?_))))
   refine pM ?_
   refine p1 ((Aw rfl rfl (Ag (by omega) (by omega))).cast (congrArg (Value.int .i64) (by omega:_=((k+1:Nat):Int)))) ?_
   refine pA (Ac ?_)
   exact t_n (At.mk ((k+1,C2,g,H,ih,true,H++pickL all (acts.getD k default).picks,(acts.getD k default).index,qh,nh,ch,p86,_,c86,qi,mi,cj,pa2,na2,ca2)) (by repeat (first | exact Agr.refl _ _ | exact Agr.hav _ _ _ | refine Agr.upd rfl ?_ | refine Agr.updR rfl ?_ | refine Agr.updL ?_ _ rfl | refine Agr.hav' rfl ?_)) ⟨rfl,rfl,rfl,rfl,rfl,rfl,rfl,trivial⟩ ⟨⟨hX,by omega,hC,hk2 (by simpa using hb19_2),hHa,(fun x hx=>(List.mem_append.1 hx).elim (hHa x) (fun q=>Dm x q)),by omega,(by rw[List.length_append];omega),hHr,hQ.sl,hI,hr2⟩,by(dsimp only;omega)⟩)
  try simp only[dA,dB,dC,dD,dE,dF,dG,Int.not_lt,Int.not_le] at hb19_2
  refine gF 74 (gF 74 (gF 74 (gF 77 (gF 77 (gF 74 ?_)))))
  refine p1 (Aq rfl (by conv=>lhs;whnf)) ?_
  refine Ac (t_n ?_)
  refine c_f rfl ?_
  have hmt:may=true:=by simpa using hb19_2
  obtain⟨he20,hdn2,hk1,_⟩:=hcp.resolve_left (fun h=>by have:=h.2.1;rw[hmt] at this;cases this)
  have hCr2:CrI all (k+1) C2 H ih may N nw:=by rw[hmt];exact hk1 hmt
  refine Ai (t_n (Ab (Aa ?_)))
  refine pM ?_
  refine p1 (Bn rfl rfl) ?_
  refine Ac (t_n ?_)
  refine As rfl (fun hc90=>?_) (fun hc90=>?_)
  ·try simp only[dA,dB,dC,dD,dE,dF,dG,Int.not_lt,Int.not_le] at hc90
   have hCr3:=(hcp.resolve_right (fun h=>by have:=h.1;omega)).2.2
   refine Ab (Aa ?_)
   refine pM (pM (pA (pA (Ac (t_n (Aa ?_))))))
   refine pA (Ac (b_n (b_n (t_n (Aa ?_)))))
   refine pM ?_
   refine p1 ((Aw rfl rfl (Ag (by omega) (by omega))).cast (congrArg (Value.int .i64) (by omega:_=((k+1:Nat):Int)))) ?_
   refine pA (Ac ?_)
   exact t_n (aK ((k+1,C2,g,[],[],_,[],[],_,_,_,_,_,_,_,_,_,_,_,_)) ⟨rfl,rfl,rfl,rfl,rfl,rfl,rfl,trivial⟩ ⟨⟨hX,(by exfalso;omega),(by exfalso;omega),(by exfalso;omega),(by exfalso;omega),(by exfalso;omega),(by exfalso;omega),(by exfalso;omega),(by exfalso;omega),(by exfalso;omega),(by exfalso;omega),(by exfalso;omega)⟩,by(dsimp only;omega)⟩)
  try simp only[dA,dB,dC,dD,dE,dF,dG,Int.not_lt,Int.not_le] at hc90
  obtain⟨he20b,hdn3,hk1b,hk2⟩:=hcp.resolve_left (fun h=>hc90 h.1)
  refine Ai (b_n (b_n (t_n (Aa ?_))))
  refine pM ?_
  refine p1 ((Aw rfl rfl (Ag (by omega) (by omega))).cast (congrArg (Value.int .i64) (by omega:_=((k+1:Nat):Int)))) ?_
  refine pA (Ac ?_)
  exact t_n (aK ((k+1,C2,g,H,ih,may,N,nw,qh,nh,ch,qn,nn,cn,qi,mi,cj,qw,mw,cw)) ⟨rfl,rfl,rfl,rfl,rfl,rfl,rfl,trivial⟩ ⟨⟨hX,by omega,hC,hCr2,hHa,hNa,by omega,by omega,hHr,hNr,hI,hJ⟩,by(dsimp only;omega)⟩)
 try simp only[dA,dB,dC,dD,dE,dF,dG,Int.not_lt,Int.not_le] at hc47
 refine Ba (t_e (t_e (Bu (t_n (Ab (Aa ?_))))))
 refine Ah Tryz.func11 fn11 fb11 (Ip _ (hg.ext hX)) rfl ?_
 rintro v47 w47 ⟨rfl,hE47⟩
 have hX:=hX.ext hE47
 refine pA (Ac (t_n (Ak ?_)))
 refine eR1 ?_
 exact⟨rfl,hX⟩
end Go.Proofs.Eng
end
