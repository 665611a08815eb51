import Derived.Test.YtlmfpocifkpggaaGreatDoorOp5
set_option linter.unusedVariables false
set_option linter.unusedSimpArgs false
set_option linter.unusedSectionVars false
section
set_option maxRecDepth 100000
set_option maxHeartbeats 4000000
namespace Go.Proofs.Eng
open Go.RowKit
open Extern.Stop (cell)
theorem Afm {C:CS} {cs:List By} {ix:By} (hd:¬ C.dead=true) (hl:¬ (524288<ix.length∨∃ c∈cs,1048576<c.length)) (h:(putC C cs ix).2=0):(putR C (Be C.L cs) ix).2=0:=Classical.byContradiction fun hc=>by
  rw[Qw hd hl,if_pos hc] at h
  unfold undoC at h
  split at h
  · exact absurd h (by simp)
  · split at h
    · exact absurd h (by simp)
    · exact hc h
theorem Afl (g gd r:Nat) (S Sd:Nat→Prop) (μ:Hash→Option R3) (pi nx:Option Addr) (ni ci:Nat) (C:CS) (k_:Nat) (w:World) (hCX:CstX S Sd w g gd r μ pi ni ci nx C) (hn:CN C k_) (hS:∀ j,S j→6≤j) (hg:Gt w) (hk:k_<4611686018427200000) (xss:List By) (B:Nat) (p:Option Addr) (n c:Nat) (hl:Sl (kSl kByte 5) 23 B w p n c xss) (hBw:B≤w.heap.size) (hn2:n≤100000) (ix:By) (q:Option Addr) (m c2:Nat) (hix:Out S w q m c2 ix) (hok:(putC C xss ix).2=0) (hfr:Be C.L xss≠[]) :
    Ret Tryz.prog 14 [.pointer (some ⟨g,0,none⟩),.slice p n c,.slice q m c2] w (fun v w'=>v = .int .i64 (putC C xss ix).2∧Cst (grow S w w') w' g gd (putC C xss ix).1∧ModS S EC w w'):=by
 have hgs:=hg.size
 have hsg:=hCX.sg
 have hGd:=hn.good
 have hhi:=hn.hi
 have hsz:=hn.sz
 obtain⟨Sd,hSd,hCX0⟩:∃ Sd',(∀ j,Sd' j→j<w.heap.size)∧CstX S Sd' w g gd r μ pi ni ci nx C:=⟨_,fun j h=>h.2,hCX.mono fun _ _ h=>h⟩
 have hg0:=hg
 have hb:=hCX0.b
 have hbl:=hb.lt
 have hrl_:=hCX0.m.lt
 have hg6:=hS _ hsg
 have hX:=Ext.refl w
 refine eN 127 Tryz.func14 ?_
 refine Ab (Aa ?_)
 have hz3:=hX.size
 refine D9 (by conv=>lhs;whnf) rfl ?_
 intro w1 g3 hN3
 have hE1:=hN3.ext
 have hX:=hX.ext hE1
 have hb:=hb.ext hE1
 have hB3:=hN3.blk
 have hq3:=hN3.g_eq
 refine pA (Ac (t_n (Ab (Ap (Ab (Aa ?_))))))
 refine p1 (Ae un30 rfl (hB3.cell (rfl))) ?_
 refine p1 ((Cc u30 rfl rfl).cast (congrArg _ (decide_eq_false (by simp)))) ?_
 refine pA (Ac (t_n ?_))
 refine c_f (rfl) ?_
 refine Ab (Aa ?_)
 refine p1 (Ae un30 rfl (hB3.cell (rfl))) ?_
 refine p1 (Ag rfl) ?_
 refine p1 (Ad Gd sz4 rfl) ?_
 refine p1 (Ae un4 rfl (hb.cell (rfl))) ?_
 refine pA (Ac (t_n ?_))
 refine Dm rfl (fun hc19=>?_) (fun hc19=>?_)
 ·try simp only[dA,dB,dC,dD,dE,dF,dG,Int.not_lt,Int.not_le] at hc19
  exact absurd hok (by unfold putC;rw[if_pos hc19];simp)
 try simp only[dA,dB,dC,dD,dE,dF,dG,Int.not_lt,Int.not_le] at hc19
 refine Ab ?_
 have hWr5:=Ext.refl w1
 refine Dn (ι:=Unit) [24,25,26,27,28,29,30,31] (fun _=>[(24,.bool (decide (524288<ix.length∨∃ x∈xss,1048576<x.length)))]) (fun _ w'=>Ext w1 w') ?_ ?_
 ·skip
  refine Aa ?_
  refine pM ?_
  refine p1 (Ar u23 rfl) ?_
  refine p1 (Cw rfl rfl) ?_
  refine p1b (Af (by conv=>lhs;whnf)) (fun hb5_3=>?_) (fun hb5_3=>?_)
  ·try simp only[dA,dB,dC,dD,dE,dF,dG,Int.not_lt,Int.not_le] at hb5_3
   refine gF 28 (gF 28 ?_)
   refine p1 (Ax rfl (by conv=>lhs;whnf)) ?_
   refine pA (Ac ?_)
   refine t_n (aK () ⟨congrArg Value.bool (by have hixl:=hix.len;exact(decide_eq_true (.inl (by omega))).symm),trivial⟩ hWr5)
  try simp only[dA,dB,dC,dD,dE,dF,dG,Int.not_lt,Int.not_le] at hb5_3
  refine gM 28 ?_
  refine Cd 28 rfl rfl ?_
  refine oC Tryz.func52 (Qm xss B _ _ _ _ (hl.ext hX)) ?_
  rintro v3 w3 ⟨rfl,hE3⟩
  have hWr5:=hWr5.ext hE3
  refine p1 (Au rfl (by conv=>lhs;whnf)) ?_
  refine pA (Ac ?_)
  refine t_n (aK () ⟨congrArg Value.bool (by have hixl:=hix.len;exact decide_eq_decide.2 ⟨.inr,fun h=>h.resolve_left (by omega)⟩),trivial⟩ hWr5)
 rintro _ Gr5 w2 hE2
 have hX:=hX.ext hE2
 have hb:=hb.ext hE2
 have hB3:=hB3.ext hE2
 refine t_n ?_
 refine As rfl (fun hc24=>?_) (fun hc24=>?_)
 ·try simp only[dA,dB,dC,dD,dE,dF,dG,Int.not_lt,Int.not_le] at hc24
  exact absurd hok (by unfold putC;rw[if_neg (by rw[hc19];simp),if_pos hc24];simp)
 try simp only[dA,dB,dC,dD,dE,dF,dG,Int.not_lt,Int.not_le] at hc24
 have hpm:=Qw (C:=C) (cs:=xss) (ix:=ix) (by rw[hc19];simp) hc24
 have hle:∀ x∈xss,x.length≤1048576:=fun x hx=>Nat.le_of_not_lt fun h=>hc24 (.inr ⟨x,hx,h⟩)
 have hixl:=hix.len
 have hix5:ix.length≤524288:=Nat.le_of_not_lt fun h=>hc24 (.inl h)
 have hlen:=hl.len
 have hcap:=hl.cap
 have hfit:=hl.fit
 have hokR:=Afm (C:=C) (cs:=xss) (ix:=ix) (by rw[hc19];simp) hc24 hok
 refine Ak (b_n (t_n (Ab (Aa ?_))))
 have hXs:=hX.size
 refine K1 (κ:=Hash) (ν:=R3) ?_
 intro w4 g32 hE4 hK32
 have hX:=hX.ext hE4
 have hb:=hb.ext hE4
 have hB3:=hB3.ext hE4
 have hMf:=hK32 Dd vCh 0 w.heap.size (hXs)
 have hgl0:=hMf.low
 refine pA (Ac (t_n (Ab (Aa ?_))))
 refine pA (Ac (t_n (Ab (Ab (Aa ?_)))))
 refine pM ?_
 refine p1 (Ar u22 rfl) ?_
 refine pM (Ac (t_n (Ap ?_)))
 refine Bc (ι:=Nat×Option Addr×Nat×Nat) ([8,10,11,12]++rg 35 30) (fun (k,ql,ml,cl)=>[(8,.slice ql ml cl),(35,.int .i64 (k:Int))]) (fun (k,ql,ml,cl) w'=>Ext w w'∧(k≤n∧(∃ μf,Mp Dd vCh 0 w.heap.size w' g32 μf∧Chs Sd w' μf (Be C.L (xss.take k)))∧Own (kOb w.heap.size) 23 0 w.heap.size w' ql ml cl (Be C.L (xss.take k))∧Blk w' g3 #[.pointer (some ⟨g,0,none⟩)] 30)) (fun (k,ql,ml,cl)=>n - k) ((0,none,0,0)) ⟨rfl,rfl,trivial⟩ ⟨hX,Nat.zero_le _,⟨_,hMf,by rw[List.take_zero];exact Chs.none_ Sd _⟩,by rw[List.take_zero];exact Own.nil _ _ _ _ _,hB3⟩ ?_
 rintro⟨k,ql,ml,cl⟩ GL1 w5 ⟨hE5,hk,⟨μf,hMf,hCf⟩,hLo,hB3⟩
 have hX:=hE5
 have hCX:=hCX0.ext hX
 have hM:=hCX.m
 have hC:=hCX.c
 have hb:=hCX.b
 have hg:=hg0.ext hX
 have hmll:=hLo.len
 have hml:=Ps (xss.take k) C.L
 rw[List.length_take] at hml
 refine Ab (Aa ?_)
 refine p1 (Bi rfl rfl) ?_
 refine Ac (t_n (Ab ?_))
 refine As rfl (fun hc36=>?_) (fun hc36=>?_)
 ·try simp only[dA,dB,dC,dD,dE,dF,dG,Int.not_lt,Int.not_le] at hc36
  refine Ak (t_n (Ab (Ap (Ab ?_))))
  obtain⟨qk,mk,ck,hck,hrow0⟩:=hl.slAt k (by omega)
  have hlek:=hle _ (Dq (z:=[]) (xs:=xss) (i:=k) (by omega) rfl)
  have hrl0:=hrow0.len
  refine Aa ?_
  refine p1 (Cr (i:=k) u22 sz23 rfl rfl ((hl.ext hX).adr J9 (by omega)) (by omega)) ?_
  refine p1 (Ae un23 rfl (hX.cell hck)) ?_
  refine pA (Ac (t_n (Ab (Aa ?_))))
  refine pM ?_
  have hXs:=hX.size
  refine oC Tryz.func34 (Xk (xss.getD k []) _ _ _ _ _ (hrow0.ext hX) (by omega) (by omega) hg.r hg.b (by have:=hg.size;omega)) ?_
  rintro v6 w6 ⟨rfl,hE6⟩
  have hX:=hX.ext hE6
  have hCX:=hCX.ext hE6
  have hM:=hM.ext hE6
  have hC:=hC.ext hE6
  have hb:=hb.ext hE6
  have hg:=hg.ext hE6
  have hMf:=hMf.ext hE6
  have hCf:=hCf.ext hE6
  have hLo:=hLo.ext hE6
  have hB3:=hB3.ext hE6
  have hz11:=hX.size
  have hl11_3:=hB3.lt
  refine Ay zr64 ?_
  intro w7 g11 hN11
  have hE7:=hN11.ext
  have hX:=hX.ext hE7
  have hCX:=hCX.ext hE7
  have hM:=hM.ext hE7
  have hC:=hC.ext hE7
  have hb:=hb.ext hE7
  have hg:=hg.ext hE7
  have hMf:=hMf.ext hE7
  have hCf:=hCf.ext hE7
  have hLo:=hLo.ext hE7
  have hB3:=hB3.ext hE7
  have hB11:=hN11.blk
  have hq11:=hN11.g_eq
  refine Al rfl rfl (E6 _) (C4 sz64 _) hB11 (Hi _) ?_
  intro w8 hP8
  have hX:=hX.put hP8 (by omega)
  have hCX:=hCX0.ext hX
  have hM:=(hCX0.ext hX).m
  have hC:=(hCX0.ext hX).c
  have hb:=(hCX0.ext hX).b
  have hg:=hg.put hP8 (by omega)
  have hMf:=hMf.mod (hP8.mod 0 (Nat.zero_le _)) (Nat.zero_le _) (by decide)
  have hCf:=hCf.mod (hP8.mod 0 (Nat.zero_le _)) (Nat.zero_le _) (by decide)
  have hLo:=hLo.mod (hP8.mod 0 (Nat.zero_le _)) (Nat.zero_le _) (by simp[kOb])
  have hB3:=hP8.keep hB3 (by omega)
  have hB11:=hP8.blk
  refine Ac (t_n (Ab ?_))
  refine Cy mixed (by kernel_rfl) ?_
  intro w9 hE9
  have hX:=hX.ext hE9
  have hCX:=hCX.ext hE9
  have hM:=hM.ext hE9
  have hC:=hC.ext hE9
  have hb:=hb.ext hE9
  have hg:=hg.ext hE9
  have hMf:=hMf.ext hE9
  have hCf:=hCf.ext hE9
  have hLo:=hLo.ext hE9
  have hB3:=hB3.ext hE9
  have hB11:=hB11.ext hE9
  refine s1 (Ae un30 rfl (hB3.cell (rfl))) ?_
  refine s1 (Ag rfl) ?_
  refine s1 (Ad Hq sz88 rfl) ?_
  refine s1 (Ae un88 rfl (hb.cell (rfl))) ?_
  refine s1 (Aq ua64 rfl hB11 (C4 sz64 _)) ?_
  obtain⟨⟨p0,n0,c0⟩,hr0⟩:∃ x:R3,x=(μ (shaF (xss.getD k []))).getD r30:=⟨_,rfl⟩
  obtain⟨hC0a,hC0b⟩:=hC.get (shaF (xss.getD k []))
  rw[← hr0] at hC0a hC0b
  simp only at hC0a hC0b
  refine s1 (((lookC u88 zr23 (Es u64 u5 sz5) hM (shaF (xss.getD k [])) rfl rfl)).cast (by rw[← hr0];rfl:r3V _=Value.slice p0 n0 c0)) ?_
  refine s1 (E4 u23 rfl rfl) ?_
  refine s1b (Af (by conv=>lhs;whnf)) (fun hb13_7=>?_) (fun hb13_7=>?_)
  ·try simp only[dA,dB,dC,dD,dE,dF,dG,Int.not_lt,Int.not_le] at hb13_7
   refine sg1 48 rfl rfl (Af (by conv=>lhs;whnf)) ?_
   refine sg1 48 rfl rfl (Aq ua64 rfl hB11 (C4 sz64 _)) ?_
   obtain⟨⟨p9,n9,c9⟩,hr9⟩:∃ x:R3,x=(μf (shaF (xss.getD k []))).getD r30:=⟨_,rfl⟩
   obtain⟨hC9a,hC9b⟩:=hCf.get (shaF (xss.getD k []))
   rw[← hr9] at hC9a hC9b
   simp only at hC9a hC9b
   refine sg1 48 rfl rfl (((lookC u88 zr23 (Es u64 u5 sz5) (hMf.lower (Nat.zero_le _)) (shaF (xss.getD k [])) rfl rfl)).cast (by rw[← hr9];rfl:r3V _=Value.slice p9 n9 c9)) ?_
   refine sg1 48 rfl rfl (E4 u23 rfl rfl) ?_
   refine s1 (Ax rfl (by conv=>lhs;whnf)) ?_
   refine Bx (t_n ?_)
   refine As rfl (fun hc53=>?_) (fun hc53=>?_)
   ·try simp only[dA,dB,dC,dD,dE,dF,dG,Int.not_lt,Int.not_le] at hc53
    have hfn:Be C.L (xss.take (k+1))=Be C.L (xss.take k)++[xss.getD k []]:=by
      rw[Hx (by omega),Jd,if_pos]
      rw[Cz,Option.or_eq_none_iff]
      exact⟨hC0a.1 (by simpa using hb13_7),hC9a.1 hc53⟩
    refine Ab (Aa ?_)
    have hXz:=hX.size
    refine Av u23 inf5 rfl (by decide) (fun base hb=>by have h0:base=#[]:=Array.eq_empty_of_size_eq_zero (by simpa using hb);subst h0;rfl) ?_
    intro wJ g54 hN54
    have hE54:=hN54.ext
    have hJ:Own kByte 5 0 w9.heap.size wJ (some ⟨g54,0,none⟩) 0 0 []:=B4 (B0:=w9.heap.size) ([]:List UInt8) hN54 (Nat.le_refl _) (by simp)
    refine pM ?_
    have hrl:=(hrow0.ext hX).len
    refine Re (d:=kByte) (xss.getD k []) u23 inf5 rfl Bb rfl rfl hJ (Ba u23 ((hrow0.ext hX).ext hE54) (by decide)) hrl (B6 _ _ _) rfl (by omega) (by omega) hE54.size (Nat.zero_le _) (by decide) ?_
    intro p56 c56 w10 hA hM10 hp56 hon56
    rw[List.nil_append] at hA
    have hA:=hA.lower hXz
    have hE10:Ext w9 w10:=hE54.mod hM10 (Nat.le_refl _)
    have hpn:p56≠none:=by rcases hp56 with h | ⟨g,h,_⟩ <;> rw[h] <;> simp
    have hX:=hX.ext hE10
    have hCX:=hCX.ext hE10
    have hM:=hM.ext hE10
    have hC:=hC.ext hE10
    have hb:=hb.ext hE10
    have hg:=hg.ext hE10
    have hMf:=hMf.ext hE10
    have hCf:=hCf.ext hE10
    have hLo:=hLo.ext hE10
    have hB3:=hB3.ext hE10
    have hB11:=hB11.ext hE10
    refine pA (Ac (t_n (Ab (Aa ?_))))
    refine pM ?_
    refine p1 (Aq ua64 rfl hB11 (C4 sz64 _)) ?_
    refine pM ?_
    refine Aaw (a:=(shaF (xss.getD k []))) (b:=(p56,0+mk,c56)) u88 (Es u64 u5 sz5) rfl rfl rfl hMf rfl (Nat.zero_le _) (by decide) ?_
    intro w11 hMf hM11
    have hX:=hX.mod hM11 (Nat.le_refl _)
    have hCX:=hCX0.ext hX
    have hM:=hCX.m
    have hC:=hCX.c
    have hb:=hCX.b
    have hg:=hg0.ext hX
    have hCf:=hCf.mod hM11 (Nat.zero_le _) (by decide)
    have hLo:=hLo.mod hM11 (Nat.zero_le _) (by show tMap∉[23,5];decide)
    have hB3:=hB3.mod hM11 (by decide)
    have hA:=hA.mod hM11 (Nat.zero_le _) (by decide)
    have hFA:=FB.ofOwn (S:=nS Sd) hA (fun j _ hj hs=>by have:=hSd j hs;omega)
    have hCf:=hCf.put (hC9a.1 hc53) (p56,0+mk,c56) hpn hFA
    refine Ac (t_n (Aa ?_))
    refine pM (pM ?_)
    refine Av u22 inf23 rfl (by decide) (fun base hb=>Br (by rfl) base hb) ?_
    intro w12 g62 hN62
    have hE12:=hN62.ext
    have hX:=hX.ext hE12
    have hCX:=hCX.ext hE12
    have hM:=hM.ext hE12
    have hC:=hC.ext hE12
    have hb:=hb.ext hE12
    have hg:=hg.ext hE12
    have hMf:=hMf.ext hE12
    have hCf:=hCf.ext hE12
    have hLo:=hLo.ext hE12
    have hB3:=hB3.ext hE12
    have hA:=hA.ext hE12
    have hJ:=So hN62 hA
    obtain⟨cssJ,hAJ,hsrJ⟩:=La u22 hJ Im
    have hB1:=hX.size
    refine Az (d:=(kOb _)) ([(xss.getD k [])]) u22 inf23 rfl Im rfl rfl hLo (hsrJ) rfl (hAJ) (rfl) (by omega) (by omega) (by omega) (by omega) (by simp[kOb]) ?_
    intro p63 c63 w13 hLo hM13
    have hX:=hX.mod hM13 (Nat.le_refl _)
    have hCX:=hCX0.ext hX
    have hM:=(hCX0.ext hX).m
    have hC:=(hCX0.ext hX).c
    have hb:=(hCX0.ext hX).b
    have hg:=hg0.ext hX
    have hMf:=hMf.mod hM13 (Nat.zero_le _) (by decide)
    have hCf:=hCf.mod hM13 (Nat.zero_le _) (by decide)
    have hB3:=hB3.mod hM13 (by decide)
    refine pA (Ac (b_n (t_n (Aa ?_))))
    refine p1 (A0 rfl rfl (Am (by omega) (by omega))) ?_
    refine pM (Ac ?_)
    exact t_n (aK ((k+1,p63,ml+1,c63)) ⟨rfl,rfl,trivial⟩ ⟨⟨hX,by omega,⟨_,hMf,by rw[hfn];exact hCf⟩,by rw[hfn];exact hLo,hB3⟩,by(dsimp only;omega)⟩)
   try simp only[dA,dB,dC,dD,dE,dF,dG,Int.not_lt,Int.not_le] at hc53
   have hfn:Be C.L (xss.take (k+1))=Be C.L (xss.take k):=by
     rw[Hx (by omega),Jd,if_neg]
     rw[Cz,Option.or_eq_none_iff]
     rintro⟨h1,h2⟩
     exact hc53 (hC9a.2 h2)
   refine Ak (b_n (t_n (Aa ?_)))
   refine p1 (A0 rfl rfl (Am (by omega) (by omega))) ?_
   refine pM (Ac ?_)
   exact t_n (aK ((k+1,ql,ml,cl)) ⟨rfl,rfl,trivial⟩ ⟨⟨hX,by omega,⟨_,hMf,by rw[hfn];exact hCf⟩,by rw[hfn];exact hLo,hB3⟩,by(dsimp only;omega)⟩)
  try simp only[dA,dB,dC,dD,dE,dF,dG,Int.not_lt,Int.not_le] at hb13_7
  refine sg0 48 rfl (by exact .inl rfl) ?_
  refine sg0 48 rfl (by exact .inl rfl) ?_
  obtain⟨⟨p9,n9,c9⟩,hr9⟩:∃ x:R3,x=(μf (shaF (xss.getD k []))).getD r30:=⟨_,rfl⟩
  obtain⟨hC9a,hC9b⟩:=hCf.get (shaF (xss.getD k []))
  rw[← hr9] at hC9a hC9b
  simp only at hC9a hC9b
  refine sg0 48 rfl (by exact .inl rfl) ?_
  refine sg0 48 rfl (by exact .inl rfl) ?_
  refine s1 (Au rfl (by conv=>lhs;whnf)) ?_
  refine Bx (t_n ?_)
  refine c_f rfl ?_
  have hfn:Be C.L (xss.take (k+1))=Be C.L (xss.take k):=by
    rw[Hx (by omega),Jd,if_neg]
    rw[Cz,Option.or_eq_none_iff]
    rintro⟨h1,h2⟩
    (have h3:=hC0a.2 h1;simp_all)
  refine Ak (b_n (t_n (Aa ?_)))
  refine p1 (A0 rfl rfl (Am (by omega) (by omega))) ?_
  refine pM (Ac ?_)
  exact t_n (aK ((k+1,ql,ml,cl)) ⟨rfl,rfl,trivial⟩ ⟨⟨hX,by omega,⟨_,hMf,by rw[hfn];exact hCf⟩,by rw[hfn];exact hLo,hB3⟩,by(dsimp only;omega)⟩)
 try simp only[dA,dB,dC,dD,dE,dF,dG,Int.not_lt,Int.not_le] at hc36
 have hkk:xss.take k=xss:=List.take_of_length_le (by omega)
 rw[hkk] at hCf hLo
 have hfc:∀ x∈Be C.L xss,x.length≤1048576:=fun x hx=>hle x (Fy xss C.L x hx).2
 have hpf:=Aao hfc
 have hpf2:(putF (Be C.L xss)).2=0:=by rw[hpf]
 have hsl:=Tu hfc
 have hfl:=Ps xss C.L
 have hgl1:=hMf.lt
 have hng:¬ Sd g32:=fun h=>by have:=hSd g32 h;omega
 refine A8 (t_e (t_e (Bq (t_n (Ab ?_)))))
 have hXq:=hX.size
 refine Aa ?_
 refine pM ?_
 refine oC Tryz.func54 (Ts (Be C.L xss) _ _ _ _ _ hLo.sl.obSl (by show (segB (Be C.L xss)).length≤_;have:(Be C.L xss).length * 1048591≤100000 * 1048591:=Nat.mul_le_mul (by omega) (Nat.le_refl _);omega) hg.l.q) ?_
 rintro v14 w14 ⟨⟨qb,mb,cb,rfl,hO⟩,hE14⟩
 have hX:=hX.ext hE14
 have hCX:=hCX.ext hE14
 have hM:=hM.ext hE14
 have hC:=hC.ext hE14
 have hb:=hb.ext hE14
 have hg:=hg.ext hE14
 have hMf:=hMf.ext hE14
 have hCf:=hCf.ext hE14
 have hLo:=hLo.ext hE14
 have hB3:=hB3.ext hE14
 rw[hpf] at hO
 have hO:=hO.lower hXq
 have hOl:(segB (Be C.L xss)).length=mb:=hO.len
 have hmlx:=hLo.len
 refine pM ?_
 refine p1 (Aj rfl rfl) ?_
 refine p1 (Aj rfl rfl) ?_
 have hz13:=hX.size
 have hl13_3:=hB3.lt
 refine Ay zr23 ?_
 intro w15 g13 hN13
 have hE15:=hN13.ext
 have hX:=hX.ext hE15
 have hCX:=hCX.ext hE15
 have hM:=hM.ext hE15
 have hC:=hC.ext hE15
 have hb:=hb.ext hE15
 have hg:=hg.ext hE15
 have hMf:=hMf.ext hE15
 have hCf:=hCf.ext hE15
 have hB3:=hB3.ext hE15
 have hO:=hO.ext hE15
 have hB13:=hN13.blk
 have hq13:=hN13.g_eq
 refine Aw rfl (by conv=>lhs;whnf) rfl rfl sz23 hB13 (by exact Nat.zero_lt_one) ?_
 intro w16 hP16
 have hX:=hX.put hP16 (by omega)
 have hCX:=hCX0.ext hX
 have hM:=(hCX0.ext hX).m
 have hC:=(hCX0.ext hX).c
 have hb:=(hCX0.ext hX).b
 have hg:=hg.put hP16 (by omega)
 have hMf:=hMf.mod (hP16.mod 0 (Nat.zero_le _)) (Nat.zero_le _) (by decide)
 have hCf:=hCf.mod (hP16.mod 0 (Nat.zero_le _)) (Nat.zero_le _) (by decide)
 have hB3:=hP16.keep hB3 (by omega)
 have hO:=hO.mod (hP16.mod 0 (Nat.zero_le _)) (Nat.zero_le _) (by decide)
 have hB13:=hP16.blk
 try simp only[List.setIfInBounds_toArray,List.set_cons_zero,List.set_cons_succ] at hB13
 refine pA (Ac (t_n (Ab (Aa ?_))))
 refine p1 (Ae un30 rfl (hB3.cell (rfl))) ?_
 refine p1 (Ag rfl) ?_
 refine p1 (Ad Do sz3 rfl) ?_
 refine p1 (Ae un3 rfl (hb.cell (rfl))) ?_
 refine oC Tryz.func49 (Bk (C.seg:Int) _ hg.l) ?_
 rintro v17 w17 ⟨rfl,hE17⟩
 have hX:=hX.ext hE17
 have hCX:=hCX.ext hE17
 have hM:=hM.ext hE17
 have hC:=hC.ext hE17
 have hb:=hb.ext hE17
 have hg:=hg.ext hE17
 have hMf:=hMf.ext hE17
 have hCf:=hCf.ext hE17
 have hB3:=hB3.ext hE17
 have hO:=hO.ext hE17
 have hB13:=hB13.ext hE17
 have hz15:=hX.size
 have hl15_3:=hB3.lt
 have hl15_13:=hB13.lt
 refine Ay zr9 ?_
 intro w18 g15 hN15
 have hE18:=hN15.ext
 have hX:=hX.ext hE18
 have hCX:=hCX.ext hE18
 have hM:=hM.ext hE18
 have hC:=hC.ext hE18
 have hb:=hb.ext hE18
 have hg:=hg.ext hE18
 have hMf:=hMf.ext hE18
 have hCf:=hCf.ext hE18
 have hB3:=hB3.ext hE18
 have hO:=hO.ext hE18
 have hB13:=hB13.ext hE18
 have hB15:=hN15.blk
 have hq15:=hN15.g_eq
 refine Aw rfl (by conv=>lhs;whnf) rfl rfl sz9 hB15 (by exact Nat.zero_lt_one) ?_
 intro w19 hP19
 have hX:=hX.put hP19 (by omega)
 have hCX:=hCX0.ext hX
 have hM:=(hCX0.ext hX).m
 have hC:=(hCX0.ext hX).c
 have hb:=(hCX0.ext hX).b
 have hg:=hg.put hP19 (by omega)
 have hMf:=hMf.mod (hP19.mod 0 (Nat.zero_le _)) (Nat.zero_le _) (by decide)
 have hCf:=hCf.mod (hP19.mod 0 (Nat.zero_le _)) (Nat.zero_le _) (by decide)
 have hB3:=hP19.keep hB3 (by omega)
 have hO:=hO.mod (hP19.mod 0 (Nat.zero_le _)) (Nat.zero_le _) (by decide)
 have hB13:=hP19.keep hB13 (by omega)
 have hB15:=hP19.blk
 try simp only[List.setIfInBounds_toArray,List.set_cons_zero,List.set_cons_succ] at hB15
 refine Ac (t_n (Ab (Ab (Aa ?_))))
 refine pM ?_
 refine p1 (Ar u22 rfl) ?_
 refine p1 (Cw rfl rfl) ?_
 refine Ac (t_n ?_)
 refine As rfl (fun hc77=>?_) (fun hc77=>?_)
 ·try simp only[dA,dB,dC,dD,dE,dF,dG,Int.not_lt,Int.not_le] at hc77
  have hlne:Be C.L xss≠[]:=fun e=>by rw[e] at hmlx;simp at hmlx;omega
  have hr1:=Qx (C:=C) hlne
  refine Aa ?_
  refine p1 (Ch (fs:=[]) (cs:=[.pointer (some ⟨g3,0,none⟩),.pointer (some ⟨g15,0,none⟩),.pointer (some ⟨g13,0,none⟩)]) rfl rfl) ?_
  refine p1 (Ch (fs:=[]) (cs:=[.pointer (some ⟨g3,0,none⟩),.pointer (some ⟨g15,0,none⟩)]) rfl rfl) ?_
  refine Av u149 inf95 rfl (by decide) (fun base hb=>Ed [fcv (55,[.pointer (some ⟨g3,0,none⟩),.pointer (some ⟨g15,0,none⟩),.pointer (some ⟨g13,0,none⟩)]),fcv (56,[.pointer (some ⟨g3,0,none⟩),.pointer (some ⟨g15,0,none⟩)])] (by intro v hv';simp only[List.mem_cons,List.not_mem_nil,or_false] at hv';rcases hv' with rfl | rfl <;> rfl) base hb) ?_
  intro w20 g80 hN80
  have hE20:=hN80.ext
  have hX:=hX.ext hE20
  have hCX:=hCX.ext hE20
  have hb:=hb.ext hE20
  have hg:=hg.ext hE20
  have hMf:=hMf.ext hE20
  have hCf:=hCf.ext hE20
  have hB3:=hB3.ext hE20
  have hO:=hO.ext hE20
  have hB13:=hB13.ext hE20
  have hB15:=hB15.ext hE20
  have hS80:Sl kFn 95 0 w20 (some ⟨g80,0,none⟩) 2 2 [(55,[.pointer (some ⟨g3,0,none⟩),.pointer (some ⟨g15,0,none⟩),.pointer (some ⟨g13,0,none⟩)]),(56,[.pointer (some ⟨g3,0,none⟩),.pointer (some ⟨g15,0,none⟩)])]:=(B4 (B0:=0) ([(55,[.pointer (some ⟨g3,0,none⟩),.pointer (some ⟨g15,0,none⟩),.pointer (some ⟨g13,0,none⟩)]),(56,[.pointer (some ⟨g3,0,none⟩),.pointer (some ⟨g15,0,none⟩)])]:List Clo) hN80 (Nat.zero_le _) (by simp)).sl
  have hD:=hCX.d
  have hOu:=Xm (S:=Sd) hO hSd
  have hXs:=hX.size
  refine oC Tryz.func45 (Qe [(55,[.pointer (some ⟨g3,0,none⟩),.pointer (some ⟨g15,0,none⟩),.pointer (some ⟨g13,0,none⟩)]),(56,[.pointer (some ⟨g3,0,none⟩),.pointer (some ⟨g15,0,none⟩)])] [fun D=>Bm D (nSeg C.seg) (segB (Be C.L xss)),fun D=>syncD D (nSeg C.seg)] (fun i=>k_+i) gd Sd C.D _ _ _ _ hD (hGd) hS80 rfl (fun i hi=>?_)) ?_
  · rcases i with _ | _ | i
    · exact⟨Tryz.f55,Tryz.func55,fn55,fb55,fun Di w1 hDi m hgi=>(Ae8 gd _ Di w1 hDi hgi.ok (Nat.lt_of_le_of_lt hgi.steps (by show _+_<_;omega)) hgi.left hgi.names g3 g15 g _ (nSeg C.seg) (C0 _) (hB3.modS m (.inr (by decide))) (hb.modS m (.inr (by decide))) rfl (hB15.modS m (.inr (by decide))) g13 _ _ _ _ _ _ (hB13.modS m (.inr (by decide))) (hOu.modS m).sl).dg (hgi.append _ _)⟩
    · exact⟨Tryz.f56,Tryz.func56,fn56,fb56,fun Di w1 hDi m hgi=>(Ae7 gd _ Di w1 hDi hgi.ok (Nat.lt_of_le_of_lt hgi.steps (by show _+_<_;omega)) hgi.left hgi.names g3 g15 g _ (nSeg C.seg) (C0 _) (hB3.modS m (.inr (by decide))) (hb.modS m (.inr (by decide))) rfl (hB15.modS m (.inr (by decide)))).dg (hgi.sync _)⟩
    · exact absurd hi (by omega)
  rintro v21 w21 ⟨rfl,hD2,hM2⟩
  have hXe:=hX
  have hgl:=hMf.lt
  have hX:=(ModS.ofExt (S:=S) (E:=EC) hXe).stepE hM2 (Eu hCX0.start)
  have hCX:=(hCX0.start.ext hXe).stepD hXs hM2 hD2
  have hb:Blk _ g (stoV gd C pi ni ci r nx) tSto:=hCX.b
  have hg:=hg.modS hM2 (fun j hj=>hS j (hCX0.sub j hj))
  have hB3:=hB3.modS hM2 (.inr (by decide))
  have hB13:=hB13.modS hM2 (.inr (by decide))
  have hMf:=(hMf.lower (Nat.zero_le _)).turn hM2 hng rfl
  have hCf:=hCf.turn hM2
  have hng:¬ grow Sd w20 w21 g32:=fun h=>hng (G8 h hgl)
  have hgl:=hMf.lt
  have hGd:Good (runD [fun D=>Bm D (nSeg C.seg) (segB (Be C.L xss)),fun D=>syncD D (nSeg C.seg)] C.D).1 (k_+2):=(hGd.append _ _).andD (fun D h=>(h.sync _).andD (fun D h=>h) (Nat.le_refl _)) (by omega)
  refine pA (Ac (t_n (Ab (Ab (Aa ?_)))))
  refine pM ?_
  refine p1 (Bw rfl rfl) ?_
  refine Ac (t_n ?_)
  refine As rfl (fun hc83=>?_) (fun hc83=>?_)
  ·try simp only[dA,dB,dC,dD,dE,dF,dG,Int.not_lt,Int.not_le] at hc83
   have hpr:=Dy (f:=fun D=>writeM D ⟨C.seg,C.size+(segB (Be C.L xss)).length,ix⟩) (r:=put1 C (Be C.L xss)) (by rw[hr1];try omega)
   have hput:putR C (Be C.L xss) ix=writeM (put1 C (Be C.L xss)).1 ⟨C.seg,C.size+mb,ix⟩:=by rw[← hOl];exact hpr
   rw[hr1] at hput
   refine Cx 17 mixed (by kernel_rfl) ?_
   intro w22 hE22
   have hX:=hX.ext hE22
   have hCX:=hCX.ext hE22
   have hb:=hb.ext hE22
   have hg:=hg.ext hE22
   have hB3:=hB3.ext hE22
   have hB13:=hB13.ext hE22
   have hMf:=hMf.ext hE22
   have hCf:=hCf.ext hE22
   refine s1 (Ae un30 rfl (hB3.cell (rfl))) ?_
   refine s1 (Ag rfl) ?_
   refine s1 (Ad Ea sz34 rfl) ?_
   refine s1 (Ae un34 rfl (hb.cell (rfl))) ?_
   refine s1 (Ae un30 rfl (hB3.cell (rfl))) ?_
   refine s1 (Ag rfl) ?_
   refine s1 (Ad Do sz3 rfl) ?_
   refine s1 (Ae un3 rfl (hb.cell (rfl))) ?_
   refine s1 (Ae un30 rfl (hB3.cell (rfl))) ?_
   refine s1 (Ag rfl) ?_
   refine s1 (Ad E1 sz3 rfl) ?_
   refine s1 (Ae un3 rfl (hb.cell (rfl))) ?_
   refine s1 (Ae un23 rfl (hB13.cell (rfl))) ?_
   refine s1 (Ar u23 rfl) ?_
   refine s1 ((A0 rfl rfl (Am (by omega) (by omega))).cast (congrArg (Value.int .i64) (by omega:_=((C.size+mb:Nat):Int)))) ?_
   refine s1 (Af (by conv=>lhs;whnf)) ?_
   refine s1 (Om pl99 rfl rfl rfl rfl rfl rfl) ?_
   refine Bx ?_
   have hXs:=hX.size
   have hgl:=hMf.lt
   have hix2:=(hix.modS hX).sl5
   refine oC Tryz.func51 (It gd _ _ _ hCX.d hGd.ok (Nat.lt_of_le_of_lt hGd.steps (by omega)) hGd.left hGd.names C.seg (C.size+mb) ix 0 _ _ _ _ hix2 hg.l.q) ?_
   rintro v23 w23 ⟨rfl,hD2,hM2⟩
   have hmz:=hM2.size
   have hMf:=(hMf.lower (Nat.zero_le _)).turn hM2 hng rfl
   have hng:¬ grow _ w22 w23 g32:=fun h=>hng (G8 h hgl)
   have hgl:=hMf.lt
   have hX:=hX.stepE hM2 (Eu hCX)
   have hCf:=hCf.turn hM2
   have hCX:=hCX.stepD hXs hM2 hD2
   have hb:Blk w23 g (stoV gd C pi ni ci r nx) tSto:=hCX.b
   have hGd:=hGd.writeM ⟨C.seg,C.size+mb,ix⟩
   have hB3:=hB3.modS hM2 (.inr (by decide))
   have hB13:=hB13.modS hM2 (.inr (by decide))
   refine pA (Ac (t_n (Ab (Ab (Aa ?_)))))
   refine pM ?_
   refine p1 (A2 rfl rfl) ?_
   refine Ac (t_n ?_)
   refine As rfl (fun hc103=>?_) (fun hc103=>?_)
   ·try simp only[dA,dB,dC,dD,dE,dF,dG,Int.not_lt,Int.not_le] at hc103
    exact absurd hokR (by rw[hput];exact hc103)
   try simp only[dA,dB,dC,dD,dE,dF,dG,Int.not_lt,Int.not_le] at hc103
   refine Ak (t_n (Ab ?_))
   refine Cx 9 mixed (by kernel_rfl) ?_
   intro w24 hE24
   have hX:=hX.ext hE24
   have hCX:=hCX.ext hE24
   have hb:=hb.ext hE24
   have hB3:=hB3.ext hE24
   have hB13:=hB13.ext hE24
   have hMf:=hMf.ext hE24
   have hCf:=hCf.ext hE24
   refine s1 (Ae un30 rfl (hB3.cell (rfl))) ?_
   refine s1 (Ag rfl) ?_
   refine s1 (Ad E1 sz3 rfl) ?_
   refine s1 (Ae un3 rfl (hb.cell (rfl))) ?_
   refine s1 (Ae un23 rfl (hB13.cell (rfl))) ?_
   refine s1 (Ar u23 rfl) ?_
   refine s1 ((A0 rfl rfl (Am (by omega) (by omega))).cast (congrArg (Value.int .i64) (by omega:_=((C.size+mb:Nat):Int)))) ?_
   refine s1 (Ag rfl) ?_
   refine s1 (Ad E1 sz3 rfl) ?_
   refine Bx ?_
   refine Aw rfl (by conv=>lhs;whnf) rfl rfl sz3 hb (by show _<7;omega) ?_
   intro w25 hP25
   have hX:=hX.put hP25 (⟨.inl hsg,by decide⟩)
   have hb:=hP25.blk
   try simp only[List.setIfInBounds_toArray,List.set_cons_zero,List.set_cons_succ] at hb
   have hB3:=hP25.keep hB3 (by omega)
   have hB13:=hP25.keep hB13 (by omega)
   have hMf:=hMf.mod (hP25.mod 0 (Nat.zero_le _)) (Nat.zero_le _) (by decide)
   have hCf:=hCf.mod (hP25.mod 0 (Nat.zero_le _)) (Nat.zero_le _) (by decide)
   have hCX:=hCX.setSize (z:=C.size+mb) hP25
   have hb:=hCX.b
   refine Ac (t_n (Ab ?_))
   refine Bj (fun _ w2=>Blk w2 g3 #[.pointer (some ⟨g,0,none⟩)] 30) mixed ?_
   intro w26 hE26
   have hX:=hX.ext hE26
   have hb:=hb.ext hE26
   have hB3:=hB3.ext hE26
   have hB13:=hB13.ext hE26
   have hMf:=hMf.ext hE26
   have hCf:=hCf.ext hE26
   have hCX:=hCX.ext hE26
   have hSr27:(fun _ w2=>Blk w2 g3 #[.pointer (some ⟨g,0,none⟩)] 30) w26 w26:=hB3
   refine hT 0 rfl hSr27 (fun wS hSS=>by(have hB3:=hSS;exact(Ae un30 rfl (hB3.cell (rfl))))) ?_
   refine hT 1 rfl hSr27 (fun wS hSS=>by(exact(Af (by conv=>lhs;whnf)))) ?_
   refine h1L 2 (fun Q2 hQ2=>?_)
   have hCX:=hCX.mono (fun _ _ h=>h)
   have hCf:=hCf.narrowD
   refine oC Tryz.func58 (Cp ix _ _ _ _ _ _ (hix.modS hX).sl (by omega)) ?_
   rintro v27 w27 ⟨⟨q8,c8,rfl,hI8⟩,hE27⟩
   have hX:=hX.ext hE27
   have hb:=hb.ext hE27
   have hB3:=hB3.ext hE27
   have hB13:=hB13.ext hE27
   have hMf:=hMf.ext hE27
   have hCf:=hCf.ext hE27
   have hCX:=hCX.ext hE27
   have hSr27:=hSr27.ext hE27
   have hF8:=hCX.newRow hI8
   refine An hQ2 ⟨hSr27,?_⟩
   refine hT 3 rfl hSr27 (fun wS hSS=>by(exact(Ag rfl))) ?_
   refine hT 4 rfl hSr27 (fun wS hSS=>by(exact(Ad Mq sz23 rfl))) ?_
   refine h1L 5 (fun Q5 hQ5=>?_)
   refine Aw rfl (by conv=>lhs;whnf) rfl rfl sz23 hb (by show _<7;omega) ?_
   intro w28 hP28
   have hX:=hX.put hP28 (⟨.inl hsg,by decide⟩)
   have hb:=hP28.blk
   try simp only[List.setIfInBounds_toArray,List.set_cons_zero,List.set_cons_succ] at hb
   have hB3:=hP28.keep hB3 (by omega)
   have hB13:=hP28.keep hB13 (by omega)
   have hMf:=hMf.mod (hP28.mod 0 (Nat.zero_le _)) (Nat.zero_le _) (by decide)
   have hCf:=hCf.mod (hP28.mod 0 (Nat.zero_le _)) (Nat.zero_le _) (by decide)
   have hSr27:=hP28.keep hSr27 (by omega)
   have hF8:=hF8.one hP28.one (by decide)
   have hCX:=hCX.setIndex hP28 hF8
   have hb:=hCX.b
   refine An hQ5 ⟨hSr27,?_⟩
   refine A7 (by kernel_rfl) ?_
   refine t_n (Ab (Aa ?_))
   refine p1 (Ae un30 rfl (hB3.cell (rfl))) ?_
   refine p1 (Ag rfl) ?_
   refine p1 (Ad Hq sz88 rfl) ?_
   refine p1 (Ae un88 rfl (hb.cell (rfl))) ?_
   refine pM ?_
   refine oC Tryz.func59 (J6 r g32 (Be C.L xss).length μ μf _ hCX.m (hMf.lower (Nat.zero_le _)) (by omega) (H4 hCf)) ?_
   rintro v29 w29 ⟨hMn,hMT⟩
   have hX:=hX.trans (hMT.wideT (E':=EC) (by decide)) (fun j hj h=>by rw[show j=r from h];exact hCX0.sr)
   have hCX:=hCX.copied hMT hMn ((hCX.c.mapT hMT).both (hCf.mapT hMT) (fun x hx=>(Fy xss C.L x hx).1))
   refine Ac (t_n (Ab (Aa ?_)))
   refine pA (Ac (t_n (Ao ?_)))
   refine eR1 ?_
   (rw[hpm,hput,if_neg hc103,hOl];exact⟨rfl,hCX.done,hX⟩)
  try simp only[dA,dB,dC,dD,dE,dF,dG,Int.not_lt,Int.not_le] at hc83
  have hput:putR C (Be C.L xss) ix=put1 C (Be C.L xss):=Ee (by rw[hr1];(intro h;exact hc83 h))
  rw[hr1] at hput
  exact absurd hokR (by rw[hput];exact hc83)
 try simp only[dA,dB,dC,dD,dE,dF,dG,Int.not_lt,Int.not_le] at hc77
 exact absurd (List.length_eq_zero_iff.1 (by omega)) hfr
theorem Afk (w:World) (hg:Gt w) :
    Ret Tryz.prog 11 [] w (fun v w'=>v = .bool true∧Ext w w'):=by
 have hgs:=hg.size
 have hX:=Ext.refl w
 refine eN 65 Tryz.func11 ?_
 refine Ab (Aa ?_)
 refine pA (Ac (t_n (Ab (Aa ?_))))
 have hXs1:=hX.size
 refine oC Tryz.func13 (U8 1000 _) ?_
 rintro v1 w1 ⟨⟨gd,rfl,hD⟩,hE1⟩
 have hX:=hX.ext hE1
 have hg:=hg.ext hE1
 have hD:Dsk (since w) _ gd (newD 1000):=hD.mono (fun k _ h=>h.elim False.elim fun q=>Nat.le_trans hXs1 q.1)
 refine pA (Ac (t_n (Ab (Aa ?_))))
 refine pM ?_
 have hXs:=hX.size
 refine oC Tryz.func12 (Jn gd (since w) (newD 1000) _ hD (Xr 1000) (by show 0<_;omega) (by show (-1:Int)≤_;omega) (fun x hx=>by cases hx) (fun k h=>Nat.le_trans hgs (show w.heap.size≤k from h)) hg) ?_
 rintro v2 w2 ⟨⟨pv2,rfl,hor2⟩,hM2⟩
 obtain⟨hn1,hn2,hn3,hn4,hn5,hn6⟩:=Aa1 (most:=1000) (M:=1000) (by rfl) (by have:=Rm;omega)
 obtain⟨ho2,g,rfl,hC⟩:=hor2.resolve_right (fun h=>h.1 hn1)
 rw[ho2]
 obtain⟨C1,hC1⟩:∃ c,c=(openC (newD 1000)).1:=⟨_,rfl⟩
 rw[← hC1] at hC hn2 hn3 hn4 hn5 hn6
 have hX:=hX.modS hM2 (Ep w)
 have hg:=hg.modS hM2 (fun k h=>Nat.le_trans hgs (show w.heap.size≤k from h))
 have hC:=hC.sub (w:=w) (fun j h=>h.elim (fun h=>h) fun q=>Nat.le_trans hXs q.1)
 obtain⟨Z,hZ⟩:∃ z,z=w2.heap.size:=⟨_,rfl⟩
 rw[← hZ] at hC
 have hXZ:=Ext.refl w2
 have hwZ:=hX.size
 obtain⟨hp1,hp2,hp3,hp4,hp5⟩:=Ab8 hn2 hn3 hn4 hn5 hn6
 refine pM ?_
 refine p1 (Aj rfl rfl) ?_
 refine p1 (Aj rfl rfl) ?_
 refine pA (pA (Ac (t_n (Ab (Ab (Aa ?_))))))
 refine pM ?_
 refine p1 ((A2 rfl rfl).cast (congrArg Value.bool (decide_eq_false (by simp)))) ?_
 refine pM (gM 13 ?_)
 refine g1 13 rfl rfl ((Cc u30 rfl rfl).cast (congrArg Value.bool (decide_eq_false (by simp)))) ?_
 refine p1 (Au rfl (by conv=>lhs;whnf)) ?_
 refine pM (gM 17 ?_)
 refine Cd 17 rfl rfl ?_
 refine Av u23 inf5 rfl (by decide) (fun base hb=>Br (by rfl) base hb) ?_
 intro w3 g19 hN19
 have hN19:New _ _ g19 ([(97:UInt8)].map fun b=>[cell b]).flatten.toArray 5:=hN19
 have hg19:=hN19.g_eq
 have hZs:=hXZ.size
 have hO19:Own kByte 5 0 0 w3 (some ⟨g19,0,none⟩) 1 1 [(97:UInt8)]:=B4 (B0:=0) [(97:UInt8)] hN19 (Nat.zero_le _) (by simp)
 have hJ19:=hO19.sl
 have hE3:=hN19.ext
 have hX:=hX.ext hE3
 have hXZ:=hXZ.ext hE3
 refine Cd 17 rfl rfl ?_
 refine Ug u23 u5 rfl hN19.blk ?_
 intro w4 hO4 hR4
 have hX:=hX.mod (hO4.mod (B:=w.heap.size) (by omega)) (Nat.le_refl _)
 have hXZ:=hXZ.mod (hO4.mod (B:=Z) (by omega)) (by omega)
 have hs19:=(slx hJ19 hR4).re (Nat.le_refl _) 5
 have ho19:=Xn (w:=w) (Z:=Z) hs19 rfl (by omega)
 refine Cd 17 rfl rfl ?_
 refine Av u22 inf23 rfl (by decide) (fun base hb=>Br (by rfl) base hb) ?_
 intro w5 g21 hN21
 have hB21:=hN21.blk
 have hE5:=hN21.ext
 have hs19:=hs19.ext hE5
 have hX:=hX.ext hE5
 have hXZ:=hXZ.ext hE5
 refine Cd 17 rfl rfl ?_
 refine Av u23 inf5 rfl (by decide) (fun base hb=>Br (by rfl) base hb) ?_
 intro w6 g22 hN22
 have hN22:New _ _ g22 ([(105:UInt8)].map fun b=>[cell b]).flatten.toArray 5:=hN22
 have hg22:=hN22.g_eq
 have hZs:=hXZ.size
 have hO22:Own kByte 5 0 0 w6 (some ⟨g22,0,none⟩) 1 1 [(105:UInt8)]:=B4 (B0:=0) [(105:UInt8)] hN22 (Nat.zero_le _) (by simp)
 have hJ22:=hO22.sl
 have hE6:=hN22.ext
 have hX:=hX.ext hE6
 have hXZ:=hXZ.ext hE6
 have hB21:=hB21.ext hE6
 refine Cd 17 rfl rfl ?_
 refine Ug u23 u5 rfl hN22.blk ?_
 intro w7 hO7 hR7
 have hX:=hX.mod (hO7.mod (B:=w.heap.size) (by omega)) (Nat.le_refl _)
 have hXZ:=hXZ.mod (hO7.mod (B:=Z) (by omega)) (by omega)
 have hs22:=(slx hJ22 hR7).re (Nat.le_refl _) 5
 have ho22:=Xn (w:=w) (Z:=Z) hs22 rfl (by omega)
 have hs19:=(slx (hs19.ext hN22.ext) hR7).re (Nat.le_refl _) 5
 have hB21:=hB21.one hO7 (by decide)
 have hkl:=Acy hB21 hs19
 refine Cd 17 rfl rfl ?_
 obtain⟨Sd,r,μ,pi,ni,ci,nx,hCX⟩:=hC.ext hXZ
 refine oC Tryz.func14 (Afl g gd r (sub w Z) Sd μ pi nx ni ci C1 5 _ hCX (hn2.cn (by omega) (by rw[hn3];simp)) (fun j h=>Nat.le_trans hgs h.1) (hg.ext hXZ) (by omega) [[97]] _ _ _ _ hkl (Nat.le_refl _) (by omega) [105] _ _ _ ho22 hp1 (by rw[hn3];simp[Be,findF])) ?_
 rintro v8 w8 ⟨rfl,hC,hM8⟩
 rw[hp1]
 have hX:=hX.modS hM8 (fun k h=>h.1)
 have hg:=(hg.ext hXZ).modS hM8 (fun j h=>Nat.le_trans hgs h.1)
 obtain⟨C2,hC2⟩:∃ c,c=(putC C1 [[97]] [105]).1:=⟨_,rfl⟩
 rw[← hC2] at hC hp2 hp3 hp4 hp5
 obtain⟨Sd,r,μ,pi,ni,ci,nx,hCX⟩:=hC
 have hXs3:=hXZ.size
 have hD:Dsk (since w) _ gd C2.D:=hCX.d.mono (fun j _ h=>(hCX.sub j h).elim (fun h=>h.1) fun q=>by show w.heap.size≤j;have:=q.1;omega)
 have hU:=hp2.cn (by omega) (by rw[hp3];simp)
 refine g1 17 rfl rfl ((A2 rfl rfl).cast (congrArg Value.bool (decide_eq_false (by simp)))) ?_
 refine p1 (Au rfl (by conv=>lhs;whnf)) ?_
 refine Ac (t_n ?_)
 refine c_f rfl ?_
 refine Ak (t_n (Ab (Aa ?_)))
 refine pM ?_
 have hXs:=hX.size
 refine oC Tryz.func12 (Jn gd (since w) C2.D _ hD hU.good.ok (Nat.lt_of_le_of_lt hU.good.steps (by omega)) hU.good.left hU.good.names (fun k h=>Nat.le_trans hgs (show w.heap.size≤k from h)) hg) ?_
 rintro v9 w9 ⟨⟨pv9,rfl,hor9⟩,hM9⟩
 obtain⟨ho3,g2,rfl,hC⟩:=hor9.resolve_right (fun h=>h.1 (by rw[hp2.open]))
 rw[ho3]
 rw[hp2.open] at hC
 have hX:=hX.modS hM9 (Ep w)
 obtain⟨Se,r2,μ2,pi2,ni2,ci2,nx2,hCX⟩:=hC
 refine pM ?_
 refine p1 (Aj rfl rfl) ?_
 refine p1 (Aj rfl rfl) ?_
 refine pA (pA (Ac (t_n (Ab (Aa ?_)))))
 refine pM ?_
 refine p1 ((Bw rfl rfl).cast (congrArg Value.bool (decide_eq_true (rfl)))) ?_
 refine pM (gM 34 ?_)
 refine g1 34 rfl rfl ((Fc u30 rfl rfl).cast (congrArg Value.bool (decide_eq_true (by simp)))) ?_
 refine p1 (Ax rfl (by conv=>lhs;whnf)) ?_
 refine pM (gM 38 ?_)
 refine Cd 38 rfl rfl ?_
 refine oC Tryz.func31 (M9 g2 gd r2 _ Se μ2 pi2 nx2 ni2 ci2 C2 11 _ hCX hU) ?_
 rintro v10 w10 ⟨⟨qi,mi,cj,rfl,hO⟩,hE10⟩
 have hX:=hX.ext hE10
 have hCX:=hCX.ext hE10
 rw[hp4] at hO
 refine g1 38 rfl rfl (Cg u23 u5 u9 rfl hO.sl) ?_
 refine g1 38 rfl rfl ((Fj rfl (show _=Value.string (toStr [105]) from rfl)).cast (congrArg Value.bool (decide_eq_true (rfl)))) ?_
 refine p1 (Ax rfl (by conv=>lhs;whnf)) ?_
 refine pM (gM 44 ?_)
 refine Cd 44 rfl rfl ?_
 refine oC Tryz.func15 (Ou g2 gd r2 _ Se μ2 pi2 nx2 ni2 ci2 C2 11 _ hCX hU) ?_
 rintro v11 w11 ⟨rfl,hE11⟩
 have hX:=hX.ext hE11
 have hCX:=hCX.ext hE11
 refine g1 44 rfl rfl ((Bw rfl rfl).cast (congrArg Value.bool (decide_eq_true (by rw[hp5];rfl)))) ?_
 refine p1 (Ax rfl (by conv=>lhs;whnf)) ?_
 refine pM (gM 49 ?_)
 refine Cd 49 rfl rfl ?_
 refine oC Tryz.func30 (Ov g2 gd r2 _ Se μ2 pi2 nx2 ni2 ci2 C2 11 _ hCX hU) ?_
 rintro v12 w12 ⟨⟨qk,mk,ck,rfl,hK⟩,hE12⟩
 have hX:=hX.ext hE12
 have hkl:=hK.len
 rw[hp3] at hkl
 have hk1:mk=1:=hkl.symm
 refine g1 49 rfl rfl (Ar u54 rfl) ?_
 refine g1 49 rfl rfl ((Bw rfl rfl).cast (congrArg Value.bool (decide_eq_true (by rw[hk1];rfl)))) ?_
 refine p1 (Ax rfl (by conv=>lhs;whnf)) ?_
 refine pM ?_
 refine p1 (Ax rfl (by conv=>lhs;whnf)) ?_
 refine pM ?_
 refine p1 (Ax rfl (by conv=>lhs;whnf)) ?_
 refine pM ?_
 refine p1 (Ax rfl (by conv=>lhs;whnf)) ?_
 refine pM ?_
 refine p1 (Ax rfl (by conv=>lhs;whnf)) ?_
 refine pM ?_
 refine p1 (Ax rfl (by conv=>lhs;whnf)) ?_
 refine pA (Ac (t_n (Ao ?_)))
 refine eR1 ?_
 exact⟨rfl,hX⟩
end Go.Proofs.Eng
end
section
set_option maxRecDepth 100000
set_option maxHeartbeats 4000000
namespace Go.Proofs.Eng
open Go.RowKit
open Extern.Stop (cell)
theorem Yw (xs:List UInt8) (B:Nat) (p:Option Addr) (n c:Nat) (w:World) (hl:Sl kByte 5 B w p n c xs) :
    Ret Tryz.prog 111 [.slice p n c] w (fun v w'=>(∃ (seg size:Int) (q:Option Addr) (m c':Nat) (e:Int),v = .tuple #[.agg #[.int .i64 seg,.int .i64 size,.slice q m c'],.int .i64 e]∧((e=0∧∃ M:Mf,ManOf xs M∧seg=(M.seg:Int)∧size=(M.size:Int)∧Sl kByte 5 0 w' q m c' M.index)∨(e=4∧¬ ∃ M,ManOf xs M)))∧Ext w w'):=by
 have hX:=Ext.refl w
 refine eN 66 Tryz.func111 ?_
 refine Ab (Aa ?_)
 have hz2:=hX.size
 refine Ay zr157 ?_
 intro w1 g2 hN2
 have hE1:=hN2.ext
 have hX:=hX.ext hE1
 have hB2:=hN2.blk
 have hq2:=hN2.g_eq
 refine pA (Ac (t_n (Ab (Aa ?_))))
 refine pM ?_
 refine oC Tryz.func154 (O7 xs _ _ _ _ _ (hl.ext hX)) ?_
 rintro v2 w2 ⟨⟨qo,mo,co,rfl,hO⟩,hE2⟩
 have hX:=hX.ext hE2
 have hB2:=hB2.ext hE2
 have hO:=hO.sl
 refine pM ?_
 refine p1 (Aj rfl rfl) ?_
 refine p1 (Aj rfl rfl) ?_
 refine p1 (Aj rfl rfl) ?_
 have hXs1:=hX.size
 have hz4:=hX.size
 have hl4_2:=hB2.lt
 refine Ay zr201 ?_
 intro w3 g4 hN4
 have hE3:=hN4.ext
 have hX:=hX.ext hE3
 have hB2:=hB2.ext hE3
 have hO:=hO.ext hE3
 have hB4:=hN4.blk
 have hq4:=hN4.g_eq
 refine Al rfl (by conv=>lhs;whnf) (by simp[Value.oneCell']) (by exact sz201) hB4 (by rfl) ?_
 intro w4 hP4
 have hX:=hX.put hP4 (by omega)
 have hB2:=hP4.keep hB2 (by omega)
 have hO:=hO.mod (hP4.mod 0 (Nat.zero_le _)) (Nat.zero_le _) (by decide)
 have hB4:=hP4.blk
 refine pA (pA (Ac (t_n (Ab (Ab ?_)))))
 have hWr2:=Ext.refl w4
 refine Dn (ι:=Unit) [18,19,20,21,22,23,24] (fun _=>[(24,.bool (decide ((openF xs).2.2≠0∨((openF xs).1.1.toNat:Int)≠3)))]) (fun _ w'=>Ext w4 w') ?_ ?_
 ·skip
  refine Aa ?_
  refine pM ?_
  refine p1 (A2 rfl rfl) ?_
  refine p1b (Af (by conv=>lhs;whnf)) (fun hb2_2=>?_) (fun hb2_2=>?_)
  ·try simp only[dA,dB,dC,dD,dE,dF,dG,Int.not_lt,Int.not_le] at hb2_2
   refine gF 20 (gF 20 (gF 20 ?_))
   refine p1 (Ax rfl (by conv=>lhs;whnf)) ?_
   refine Ac ?_
   refine t_n (aK () ⟨congrArg Value.bool (by exact(decide_eq_true (by omega)).symm),trivial⟩ hWr2)
  try simp only[dA,dB,dC,dD,dE,dF,dG,Int.not_lt,Int.not_le] at hb2_2
  refine g1 20 rfl rfl (Ad Xx sz5 rfl) ?_
  refine g1 20 rfl rfl (Ae un5 rfl (hB4.cell (rfl))) ?_
  refine g1 20 rfl rfl ((A2 rfl rfl)) ?_
  refine p1 (Au rfl (by conv=>lhs;whnf)) ?_
  refine Ac ?_
  refine t_n (aK () ⟨congrArg Value.bool (by exact decide_eq_decide.2 (by omega)),trivial⟩ hWr2)
 rintro _ Gr2 w5 hE5
 have hX:=hX.ext hE5
 have hB2:=hB2.ext hE5
 have hO:=hO.ext hE5
 have hB4:=hB4.ext hE5
 refine t_n ?_
 refine As rfl (fun hc24=>?_) (fun hc24=>?_)
 ·try simp only[dA,dB,dC,dD,dE,dF,dG,Int.not_lt,Int.not_le] at hc24
  have hno:¬ ∃ M,ManOf xs M:=fun ⟨M,hM⟩=>by
    have h9:=Fv hM
    rw[h9] at hc24
    simp at hc24
  refine Ab (Aa ?_)
  refine p1 (Dl pl157 rfl) ?_
  refine Al rfl (by conv=>lhs;whnf) (by simp[Value.oneCell']) (by exact sz157) hB2 (by rfl) ?_
  intro w6 hP6
  have hX:=hX.put hP6 (by omega)
  have hB2:=hP6.blk
  have hB4:=hP6.keep hB4 (by omega)
  refine pA (Ac (t_n (Ao (t_r ?_))))
  refine end2c rfl ua157 rfl (by conv=>lhs;whnf) hB2 sz157 ?_
  exact⟨⟨0,0,none,0,0,4,rfl,.inr ⟨rfl,hno⟩⟩,hX⟩
 try simp only[dA,dB,dC,dD,dE,dF,dG,Int.not_lt,Int.not_le] at hc24
 have h0:(openF xs).2.2=0:=Classical.byContradiction fun h=>hc24 (.inl h)
 have hbl:=(G3 h0).2.1
 have hbo:∀ M,ManOf xs M→Dx M=(openF xs).1.2:=fun M h=>by rw[Fv h]
 have hol:=hO.len
 refine Ak (t_n (Ab (Aa ?_)))
 refine p1 (Ad Xw sz23 rfl) ?_
 refine p1 (Ae un23 rfl (hB4.cell (rfl))) ?_
 refine p1 (M7 pl205 (by conv=>lhs;whnf) rfl) ?_
 have hXs4:=hX.size
 have hlt4:=hB4.lt
 have hz7:=hX.size
 have hl7_2:=hB2.lt
 have hl7_4:=hB4.lt
 refine Ay zr205 ?_
 intro w7 g7 hN7
 have hE7:=hN7.ext
 have hX:=hX.ext hE7
 have hB2:=hB2.ext hE7
 have hO:=hO.ext hE7
 have hB4:=hB4.ext hE7
 have hB7:=hN7.blk
 have hq7:=hN7.g_eq
 refine Al rfl (by conv=>lhs;whnf) (by simp[Value.oneCell']) (by exact sz205) hB7 (by rfl) ?_
 intro w8 hP8
 have hX:=hX.put hP8 (by omega)
 have hB2:=hP8.keep hB2 (by omega)
 have hO:=hO.mod (hP8.mod 0 (Nat.zero_le _)) (Nat.zero_le _) (by decide)
 have hB4:=hP8.keep hB4 (by omega)
 have hB7:=hP8.blk
 refine Ac (t_n (Ab (Aa ?_)))
 refine p1 (Aq ua205 rfl hB7 sz205) ?_
 refine oC Tryz.func155 (Nd (openF xs).1.2 _ _ _ _ 0 _ hO 999999 (by omega)) ?_
 rintro v9 w9 ⟨⟨q1,m1,c1,e1,R1,N1,rfl,hN1,hs1,hT1⟩,hE9⟩
 have hX:=hX.ext hE9
 have hB2:=hB2.ext hE9
 have hB4:=hB4.ext hE9
 have hB7:=hB7.ext hE9
 refine pM ?_
 refine p1 (Aj rfl rfl) ?_
 refine p1 (Aj rfl rfl) ?_
 refine Al rfl (by conv=>lhs;whnf) (by simp[Value.oneCell']) (by exact sz205) hB7 (by rfl) ?_
 intro w10 hP10
 have hX:=hX.put hP10 (by omega)
 have hB2:=hP10.keep hB2 (by omega)
 have hB4:=hP10.keep hB4 (by omega)
 have hB7:=hP10.blk
 have hs1:=hs1.mod (hP10.mod 0 (Nat.zero_le _)) (Nat.zero_le _) (by decide)
 refine pA (Ac (t_n (Ab (Aa ?_))))
 refine p1 (Aq ua205 rfl hB7 sz205) ?_
 refine oC Tryz.func155 (Nd R1 _ _ _ _ e1 _ hs1 16777216 (by omega)) ?_
 rintro v11 w11 ⟨⟨q2,m2,c2,e2,R2,N2,rfl,hN2,hs2,hT2⟩,hE11⟩
 have hX:=hX.ext hE11
 have hB2:=hB2.ext hE11
 have hB4:=hB4.ext hE11
 have hB7:=hB7.ext hE11
 refine pM ?_
 refine p1 (Aj rfl rfl) ?_
 refine p1 (Aj rfl rfl) ?_
 refine Al rfl (by conv=>lhs;whnf) (by simp[Value.oneCell']) (by exact sz205) hB7 (by rfl) ?_
 intro w12 hP12
 have hX:=hX.put hP12 (by omega)
 have hB2:=hP12.keep hB2 (by omega)
 have hB4:=hP12.keep hB4 (by omega)
 have hB7:=hP12.blk
 have hs2:=hs2.mod (hP12.mod 0 (Nat.zero_le _)) (Nat.zero_le _) (by decide)
 refine pA (Ac (t_n (Ab (Ab ?_))))
 obtain⟨hRl,hRd,hRm⟩:=Ul hbo hT1 hT2
 have hMx:∀ M,ManOf xs M→e2=0∧M=⟨N1,N2,R2⟩:=fun M hM=>by
   obtain⟨g1,g2,g3,g4⟩:=hRm M hM
   refine⟨g1,?_⟩
   cases M with | mk a b c=>simp only at g2 g3 g4;rw[g2,g3,g4]
 refine Aa ?_
 refine p1 (Ad Lu sz3 rfl) ?_
 refine p1 (Ae un3 rfl (hB7.cell (rfl))) ?_
 refine p1 (A2 rfl rfl) ?_
 refine Ac (t_n ?_)
 refine As rfl (fun hc41=>?_) (fun hc41=>?_)
 ·try simp only[dA,dB,dC,dD,dE,dF,dG,Int.not_lt,Int.not_le] at hc41
  refine Ab (Aa ?_)
  refine p1 (Dl pl157 rfl) ?_
  refine Al rfl (by conv=>lhs;whnf) (by simp[Value.oneCell']) (by exact sz157) hB2 (by rfl) ?_
  intro w13 hP13
  have hX:=hX.put hP13 (by omega)
  have hB2:=hP13.blk
  have hB4:=hP13.keep hB4 (by omega)
  have hB7:=hP13.keep hB7 (by omega)
  refine pA (Ac (t_n (Ao (t_r ?_))))
  refine end2c rfl ua157 rfl (by conv=>lhs;whnf) hB2 sz157 ?_
  exact⟨⟨0,0,none,0,0,4,rfl,.inr ⟨rfl,fun ⟨M,hM⟩=>hc41 (hMx M hM).1⟩⟩,hX⟩
 try simp only[dA,dB,dC,dD,dE,dF,dG,Int.not_lt,Int.not_le] at hc41
 refine Ak (t_n (Ab (Aa ?_)))
 refine pM ?_
 refine p1 (B8 u3 us180 rfl (Am (by omega) (by omega))) ?_
 refine pM ?_
 refine p1 (B8 u3 us180 rfl (Am (by omega) (by omega))) ?_
 refine p1 (Ad Ob sz23 rfl) ?_
 refine p1 (Ae un23 rfl (hB7.cell (rfl))) ?_
 refine p1 (Om pl157 (by conv=>lhs;whnf) (by conv=>lhs;whnf) (by conv=>lhs;whnf) rfl rfl rfl) ?_
 have hXs9:=hX.size
 have hlt7:=hB7.lt
 have hz10:=hX.size
 have hl10_2:=hB2.lt
 have hl10_4:=hB4.lt
 have hl10_7:=hB7.lt
 refine Ay zr157 ?_
 intro w14 g10 hN10
 have hE14:=hN10.ext
 have hX:=hX.ext hE14
 have hB2:=hB2.ext hE14
 have hB4:=hB4.ext hE14
 have hB7:=hB7.ext hE14
 have hs2:=hs2.ext hE14
 have hB10:=hN10.blk
 have hq10:=hN10.g_eq
 refine Al rfl (by conv=>lhs;whnf) (by simp[Value.oneCell']) (by exact sz157) hB10 (by rfl) ?_
 intro w15 hP15
 have hX:=hX.put hP15 (by omega)
 have hB2:=hP15.keep hB2 (by omega)
 have hB4:=hP15.keep hB4 (by omega)
 have hB7:=hP15.keep hB7 (by omega)
 have hs2:=hs2.mod (hP15.mod 0 (Nat.zero_le _)) (Nat.zero_le _) (by decide)
 have hB10:=hP15.blk
 refine Ac (t_n (Ab (Aa ?_)))
 refine p1 (Aq ua157 rfl hB10 sz157) ?_
 refine oC Tryz.func152 (Qu (N1:Int) (N2:Int) R2 _ _ _ _ _ hs2) ?_
 rintro v16 w16 ⟨⟨qp,mp,cp,ep,rfl,hpe,hP⟩,hE16⟩
 have hX:=hX.ext hE16
 have hB2:=hB2.ext hE16
 have hB4:=hB4.ext hE16
 have hB7:=hB7.ext hE16
 have hs2:=hs2.ext hE16
 have hB10:=hB10.ext hE16
 have hPx:∀ w2,Ext w16 w2→ep=0→∃ s z:Nat,(N1:Int)=(s:Int)∧(N2:Int)=(z:Int)∧(Mf.mk s z R2).Ok∧Own kByte 5 0 0 w2 qp mp cp (manB ⟨s,z,R2⟩):=fun w2 hx he=>by
   obtain⟨_,s,z,h1,h2,h3,h4⟩:=hP.resolve_right (fun h=>h.1 he)
   exact⟨s,z,h1,h2,h3,(h4.lower (Nat.zero_le _)).ext hx⟩
 have hPn:ep≠0→¬ ∃ s z:Nat,(N1:Int)=(s:Int)∧(N2:Int)=(z:Int)∧(Mf.mk s z R2).Ok:=fun he=>(hP.resolve_left (fun h=>he h.1)).2
 have hG7:=Ext.refl w16
 refine pM ?_
 refine p1 (Aj rfl rfl) ?_
 refine p1 (Aj rfl rfl) ?_
 refine pA (pA (Ac (t_n (Ab (Ab (Aa ?_))))))
 refine pM ?_
 refine p1 (A2 rfl rfl) ?_
 refine p1b (Af (by conv=>lhs;whnf)) (fun hb11_2=>?_) (fun hb11_2=>?_)
 ·try simp only[dA,dB,dC,dD,dE,dF,dG,Int.not_lt,Int.not_le] at hb11_2
  refine gF 57 (gF 57 (gF 57 (gF 57 (gF 57 ?_))))
  refine p1 (Ax rfl (by conv=>lhs;whnf)) ?_
  refine Ac (t_n ?_)
  refine c_t rfl ?_
  refine Ab (Aa ?_)
  refine p1 (Dl pl157 rfl) ?_
  refine Al rfl (by conv=>lhs;whnf) (by simp[Value.oneCell']) (by exact sz157) hB2 (by rfl) ?_
  intro w17 hP17
  have hX:=hX.put hP17 (by omega)
  have hB2:=hP17.blk
  have hB4:=hP17.keep hB4 (by omega)
  have hB7:=hP17.keep hB7 (by omega)
  have hB10:=hP17.keep hB10 (by omega)
  refine pA (Ac (t_n (Ao (t_r ?_))))
  refine end2c rfl ua157 rfl (by conv=>lhs;whnf) hB2 sz157 ?_
  exact⟨⟨0,0,none,0,0,4,rfl,.inr ⟨rfl,fun ⟨M,hM⟩=>hPn hb11_2 ⟨N1,N2,rfl,rfl,by have:=(hMx M hM).2;rw[← this];exact hM.1⟩⟩⟩,hX⟩
 try simp only[dA,dB,dC,dD,dE,dF,dG,Int.not_lt,Int.not_le] at hb11_2
 obtain⟨s,z,hs_,hz_,hok,hOp⟩:=hPx _ hG7 (by omega)
 refine gM 57 ?_
 refine g1 57 rfl rfl (Cg u23 u5 u9 rfl hOp.sl) ?_
 refine gM 57 ?_
 refine g1 57 rfl rfl (Cg u23 u5 u9 rfl (hl.ext hX)) ?_
 refine g1 57 rfl rfl (Eg rfl rfl) ?_
 refine p1 (Au rfl (by conv=>lhs;whnf)) ?_
 refine Ac (t_n ?_)
 refine As rfl (fun hc63=>?_) (fun hc63=>?_)
 ·try simp only[dA,dB,dC,dD,dE,dF,dG,Int.not_lt,Int.not_le] at hc63
  refine Ab (Aa ?_)
  refine p1 (Dl pl157 rfl) ?_
  refine Al rfl (by conv=>lhs;whnf) (by simp[Value.oneCell']) (by exact sz157) hB2 (by rfl) ?_
  intro w18 hP18
  have hX:=hX.put hP18 (by omega)
  have hB2:=hP18.blk
  have hB4:=hP18.keep hB4 (by omega)
  have hB7:=hP18.keep hB7 (by omega)
  have hB10:=hP18.keep hB10 (by omega)
  refine pA (Ac (t_n (Ao (t_r ?_))))
  refine end2c rfl ua157 rfl (by conv=>lhs;whnf) hB2 sz157 ?_
  (refine⟨⟨0,0,none,0,0,4,rfl,.inr ⟨rfl,fun ⟨M,hM⟩=>?_⟩⟩,hX⟩
   have e1:N1=s:=by omega
   have e2:N2=z:=by omega
   subst e1 e2
   have h9:=(hMx M hM).2
   rw[h9] at hM
   exact hc63 (congrArg toStr hM.2))
 try simp only[dA,dB,dC,dD,dE,dF,dG,Int.not_lt,Int.not_le] at hc63
 refine Ak (t_n (Ab (Aa ?_)))
 refine p1 (Aq ua157 rfl hB10 sz157) ?_
 refine Al rfl (by conv=>lhs;whnf) (by simp[Value.oneCell']) (by exact sz157) hB2 (by rfl) ?_
 intro w19 hP19
 have hX:=hX.put hP19 (by omega)
 have hB2:=hP19.blk
 have hB4:=hP19.keep hB4 (by omega)
 have hB7:=hP19.keep hB7 (by omega)
 have hs2:=hs2.mod (hP19.mod 0 (Nat.zero_le _)) (Nat.zero_le _) (by decide)
 have hB10:=hP19.keep hB10 (by omega)
 refine pA (Ac (t_n (Ao ?_)))
 refine end2c rfl ua157 rfl (by conv=>lhs;whnf) hB2 sz157 ?_
 (have e1:N1=s:=by omega
  have e2:N2=z:=by omega
  subst e1 e2
  have h8:manB ⟨N1,N2,R2⟩=xs:=Fm (Classical.byContradiction hc63)
  exact⟨⟨_,_,_,_,_,0,rfl,.inl ⟨rfl,⟨N1,N2,R2⟩,⟨hok,h8⟩,rfl,rfl,hs2⟩⟩,hX⟩)
end Go.Proofs.Eng
end
section
set_option maxRecDepth 100000
set_option maxHeartbeats 4000000
namespace Go.Proofs.Eng
open Go.RowKit
open Extern.Stop (cell)
theorem Qh (D:DS) (i:Nat) (p:Option Addr) (n c:Nat) (lf:Int) (w:World) (hl:Sl kFl 119 0 w p n c D.l) (hlf:LfOk D lf) (hG:Good D i) (hi:i<4611686018427380000) (ms mz:Nat) (ix:By) (B:Nat) (q:Option Addr) (m cq:Nat) (hix:Sl kByte 5 B w q m cq ix) :
    Ret Tryz.prog 110 [.agg #[.int .i64 (D.most:Int),.slice p n c,.int .i64 (D.steps:Int),.bool (decide (0≤D.left)),.int .i64 lf,.bool D.done,.bool D.down],.agg #[.int .i64 (ms:Int),.int .i64 (mz:Int),.slice q m cq]] w (fun v w'=>(∃ cs,v = .tuple #[.agg cs,.int .i64 (writeM D ⟨ms,mz,ix⟩).2]∧RefV w' cs (writeM D ⟨ms,mz,ix⟩).1)∧Ext w w'):=by
 have hX:=Ext.refl w
 refine eN 47 Tryz.func110 ?_
 refine Ab (Aa ?_)
 have hXs2:=hX.size
 have hz2:=hX.size
 refine Bu (by conv=>lhs;whnf) ?_
 intro w1 g2 hN2
 have hE1:=hN2.ext
 have hX:=hX.ext hE1
 have hB2:=hN2.blk
 have hq2:=hN2.g_eq
 have hXs3:=hX.size
 have hlt2:=hB2.lt
 have hz3:=hX.size
 have hl3_2:=hB2.lt
 refine Bu (by conv=>lhs;whnf) ?_
 intro w2 g3 hN3
 have hE2:=hN3.ext
 have hX:=hX.ext hE2
 have hB2:=hB2.ext hE2
 have hB3:=hN3.blk
 have hq3:=hN3.g_eq
 have hXs4:=hX.size
 have hlt3:=hB3.lt
 have hz4:=hX.size
 have hl4_2:=hB2.lt
 have hl4_3:=hB3.lt
 refine Ay zr45 ?_
 intro w3 g4 hN4
 have hE3:=hN4.ext
 have hX:=hX.ext hE3
 have hB2:=hB2.ext hE3
 have hB3:=hB3.ext hE3
 have hB4:=hN4.blk
 have hq4:=hN4.g_eq
 refine pA (Ac (t_n (Ab ?_)))
 have hg4:=hN4.g_eq
 have hg3:=hN3.g_eq
 have hg2:=hN2.g_eq
 refine Aa ?_
 refine p1 (Aq ua157 rfl hB3 (by exact sz157)) ?_
 refine oC Tryz.func152 (Qu (ms:Int) (mz:Int) ix _ _ _ _ _ (hix.ext hX)) ?_
 rintro v4 w4 ⟨⟨qp,mp,cp,ep,rfl,hpe,hP⟩,hE4⟩
 have hX:=hX.ext hE4
 have hB2:=hB2.ext hE4
 have hB3:=hB3.ext hE4
 have hB4:=hB4.ext hE4
 have hPx:∀ w2,Ext w4 w2→ep=0→Own kByte 5 0 0 w2 qp mp cp (manB ⟨ms,mz,ix⟩):=fun w2 hx he=>by
   obtain⟨_,s,z,h1,h2,_,h4⟩:=hP.resolve_right (fun h=>h.1 he)
   obtain rfl:ms=s:=by omega
   obtain rfl:mz=z:=by omega
   exact(h4.lower (Nat.zero_le _)).ext hx
 have hG1:=Ext.refl w4
 refine pM ?_
 refine p1 (Aj rfl rfl) ?_
 refine p1 (Aj rfl rfl) ?_
 refine pA (pA (Ac (t_n (Ab (Ab (Aa ?_))))))
 refine pM ?_
 refine p1 (A2 rfl rfl) ?_
 refine Ac (t_n ?_)
 refine As rfl (fun hc14=>?_) (fun hc14=>?_)
 ·have hp:writeM D ⟨ms,mz,ix⟩=(D,ep):=by unfold writeM;rw[if_neg (by rw[← hpe];exact hc14),← hpe]
  refine Ab (Aa ?_)
  refine p1 (Aq ua45 rfl hB2 (by exact sz45)) ?_
  refine pM ?_
  refine Al rfl (by conv=>lhs;whnf) (by simp[Value.oneCell']) (by exact sz45) hB4 (by rfl) ?_
  intro w5 hP5
  have hX:=hX.put hP5 (by omega)
  have hB2:=hP5.keep hB2 (by omega)
  have hB3:=hP5.keep hB3 (by omega)
  have hB4:=hP5.blk
  refine pA (Ac (t_n (Ao (t_r ?_))))
  refine end2c rfl ua45 rfl (by conv=>lhs;whnf) hB4 (by exact sz45) ?_
  (rw[hp];exact⟨⟨_,rfl,p,n,c,lf,rfl,hl.ext hX,hlf⟩,hX⟩)
 have hWm:writeM D ⟨ms,mz,ix⟩=writeD D (manB ⟨ms,mz,ix⟩):=by unfold writeM;rw[if_pos (by rw[← hpe];omega)]
 refine Ak (t_n (Ab (Aa ?_)))
 refine p1 (Aq ua45 rfl hB2 (by exact sz45)) ?_
 refine oC Tryz.func21 (Ig D p n c lf _ (hl.ext hX) hlf hG.ok (Nat.lt_of_le_of_lt hG.steps (by omega)) nNew (by decide)) ?_
 rintro v6 w6 ⟨⟨cs1,rfl,pp1,n1,c1,lf1,rfl,hl1,hlf1⟩,hE6⟩
 have hX:=hX.ext hE6
 have hB2:=hB2.ext hE6
 have hB3:=hB3.ext hE6
 have hB4:=hB4.ext hE6
 have hG1:=hG1.ext hE6
 have hOm:=hPx _ hG1 (by omega)
 obtain⟨D1,hD1⟩:∃ d,d=(A9 D nNew).1:=⟨_,rfl⟩
 obtain⟨e1,he1⟩:∃ e,e=(A9 D nNew).2:=⟨_,rfl⟩
 rw[← hD1] at hl1 hlf1
 rw[← hD1,← he1]
 have hG1g:=hG.create nNew
 rw[← hD1] at hG1g
 have hS1:writeD D (manB ⟨ms,mz,ix⟩)=andD (D1,e1) (fun D=>andD (Bm D nNew (manB ⟨ms,mz,ix⟩)) (fun D=>andD (syncD D nNew) (fun D=>Bv D nNew nMan))):=by rw[hD1,he1];rfl
 refine pM ?_
 refine p1 (Aj rfl rfl) ?_
 refine p1 (Aj rfl rfl) ?_
 refine Al rfl (by conv=>lhs;whnf) (by simp[Value.oneCell']) (by exact sz45) hB2 (by rfl) ?_
 intro w7 hP7
 have hX:=hX.put hP7 (by omega)
 have hB2:=hP7.blk
 have hB3:=hP7.keep hB3 (by omega)
 have hB4:=hP7.keep hB4 (by omega)
 have hl1:=hl1.mod (hP7.mod 0 (Nat.zero_le _)) (Nat.zero_le _) (by decide)
 have hOm:=hOm.mod (hP7.mod 0 (Nat.zero_le _)) (Nat.zero_le _) (by decide)
 refine pA (Ac (t_n (Ab (Ab (Aa ?_)))))
 refine pM ?_
 refine p1 (Bw rfl rfl) ?_
 refine Ac (t_n ?_)
 refine Dn (ι:=DS×Int×Option Addr×Nat×Nat×Int) [7,24,25,26,27,28,29,30] (fun (D2,e2,pp2,n2,c2,lf2)=>[(7,.int .i64 e2)]) (fun (D2,e2,pp2,n2,c2,lf2) w'=>Ext w w'∧(Blk w' g2 #[.int .i64 (D2.most:Int),.slice pp2 n2 c2,.int .i64 (D2.steps:Int),.bool (decide (0≤D2.left)),.int .i64 lf2,.bool D2.done,.bool D2.down] 45∧Sl kFl 119 0 w' pp2 n2 c2 D2.l∧LfOk D2 lf2∧Blk w' g4 #[.int .i64 0,.slice none 0 0,.int .i64 0,.bool false,.int .i64 0,.bool false,.bool false] 45∧Own kByte 5 0 0 w' qp mp cp (manB ⟨ms,mz,ix⟩)∧Good D2 (i+2)∧writeD D (manB ⟨ms,mz,ix⟩)=andD (D2,e2) (fun D=>andD (syncD D nNew) (fun D=>Bv D nNew nMan)))) ?_ ?_
 ·skip
  refine As rfl (fun hc23=>?_) (fun hc23=>?_)
  ·have hS0:=hS1
   rw[Dy (show (D1,e1).2=0 from hc23)] at hS0
   refine Aa ?_
   refine p1 (Aq ua45 rfl hB2 (by exact sz45)) ?_
   refine pM ?_
   refine p1 (Cg u23 u5 u9 rfl hOm.sl) ?_
   refine oC Tryz.func22 (O5 D1 pp1 n1 c1 lf1 _ hl1 hlf1 hG1g.ok (Nat.lt_of_le_of_lt hG1g.steps (by omega)) nNew (by decide) (manB ⟨ms,mz,ix⟩)) ?_
   rintro v9 w9 ⟨⟨cs2,rfl,pp2,n2,c2,lf2,rfl,hl2,hlf2⟩,hE9⟩
   have hX:=hX.ext hE9
   have hB2:=hB2.ext hE9
   have hB3:=hB3.ext hE9
   have hB4:=hB4.ext hE9
   have hOm:=hOm.ext hE9
   obtain⟨D2,hD2⟩:∃ d,d=(Bm D1 nNew (manB ⟨ms,mz,ix⟩)).1:=⟨_,rfl⟩
   obtain⟨e2,he2⟩:∃ e,e=(Bm D1 nNew (manB ⟨ms,mz,ix⟩)).2:=⟨_,rfl⟩
   rw[← hD2] at hl2 hlf2
   rw[← hD2,← he2]
   have hGn:=hG1g.append nNew (manB ⟨ms,mz,ix⟩)
   rw[← hD2] at hGn
   have hSn:writeD D (manB ⟨ms,mz,ix⟩)=andD (D2,e2) (fun D=>andD (syncD D nNew) (fun D=>Bv D nNew nMan)):=by rw[hS0,hD2,he2]
   refine pM ?_
   refine p1 (Aj rfl rfl) ?_
   refine p1 (Aj rfl rfl) ?_
   refine Al rfl (by conv=>lhs;whnf) (by simp[Value.oneCell']) (by exact sz45) hB2 (by rfl) ?_
   intro w10 hP10
   have hX:=hX.put hP10 (by omega)
   have hB2:=hP10.blk
   have hB3:=hP10.keep hB3 (by omega)
   have hB4:=hP10.keep hB4 (by omega)
   have hOm:=hOm.mod (hP10.mod 0 (Nat.zero_le _)) (Nat.zero_le _) (by decide)
   have hl2:=hl2.mod (hP10.mod 0 (Nat.zero_le _)) (Nat.zero_le _) (by decide)
   refine pA (Ac ?_)
   exact t_n (aK ((D2,e2,pp2,n2,c2,lf2)) ⟨rfl,trivial⟩ ⟨hX,hB2,hl2,hlf2,hB4,hOm,hGn,hSn⟩)
  have hSn:=hS1
  rw[Ee (show (D1,e1).2≠0 from hc23)] at hSn
  rw[← Ee (f:=(fun D=>andD (syncD D nNew) (fun D=>Bv D nNew nMan))) (show (D1,e1).2≠0 from hc23)] at hSn
  refine Ak ?_
  exact t_n (aK ((D1,e1,pp1,n1,c1,lf1)) ⟨rfl,trivial⟩ ⟨hX,hB2,hl1,hlf1,hB4,hOm,hG1g.mono (by omega),hSn⟩)
 rintro⟨D2,e2,pp2,n2,c2,lf2⟩ Gcutif23 w8 ⟨hE8,hB2,hl2,hlf2,hB4,hOm,hG2,hS2⟩
 have hX:=hE8
 refine t_n (Ab (Ab (Aa ?_)))
 refine pM ?_
 refine p1 (Bw rfl rfl) ?_
 refine Ac (t_n ?_)
 refine Dn (ι:=DS×Int×Option Addr×Nat×Nat×Int) [7,33,34,35,36,37] (fun (D3,e3,pp3,n3,c3,lf3)=>[(7,.int .i64 e3)]) (fun (D3,e3,pp3,n3,c3,lf3) w'=>Ext w w'∧(Blk w' g2 #[.int .i64 (D3.most:Int),.slice pp3 n3 c3,.int .i64 (D3.steps:Int),.bool (decide (0≤D3.left)),.int .i64 lf3,.bool D3.done,.bool D3.down] 45∧Sl kFl 119 0 w' pp3 n3 c3 D3.l∧LfOk D3 lf3∧Blk w' g4 #[.int .i64 0,.slice none 0 0,.int .i64 0,.bool false,.int .i64 0,.bool false,.bool false] 45∧Own kByte 5 0 0 w' qp mp cp (manB ⟨ms,mz,ix⟩)∧Good D3 (i+3)∧writeD D (manB ⟨ms,mz,ix⟩)=andD (D3,e3) (fun D=>Bv D nNew nMan))) ?_ ?_
 ·skip
  refine As rfl (fun hc32=>?_) (fun hc32=>?_)
  ·have hS0:=hS2
   rw[Dy (show (D2,e2).2=0 from hc32)] at hS0
   refine Aa ?_
   refine p1 (Aq ua45 rfl hB2 (by exact sz45)) ?_
   refine oC Tryz.func23 (T4 D2 pp2 n2 c2 lf2 _ hl2 hlf2 hG2.ok (Nat.lt_of_le_of_lt hG2.steps (by omega)) nNew (by decide)) ?_
   rintro v12 w12 ⟨⟨cs3,rfl,pp3,n3,c3,lf3,rfl,hl3,hlf3⟩,hE12⟩
   have hX:=hX.ext hE12
   have hB2:=hB2.ext hE12
   have hB4:=hB4.ext hE12
   have hOm:=hOm.ext hE12
   obtain⟨D3,hD3⟩:∃ d,d=(syncD D2 nNew).1:=⟨_,rfl⟩
   obtain⟨e3,he3⟩:∃ e,e=(syncD D2 nNew).2:=⟨_,rfl⟩
   rw[← hD3] at hl3 hlf3
   rw[← hD3,← he3]
   have hGn:=hG2.sync nNew
   rw[← hD3] at hGn
   have hSn:writeD D (manB ⟨ms,mz,ix⟩)=andD (D3,e3) (fun D=>Bv D nNew nMan):=by rw[hS0,hD3,he3]
   refine pM ?_
   refine p1 (Aj rfl rfl) ?_
   refine p1 (Aj rfl rfl) ?_
   refine Al rfl (by conv=>lhs;whnf) (by simp[Value.oneCell']) (by exact sz45) hB2 (by rfl) ?_
   intro w13 hP13
   have hX:=hX.put hP13 (by omega)
   have hB2:=hP13.blk
   have hB4:=hP13.keep hB4 (by omega)
   have hOm:=hOm.mod (hP13.mod 0 (Nat.zero_le _)) (Nat.zero_le _) (by decide)
   have hl3:=hl3.mod (hP13.mod 0 (Nat.zero_le _)) (Nat.zero_le _) (by decide)
   refine pA (Ac ?_)
   exact t_n (aK ((D3,e3,pp3,n3,c3,lf3)) ⟨rfl,trivial⟩ ⟨hX,hB2,hl3,hlf3,hB4,hOm,hGn,hSn⟩)
  have hSn:=hS2
  rw[Ee (show (D2,e2).2≠0 from hc32)] at hSn
  rw[← Ee (f:=(fun D=>Bv D nNew nMan)) (show (D2,e2).2≠0 from hc32)] at hSn
  refine Ak ?_
  exact t_n (aK ((D2,e2,pp2,n2,c2,lf2)) ⟨rfl,trivial⟩ ⟨hX,hB2,hl2,hlf2,hB4,hOm,hG2.mono (by omega),hSn⟩)
 rintro⟨D3,e3,pp3,n3,c3,lf3⟩ Gcutif32 w11 ⟨hE11,hB2,hl3,hlf3,hB4,hOm,hG3,hS3⟩
 have hX:=hE11
 refine t_n (Ab (Ab (Aa ?_)))
 refine pM ?_
 refine p1 (Bw rfl rfl) ?_
 refine Ac (t_n ?_)
 refine Dn (ι:=DS×Int×Option Addr×Nat×Nat×Int) [7,40,41,42,43,44] (fun (D4,e4,pp4,n4,c4,lf4)=>[(7,.int .i64 e4)]) (fun (D4,e4,pp4,n4,c4,lf4) w'=>Ext w w'∧(Blk w' g2 #[.int .i64 (D4.most:Int),.slice pp4 n4 c4,.int .i64 (D4.steps:Int),.bool (decide (0≤D4.left)),.int .i64 lf4,.bool D4.done,.bool D4.down] 45∧Sl kFl 119 0 w' pp4 n4 c4 D4.l∧LfOk D4 lf4∧Blk w' g4 #[.int .i64 0,.slice none 0 0,.int .i64 0,.bool false,.int .i64 0,.bool false,.bool false] 45∧Own kByte 5 0 0 w' qp mp cp (manB ⟨ms,mz,ix⟩)∧Good D4 (i+4)∧writeD D (manB ⟨ms,mz,ix⟩)=(D4,e4))) ?_ ?_
 ·skip
  refine As rfl (fun hc39=>?_) (fun hc39=>?_)
  ·have hS0:=hS3
   rw[Dy (show (D3,e3).2=0 from hc39)] at hS0
   refine Aa ?_
   refine p1 (Aq ua45 rfl hB2 (by exact sz45)) ?_
   refine oC Tryz.func153 (V2 D3 pp3 n3 c3 lf3 _ hl3 hlf3 hG3.ok (Nat.lt_of_le_of_lt hG3.steps (by omega)) nNew nMan (by decide) (by decide)) ?_
   rintro v15 w15 ⟨⟨cs4,rfl,pp4,n4,c4,lf4,rfl,hl4,hlf4⟩,hE15⟩
   have hX:=hX.ext hE15
   have hB2:=hB2.ext hE15
   have hB4:=hB4.ext hE15
   have hOm:=hOm.ext hE15
   obtain⟨D4,hD4⟩:∃ d,d=(Bv D3 nNew nMan).1:=⟨_,rfl⟩
   obtain⟨e4,he4⟩:∃ e,e=(Bv D3 nNew nMan).2:=⟨_,rfl⟩
   rw[← hD4] at hl4 hlf4
   rw[← hD4,← he4]
   have hGn:=hG3.rename nNew nMan
   rw[← hD4] at hGn
   have hSn:writeD D (manB ⟨ms,mz,ix⟩)=(D4,e4):=by rw[hS0,hD4,he4]
   refine pM ?_
   refine p1 (Aj rfl rfl) ?_
   refine p1 (Aj rfl rfl) ?_
   refine Al rfl (by conv=>lhs;whnf) (by simp[Value.oneCell']) (by exact sz45) hB2 (by rfl) ?_
   intro w16 hP16
   have hX:=hX.put hP16 (by omega)
   have hB2:=hP16.blk
   have hB4:=hP16.keep hB4 (by omega)
   have hOm:=hOm.mod (hP16.mod 0 (Nat.zero_le _)) (Nat.zero_le _) (by decide)
   have hl4:=hl4.mod (hP16.mod 0 (Nat.zero_le _)) (Nat.zero_le _) (by decide)
   refine pA (Ac ?_)
   exact t_n (aK ((D4,e4,pp4,n4,c4,lf4)) ⟨rfl,trivial⟩ ⟨hX,hB2,hl4,hlf4,hB4,hOm,hGn,hSn⟩)
  have hSn:=hS3
  rw[Ee (show (D3,e3).2≠0 from hc39)] at hSn
  refine Ak ?_
  exact t_n (aK ((D3,e3,pp3,n3,c3,lf3)) ⟨rfl,trivial⟩ ⟨hX,hB2,hl3,hlf3,hB4,hOm,hG3.mono (by omega),hSn⟩)
 rintro⟨D4,e4,pp4,n4,c4,lf4⟩ Gcutif39 w14 ⟨hE14,hB2,hl4,hlf4,hB4,hOm,hG4,hS4⟩
 have hX:=hE14
 refine t_n (Ab (Aa ?_))
 refine p1 (Aq ua45 rfl hB2 (by exact sz45)) ?_
 refine pM ?_
 refine Al rfl (by conv=>lhs;whnf) (by simp[Value.oneCell']) (by exact sz45) hB4 (by rfl) ?_
 intro w17 hP17
 have hX:=hX.put hP17 (by omega)
 have hB2:=hP17.keep hB2 (by omega)
 have hl4:=hl4.mod (hP17.mod 0 (Nat.zero_le _)) (Nat.zero_le _) (by decide)
 have hB4:=hP17.blk
 refine pA (Ac (t_n (Ao ?_)))
 refine end2c rfl ua45 rfl (by conv=>lhs;whnf) hB4 (by exact sz45) ?_
 (rw[hWm,hS4];exact⟨⟨_,rfl,pp4,n4,c4,lf4,rfl,hl4,hlf4⟩,hX⟩)
end Go.Proofs.Eng
end
section
set_option maxRecDepth 100000
set_option maxHeartbeats 4000000
namespace Go.Proofs.Eng
open Go.RowKit
open Extern.Stop (cell)
theorem Qi (s:ByteArray) (w:World):Ret Tryz.prog 150 [.string s] w (fun v w'=>(∃ r:Int,v = .int .i64 r∧(r=0↔¬ SegN s))∧Ext w w'):=by
  have h:=Sh s.data.toList w
  rw[K7] at h
  refine h.imp ?_
  rintro v w' ⟨⟨r,rfl,hr⟩,hx⟩
  have:=Rr hr
  rw[K7] at this
  exact⟨⟨r,rfl,this⟩,hx⟩
theorem Afb {l:List Fl} {k:Nat} (h:k<l.length):(l.getD ((k:Int)).toNat default).1=(l.map (·.1)).getD k ByteArray.empty:=by
  rw[show ((k:Int)).toNat=k from by omega,List.getD_eq_getElem?_getD,List.getD_eq_getElem?_getD,List.getElem?_map,List.getElem?_eq_getElem h];rfl
theorem Vt {l:List ByteArray} {k:Nat} (h:k<l.length):l.take (k+1)=l.take k++[l.getD k ByteArray.empty]:=by
  rw[List.take_succ_eq_append_getElem h,List.getD_eq_getElem?_getD,List.getElem?_eq_getElem h];rfl
theorem Kp (D:DS) (i:Nat) (p:Option Addr) (n c:Nat) (lf:Int) (w:World) (hl:Sl kFl 119 0 w p n c D.l) (hlf:LfOk D lf) (hG:Good D i) (hi:i<4611686018427380000) (keep:ByteArray) :
    Ret Tryz.prog 108 [.agg #[.int .i64 (D.most:Int),.slice p n c,.int .i64 (D.steps:Int),.bool (decide (0≤D.left)),.int .i64 lf,.bool D.done,.bool D.down],.string keep] w (fun v w'=>(∃ cs,v = .tuple #[.agg cs,.int .i64 (cleanD D keep).2]∧RefV w' cs (cleanD D keep).1)∧Ext w w'):=by
 have hX:=Ext.refl w
 refine eN 67 Tryz.func108 ?_
 refine Ab (Aa ?_)
 have hXs2:=hX.size
 have hz2:=hX.size
 refine Bu (by conv=>lhs;whnf) ?_
 intro w1 g2 hN2
 have hE1:=hN2.ext
 have hX:=hX.ext hE1
 have hB2:=hN2.blk
 have hq2:=hN2.g_eq
 have hXs4:=hX.size
 have hlt2:=hB2.lt
 have hz4:=hX.size
 have hl4_2:=hB2.lt
 refine Ay zr45 ?_
 intro w2 g4 hN4
 have hE2:=hN4.ext
 have hX:=hX.ext hE2
 have hB2:=hB2.ext hE2
 have hB4:=hN4.blk
 have hq4:=hN4.g_eq
 refine pA (Ac (t_n (Ab ?_)))
 have hg4:=hN4.g_eq
 have hg2:=hN2.g_eq
 have hlen:=hl.len
 have hcap:=hl.cap
 have hfit:=hl.fit
 have hfew:=hG.ok.few
 have hnl:(D.l.map (·.1)).length=D.l.length:=List.length_map _
 refine Aa ?_
 refine pA (Ac (t_n (Ab (Ab (Aa ?_)))))
 refine pA (Ac (t_n (Ap ?_)))
 have hWL0:=Ext.refl w2
 obtain⟨ZD,hZD⟩:=hWL0.someSize
 have hB2e:=hB2
 have hB4e:=hB4
 have hwZ:=hX.size
 refine Bc (ι:=Nat×Option Addr×Nat×Nat) ([6,7]++rg 10 16) (fun (k,ql,ml,cl)=>[(6,.slice ql ml cl),(7,.int .i64 (k:Int))]) (fun (k,ql,ml,cl) w'=>Ext w2 w'∧(k≤n∧Own kStr 9 0 ZD w' ql ml cl ((D.l.map (·.1)).take k))) (fun (k,ql,ml,cl)=>n - k) ((0,none,0,0)) ⟨rfl,rfl,trivial⟩ ⟨Ext.refl _,Nat.zero_le _,Own.nil _ _ _ _ _⟩ ?_
 rintro⟨k,ql,ml,cl⟩ GL0 w3 ⟨hE3,hk,hO⟩
 have hX:=hX.ext hE3
 have hB2:=hB2.ext hE3
 have hB4:=hB4.ext hE3
 have hWL0:=hE3
 have hol:=hO.len
 rw[List.length_take] at hol
 refine Ab (Ab (Aa ?_))
 refine pM ?_
 refine p1 (Ad Cm sz43 rfl) ?_
 refine p1 (Ae un43 rfl (hB2.cell (rfl))) ?_
 refine p1 (Ar u43 rfl) ?_
 refine p1 (Bi rfl rfl) ?_
 refine Ac (t_n ?_)
 refine As rfl (fun hc14=>?_) (fun hc14=>?_)
 ·refine Ak (t_n (Ab (Ap ?_)))
  obtain⟨nk1,hnk1⟩:∃ s,s=((D.l.map (·.1)).getD k ByteArray.empty):=⟨_,rfl⟩
  refine Aa ?_
  refine pM ?_
  refine p1 (Ad Cm sz43 rfl) ?_
  refine p1 (Ae un43 rfl (hB2.cell (rfl))) ?_
  refine pM ?_
  refine p1 (Cs u43 sz119 rfl rfl ((hl.ext hX).adr Cq (by omega)) (by omega) (by omega)) ?_
  refine p1 (Ad Gj sz9 rfl) ?_
  refine p1 ((Ae un9 rfl ((hl.ext hX).flAt _ (by omega) 0 rfl)).cast (congrArg Value.string ((Afb (by omega)).trans hnk1.symm))) ?_
  refine Av u74 inf9 rfl (by decide) (fun base hb=>Br (by rfl) base hb) ?_
  intro w4 g24 hN24
  have hE4:=hN24.ext
  have hX:=hX.ext hE4
  have hB2:=hB2.ext hE4
  have hB4:=hB4.ext hE4
  have hWL0:=hWL0.ext hE4
  have hO:=hO.ext hE4
  have hN24:New _ _ g24 ([nk1].map fun s=>[Value.string s]).flatten.toArray (9):=hN24
  have hJ:Own kStr 9 0 0 w4 (some ⟨g24,0,none⟩) 1 1 [nk1]:=B4 [nk1] hN24 (Nat.zero_le _) (by simp)
  have hB1:=hX.size
  have hB2s:=hWL0.size
  refine Az (d:=kStr) ([nk1]) u74 inf9 rfl Ej rfl rfl hO (Ba u74 hJ.sl (by decide)) rfl (C6 _ _ _) (rfl) (by omega) (by omega) (by omega) (by omega) (by decide) ?_
  intro p25 c25 w5 hO hM5
  have hB2:=hB2e.ext (hWL0.mod hM5 (by omega))
  have hB4:=hB4e.ext (hWL0.mod hM5 (by omega))
  have hWL0:=hWL0.mod hM5 (by omega)
  refine pA (Ac (b_n (t_n (Aa ?_))))
  refine pM ?_
  refine p1 ((A0 rfl rfl (Am (by omega) (by omega))).cast (congrArg (Value.int .i64) (by omega:_=((k+1:Nat):Int)))) ?_
  refine pA (Ac ?_)
  refine t_n (aK ((k+1,p25,ml+1,c25)) ⟨rfl,rfl,trivial⟩ ?_)
  exact⟨⟨hWL0,by omega,by rw[Vt (by omega),← hnk1];exact hO⟩,by(dsimp only;omega)⟩
 have hkk:(D.l.map (·.1)).take k=(D.l.map (·.1)):=List.take_of_length_le (by omega)
 rw[hkk] at hO
 have hN:=hO.sl
 have hml:ml=D.l.length:=by omega
 refine A8 (t_e (t_e (Bq (t_n (Ab (Aa ?_))))))
 refine pA (Ac (t_n (Ab (Ab (Aa ?_)))))
 refine pA (Ac (t_n (Ap ?_)))
 refine Bc (ι:=Nat×DS×Option Addr×Nat×Nat×Int) ([5,8,9]++rg 26 40) (fun (j,Dk,pk,nk,ck,lk)=>[(8,.int .i64 0),(9,.int .i64 (j:Int))]) (fun (j,Dk,pk,nk,ck,lk) w'=>Ext w w'∧(j≤ml∧Blk w' g2 #[.int .i64 (Dk.most:Int),.slice pk nk ck,.int .i64 (Dk.steps:Int),.bool (decide (0≤Dk.left)),.int .i64 lk,.bool Dk.done,.bool Dk.down] 45∧Sl kFl 119 0 w' pk nk ck Dk.l∧LfOk Dk lk∧Good Dk (i+j)∧Sl kStr 9 0 w' ql ml cl (D.l.map (·.1))∧Blk w' g4 #[.int .i64 0,.slice none 0 0,.int .i64 0,.bool false,.int .i64 0,.bool false,.bool false] 45∧cleanD D keep=cleanL keep Dk ((D.l.map (·.1)).drop j))) (fun (j,Dk,pk,nk,ck,lk)=>ml - j) ((0,D,p,n,c,lf)) ⟨rfl,rfl,trivial⟩ ⟨hX,Nat.zero_le _,hB2,hl.ext hX,hlf,hG,hN,hB4,rfl⟩ ?_
 rintro⟨j,Dk,pk,nk,ck,lk⟩ GL2 w6 ⟨hE6,hj,hB2,hlk,hlfk,hGk,hN,hB4,hcl⟩
 have hX:=hE6
 refine Ab (Ab (Aa ?_))
 refine pM (pM ?_)
 refine p1 (Ar u74 rfl) ?_
 refine p1 (Bi rfl rfl) ?_
 refine Ac (t_n ?_)
 refine As rfl (fun hc29=>?_) (fun hc29=>?_)
 ·have hcd:=Nq (keep:=keep) (ns:=(D.l.map (·.1))) (k:=j) (by omega) Dk
  have hnk:Bg ((D.l.map (·.1)).getD j ByteArray.empty)=true:=by
    have hm:=Dq (z:=ByteArray.empty) (xs:=(D.l.map (·.1))) (i:=j) (by omega) rfl
    obtain⟨x,hx,e⟩:=List.mem_map.1 hm
    rw[← e];exact hG.names x hx
  have hsz:=Ik hnk
  refine Ak (t_n (Ab (Ap (Ab (Ab ?_)))))
  have hWr10:=Ext.refl w6
  refine Dn (ι:=Unit) (rg 32 21) (fun _=>[(52,.bool (keepN ((D.l.map (·.1)).getD j ByteArray.empty) keep))]) (fun _ w'=>Ext w6 w') ?_ ?_
  ·skip
   refine Aa ?_
   refine pM (pM ?_)
   refine p1 (Cr u74 sz9 rfl rfl (hN.adr Ej (by omega)) (by omega)) ?_
   refine p1 (Ae un9 rfl (hN.strAt _ (by omega))) ?_
   refine p1 (Eg rfl (show _=Value.string nNew from rfl)) ?_
   refine p1b (Af (by conv=>lhs;whnf)) (fun hb10_5=>?_) (fun hb10_5=>?_)
   ·refine gM 37 (gM 37 ?_)
    refine g1 37 rfl rfl (Cr u74 sz9 rfl rfl (hN.adr Ej (by omega)) (by omega)) ?_
    refine g1 37 rfl rfl (Ae un9 rfl (hN.strAt _ (by omega))) ?_
    refine Cd 37 rfl rfl ?_
    refine oC Tryz.func150 (Qi _ _) ?_
    rintro v8 w8 ⟨⟨rn,rfl,hrn⟩,hE8⟩
    have hN:=hN.ext hE8
    have hWr10:=hWr10.ext hE8
    refine g1 37 rfl rfl (Bw rfl rfl) ?_
    refine g1b 37 rfl rfl (Af (by conv=>lhs;whnf)) (fun hb10_12=>?_) (fun hb10_12=>?_)
    ·refine gF 44 (gF 44 (gF 44 (gF 44 (gF 44 (gF 44 ?_)))))
     refine g1 37 rfl rfl (Ax rfl (by conv=>lhs;whnf)) ?_
     refine p1 (Ax rfl (by conv=>lhs;whnf)) ?_
     refine Ac ?_
     refine t_n (aK () ⟨congrArg Value.bool (by have hk9:=Fw (n:=((D.l.map (·.1)).getD j ByteArray.empty)) (keep:=keep);grind),trivial⟩ hWr10)
    refine gM 44 (gM 44 ?_)
    refine g1 44 rfl rfl (Cr u74 sz9 rfl rfl (hN.adr Ej (by omega)) (by omega)) ?_
    refine g1 44 rfl rfl (Ae un9 rfl (hN.strAt _ (by omega))) ?_
    refine gM 44 ?_
    refine g1 44 rfl rfl (Fj rfl rfl) ?_
    refine g1 37 rfl rfl (Au rfl (by conv=>lhs;whnf)) ?_
    refine p1 (Ax rfl (by conv=>lhs;whnf)) ?_
    refine Ac ?_
    refine t_n (aK () ⟨congrArg Value.bool (by have hk9:=Fw (n:=((D.l.map (·.1)).getD j ByteArray.empty)) (keep:=keep);grind),trivial⟩ hWr10)
   refine gF 37 (gF 37 (gF 37 (gF 37 (gF 37 (gF 37 (gF 37 (gF 44 (gF 44 (gF 44 (gF 44 (gF 44 (gF 44 (gF 37 ?_)))))))))))))
   refine p1 (Au rfl (by conv=>lhs;whnf)) ?_
   refine Ac ?_
   refine t_n (aK () ⟨congrArg Value.bool (by have hk9:=Fw (n:=((D.l.map (·.1)).getD j ByteArray.empty)) (keep:=keep);grind),trivial⟩ hWr10)
  rintro _ Gr10 w7 hE7
  have hX:=hX.ext hE7
  have hB2:=hB2.ext hE7
  have hlk:=hlk.ext hE7
  have hN:=hN.ext hE7
  have hB4:=hB4.ext hE7
  refine t_n ?_
  refine Dm rfl (fun hc52=>?_) (fun hc52=>?_)
  ·have hcn:=hcl.trans (hcd.trans (if_pos hc52))
   refine A8 (t_e (Bq (t_n (Aa ?_))))
   refine pM ?_
   refine p1 ((A0 rfl rfl (Am (by omega) (by omega))).cast (congrArg (Value.int .i64) (by omega:_=((j+1:Nat):Int)))) ?_
   refine pA (Ac ?_)
   exact t_n (aK ((j+1,Dk,pk,nk,ck,lk)) ⟨rfl,rfl,trivial⟩ ⟨⟨hX,by omega,hB2,hlk,hlfk,hGk.mono (by omega),hN,hB4,hcn⟩,by(dsimp only;omega)⟩)
  have hcn:=hcl.trans (hcd.trans (if_neg (by rw[hc52];simp)))
  have hgr:=hGk.remove ((D.l.map (·.1)).getD j ByteArray.empty)
  refine Ak (t_n (Ab ?_))
  refine Bj (fun w1 w2=>ModS (fun j=>j=g2) [45] w1 w2) mixed ?_
  intro w9 hE9
  have hX:=hX.ext hE9
  have hB2:=hB2.ext hE9
  have hlk:=hlk.ext hE9
  have hN:=hN.ext hE9
  have hB4:=hB4.ext hE9
  have hSr11:(fun w1 w2=>ModS (fun j=>j=g2) [45] w1 w2) w9 w9:=ModS.refl _ _ _
  refine hT 1 rfl hSr11 (fun wS hSS=>by(exact(Af (by conv=>lhs;whnf)))) ?_
  refine hT 2 rfl hSr11 (fun wS hSS=>by(exact(Af (by conv=>lhs;whnf)))) ?_
  refine hT 3 rfl hSr11 (fun wS hSS=>by(exact(Cr u74 sz9 rfl rfl (hN.adr Ej (by omega)) (by omega)))) ?_
  refine hT 4 rfl hSr11 (fun wS hSS=>by(have hN:=hN.modS hSS (fun _ _=>Nat.zero_le _) (by decide);exact(Ae un9 rfl (hN.strAt _ (by omega))))) ?_
  refine h1L 0 (fun Q0 hQ0=>?_)
  refine p1 (Aq ua45 rfl hB2 (by exact sz45)) ?_
  refine An hQ0 ⟨hSr11,?_⟩
  refine h1L 5 (fun Q5 hQ5=>?_)
  refine oC Tryz.func151 (V3 Dk pk nk ck lk _ hlk hlfk hGk.ok (Nat.lt_of_le_of_lt hGk.steps (by omega)) ((D.l.map (·.1)).getD j ByteArray.empty) (by omega)) ?_
  rintro v10 w10 ⟨⟨cs1,rfl,pp1,n1,c1,lf1,rfl,hl1,hlf1⟩,hE10⟩
  have hX:=hX.ext hE10
  have hB2:=hB2.ext hE10
  have hN:=hN.ext hE10
  have hB4:=hB4.ext hE10
  have hSr11:=hSr11.ext hE10
  obtain⟨D1,hD1⟩:∃ d,d=(B3 Dk ((D.l.map (·.1)).getD j ByteArray.empty)).1:=⟨_,rfl⟩
  obtain⟨e1,he1⟩:∃ e,e=(B3 Dk ((D.l.map (·.1)).getD j ByteArray.empty)).2:=⟨_,rfl⟩
  rw[← hD1] at hl1 hlf1
  rw[← hD1,← he1]
  rw[← hD1] at hgr
  refine An hQ5 ⟨hSr11,?_⟩
  refine hT 6 rfl hSr11 (fun wS hSS=>by(exact(Af (by conv=>lhs;whnf)))) ?_
  refine hT 7 rfl hSr11 (fun wS hSS=>by(exact(Aj rfl rfl))) ?_
  refine hT 8 rfl hSr11 (fun wS hSS=>by(exact(Aj rfl rfl))) ?_
  refine h1L 9 (fun Q9 hQ9=>?_)
  refine Al rfl (by conv=>lhs;whnf) (by simp[Value.oneCell']) (by exact sz45) hB2 (by rfl) ?_
  intro w11 hP11
  have hX:=hX.put hP11 (by omega)
  have hB2:=hP11.blk
  have hN:=hN.mod (hP11.mod 0 (Nat.zero_le _)) (Nat.zero_le _) (by decide)
  have hB4:=hP11.keep hB4 (by omega)
  have hSr11:=hSr11.put hP11 ⟨.inl rfl,by decide⟩
  have hl1:=hl1.mod (hP11.mod 0 (Nat.zero_le _)) (Nat.zero_le _) (by decide)
  refine An hQ9 ⟨hSr11,?_⟩
  refine hT 10 rfl hSr11 (fun wS hSS=>by(exact(Ah (by conv=>lhs;whnf)))) ?_
  refine A7 (by kernel_rfl) ?_
  refine t_n (Ab (Aa ?_))
  refine pM ?_
  refine p1 (A2 rfl rfl) ?_
  refine Ac (t_n ?_)
  refine As rfl (fun hc63=>?_) (fun hc63=>?_)
  ·have hfin:cleanD D keep=(D1,e1):=by rw[hcn,Ee (by rw[← he1];exact hc63),hD1,he1]
   refine Ab (Aa ?_)
   refine p1 (Aq ua45 rfl hB2 (by exact sz45)) ?_
   refine pM ?_
   refine Al rfl (by conv=>lhs;whnf) (by simp[Value.oneCell']) (by exact sz45) hB4 (by rfl) ?_
   intro w12 hP12
   have hX:=hX.put hP12 (by omega)
   have hB2:=hP12.keep hB2 (by omega)
   have hB4:=hP12.blk
   have hl1:=hl1.mod (hP12.mod 0 (Nat.zero_le _)) (Nat.zero_le _) (by decide)
   refine pA (Ac (t_n (Ao (b_r (t_r (t_r (b_r (t_r ?_))))))))
   refine end2c rfl ua45 rfl (by conv=>lhs;whnf) hB4 (by exact sz45) ?_
   (rw[hfin];exact⟨⟨_,rfl,pp1,n1,c1,lf1,rfl,hl1,hlf1⟩,hX⟩)
  have he10:e1=0:=by omega
  subst he10
  have hnx:cleanD D keep=cleanL keep D1 ((D.l.map (·.1)).drop (j+1)):=by rw[hcn,Dy he1.symm,hD1]
  refine Ak (b_n (t_n (Aa ?_)))
  refine pM ?_
  refine p1 ((A0 rfl rfl (Am (by omega) (by omega))).cast (congrArg (Value.int .i64) (by omega:_=((j+1:Nat):Int)))) ?_
  refine pA (Ac ?_)
  exact t_n (aK ((j+1,D1,pp1,n1,c1,lf1)) ⟨rfl,rfl,trivial⟩ ⟨⟨hX,by omega,hB2,hl1,hlf1,hgr,hN,hB4,hnx⟩,by(dsimp only;omega)⟩)
 have hfin2:cleanD D keep=(Dk,0):=by rw[hcl,List.drop_eq_nil_of_le (by omega)];rfl
 refine A8 (t_e (t_e (Bq (t_n (Ab (Aa ?_))))))
 refine p1 (Aq ua45 rfl hB2 (by exact sz45)) ?_
 refine Al rfl (by conv=>lhs;whnf) (by simp[Value.oneCell']) (by exact sz45) hB4 (by rfl) ?_
 intro w13 hP13
 have hX:=hX.put hP13 (by omega)
 have hB2:=hP13.keep hB2 (by omega)
 have hlk:=hlk.mod (hP13.mod 0 (Nat.zero_le _)) (Nat.zero_le _) (by decide)
 have hB4:=hP13.blk
 refine pA (Ac (t_n (Ao ?_)))
 refine end2c rfl ua45 rfl (by conv=>lhs;whnf) hB4 (by exact sz45) ?_
 (rw[hfin2];exact⟨⟨_,rfl,pk,nk,ck,lk,rfl,hlk,hlfk⟩,hX⟩)
end Go.Proofs.Eng
end
section
set_option maxRecDepth 100000
set_option maxHeartbeats 4000000
namespace Go.Proofs.Eng
open Go.RowKit
open Extern.Stop (cell)
theorem X1:∀ {L:List By} {k:Nat} {h:Hash},k<L.length→shaF (L.getD k [])=h→(∀ j,j<k→shaF (L.getD j [])≠h)→findF L h=some (L.getD k [])
  | [],_,_,hk,_,_=>absurd hk (by simp)
  | c :: L, 0, h, _, e, _ => by
    have e:shaF c=h:=e
    unfold findF;rw[List.find?_cons,decide_eq_true e];rfl
  | c :: L, k + 1, h, hk, e, hn => by
    have h0:shaF c≠h:=hn 0 (by omega)
    have:=X1 (L:=L) (k:=k) (h:=h) (by simpa using hk) (by simpa using e) (fun j hj=>by simpa using hn (j+1) (by omega))
    unfold findF at this ⊢
    rw[List.find?_cons,decide_eq_false h0]
    simpa using this
theorem Yv (D:DS) (p pi p2 pg:Option Addr) (n c ni ci n2 c2 ng cg:Nat) (lf sg sz nw:Int) (bz dd:Bool) (L:List By) (B:Nat) (w:World) (hl:Sl (kSl kByte 5) 23 B w p2 n2 c2 L) (hn2:n2≤100000000) (hle:∀ x∈L,x.length≤1048576) (h:Hash) :
    Ret Tryz.prog 77 [.agg #[.int .i64 (D.most:Int),.slice p n c,.int .i64 (D.steps:Int),.bool (decide (0≤D.left)),.int .i64 lf,.bool D.done,.bool D.down,.int .i64 sg,.int .i64 sz,.slice pi ni ci,.slice p2 n2 c2,.bool bz,.slice pg ng cg,.int .i64 nw,.bool dd],.agg (hv h)] w (fun v w'=>(∃ r:Int,v = .int .i64 r∧((r=-1∧findF L h=none)∨∃ i:Nat,r=(i:Int)∧i<L.length∧findF L h=some (L.getD i [])))∧Ext w w'):=by
 have hX:=Ext.refl w
 refine eN 22 Tryz.func77 ?_
 refine Ab (Aa ?_)
 have hXs2:=hX.size
 have hz2:=hX.size
 refine Bu (by conv=>lhs;whnf) ?_
 intro w1 g2 hN2
 have hE1:=hN2.ext
 have hX:=hX.ext hE1
 have hB2:=hN2.blk
 have hq2:=hN2.g_eq
 have hlt2:=hB2.lt
 have hz3:=hX.size
 have hl3_2:=hB2.lt
 refine Bu (by conv=>lhs;whnf) ?_
 intro w2 g3 hN3
 have hE2:=hN3.ext
 have hX:=hX.ext hE2
 have hB2:=hB2.ext hE2
 have hB3:=hN3.blk
 have hq3:=hN3.g_eq
 refine pA (Ac (t_n (Ab (Ab ?_))))
 have hlen:=hl.len
 have hcap:=hl.cap
 have hfit:=hl.fit
 refine Aa ?_
 refine pA (Ac (t_n (Ap ?_)))
 have hWL0:=Ext.refl w2
 refine Bc (ι:=Nat) (rg 4 18) (fun k=>[(5,.int .i64 (k:Int))]) (fun k w'=>Ext w2 w'∧(k≤n2∧∀ j,j<k→shaF (L.getD j [])≠h)) (fun k=>n2 - k) (0) ⟨rfl,trivial⟩ ⟨Ext.refl _,Nat.zero_le _,fun j hj=>by omega⟩ ?_
 rintro k GL0 w3 ⟨hE3,hk,hA⟩
 have hX:=hX.ext hE3
 have hB2:=hB2.ext hE3
 have hB3:=hB3.ext hE3
 have hWL0:=hE3
 refine Ab (Ab (Aa ?_))
 refine pM ?_
 refine p1 (Ad Mr sz22 rfl) ?_
 refine p1 (Ae un22 rfl (hB2.cell (rfl))) ?_
 refine p1 (Ar u22 rfl) ?_
 refine p1 (Bi rfl rfl) ?_
 refine Ac (t_n ?_)
 refine As rfl (fun hc10=>?_) (fun hc10=>?_)
 ·refine Ak (t_n (Ab (Ap (Ab ?_))))
  obtain⟨cs1,⟨q1,m1,c1,rfl,hr1⟩,hrr1⟩:=hl.get [] k (by omega)
  have hx1:=hle _ (Dq (z:=[]) (xs:=L) (i:=k) (by omega) rfl)
  have hm1:=hr1.len
  have hck1:w.cell? ⟨ab p2,ao p2+k,none⟩=some (.slice q1 m1 c1):=by have:=hrr1 0 _ rfl;have e1:(kSl kByte 5).sz=1:=rfl;rw[e1] at this;simpa using this
  refine Bj (fun w1 w2=>Ext w1 w2) mixed ?_
  intro w4 hE4
  have hX:=hX.ext hE4
  have hB2:=hB2.ext hE4
  have hB3:=hB3.ext hE4
  have hWL0:=hWL0.ext hE4
  have hSr4:(fun w1 w2=>Ext w1 w2) w4 w4:=Ext.refl w4
  refine hT 0 rfl hSr4 (fun wS hSS=>by(exact(Ad Mr sz22 rfl))) ?_
  refine hT 1 rfl hSr4 (fun wS hSS=>by(have hB2:=hB2.ext hSS;exact(Ae un22 rfl (hB2.cell (rfl))))) ?_
  refine hT 2 rfl hSr4 (fun wS hSS=>by(exact(Af (by conv=>lhs;whnf)))) ?_
  refine hT 3 rfl hSr4 (fun wS hSS=>by(have hX:=hX.ext hSS;exact(Cr (i:=k) u22 sz23 rfl rfl ((hl.ext hX).adr (by decide) (by omega)) (by omega)))) ?_
  refine hT 4 rfl hSr4 (fun wS hSS=>by(have hX:=hX.ext hSS;exact(Ae un23 rfl (hX.cell hck1)))) ?_
  refine hT 6 rfl hSr4 (fun wS hSS=>by(have hB3:=hB3.ext hSS;exact(Aq ua64 rfl hB3 (C4 sz64 _)))) ?_
  refine h1L 5 (fun Q5 hQ5=>?_)
  refine oC Tryz.func115 (Qv (L.getD k []) _ _ _ _ _ (hr1.ext hX) (by omega)) ?_
  rintro v5 w5 ⟨rfl,hE5⟩
  have hX:=hX.ext hE5
  have hWL0:=hWL0.ext hE5
  have hSr4:=hSr4.ext hE5
  refine An hQ5 ⟨hSr4,?_⟩
  refine hT 7 rfl hSr4 (fun wS hSS=>by(exact(En u64 u5 sz5 eg64 rfl rfl (shaF (L.getD k [])).2 h.2))) ?_
  refine A7 (by kernel_rfl) ?_
  refine t_n ?_
  refine As rfl (fun hc20=>?_) (fun hc20=>?_)
  ·have hkh:shaF (L.getD k [])=h:=Subtype.ext (by simpa using hc20)
   refine Ab (Aa ?_)
   refine pM (pA (Ac (t_n (Ao (b_r (t_r (t_r (b_r (t_r ?_)))))))))
   refine eR1 ?_
   exact⟨⟨_,rfl,.inr ⟨k,rfl,by omega,X1 (by omega) hkh hA⟩⟩,hX⟩
  have hkh:shaF (L.getD k [])≠h:=fun e=>hc20 (by rw[e])
  refine Ak (b_n (t_n (Aa ?_)))
  refine pM ?_
  refine p1 ((A0 rfl rfl (Am (by omega) (by omega))).cast (congrArg (Value.int .i64) (by omega:_=((k+1:Nat):Int)))) ?_
  refine pA (Ac ?_)
  refine t_n (aK (k+1) ⟨rfl,trivial⟩ ?_)
  exact⟨⟨hWL0,by omega,fun j hj=>if h2:j<k then hA j h2 else by rw[show j=k from by omega];exact hkh⟩,by((show _<_);omega)⟩
 have hnone:findF L h=none:=Lz.2 fun c hc e=>by
   obtain⟨j,hj,rfl⟩:=List.mem_iff_getElem.1 hc
   exact hA j (by omega) (by rw[List.getD_eq_getElem?_getD,List.getElem?_eq_getElem hj];exact e)
 refine A8 (t_e (t_e (Bq (t_n (Ab (Aa ?_))))))
 refine pA (Ac (t_n (Ao ?_)))
 refine eR1 ?_
 exact⟨⟨_,rfl,.inl ⟨rfl,hnone⟩⟩,hX⟩
end Go.Proofs.Eng
end
section
set_option maxRecDepth 100000
set_option maxHeartbeats 4000000
namespace Go.Proofs.Eng
open Go.RowKit
open Extern.Stop (cell)
theorem Blk.rangeN {w:World} {g:Nat} {cs:Array Value} {t:TypeId} (h:Blk w g cs t) (o:Nat) (vs:List Value) (hv:∀ j v,vs[j]? = some v→cs[o+j]? = some v):w.rangeAt g o vs:=fun j v e=>h.cell (hv j v e)
section
variable {P : Program} {w : World} {T : TypeId}
theorem Ye {x:Operand} {z0 z1 z2 z3 z4 z5 z6 z7 z8 z9 z10 z11 z12 z13 z14:Value} {a0 a2 a4:Int} {b3 b5 b6:Bool} {p:Option Addr} {m c:Nat} {n:Nat} {f:Nat→Value} {ty0:TypeId} {pos:String} {aft:Array Edge} {dst:Option Nat} {gd:Option (Nat×Bool)}
    (hP:Co P T=some (.agg #[z0,z1,z2,z3,z4,z5,z6,z7,z8,z9,z10,z11,z12,z13,z14],[(0,7),(7,1),(8,1),(9,1),(10,1),(11,1),(12,1),(13,1),(14,1)])) (hx:ev n f x = .agg #[.int .i64 a0,.slice p m c,.int .i64 a2,.bool b3,.int .i64 a4,.bool b5,.bool b6]) :
    Ex P w n f ⟨dst,.build T #[(0,x)],ty0,pos,aft,gd⟩ (.agg #[.int .i64 a0,.slice p m c,.int .i64 a2,.bool b3,.int .i64 a4,.bool b5,.bool b6,z7,z8,z9,z10,z11,z12,z13,z14]) :=
  Eb (parts:=[(0,x)]) (ps:=[(0,.agg #[.int .i64 a0,.slice p m c,.int .i64 a2,.bool b3,.int .i64 a4,.bool b5,.bool b6])]) hP (by rw[← hx];rfl) (by show Instr.fill _ #[z0,z1,z2,z3,z4,z5,z6,z7,z8,z9,z10,z11,z12,z13,z14] _=_;simp[Instr.fill,Value.cells] <;> rfl)
end
theorem obSl {Bl:Nat} {e:TypeId} {w:World} {p:Option Addr} {n c:Nat} {l:List By} (h:Sl (kOb Bl) e 0 w p n c l):Sl (kSl kByte 5) e 0 w p n c l:=by
  obtain⟨css,ha,hr⟩:=h.row
  exact⟨h.len,h.cap,h.fit,css,Kind.All.impK (kOb Bl) (kSl kByte 5) (fun x cs ⟨q,m,c1,h1,h2⟩=>⟨q,m,c1,h1,h2.sl⟩) ha,hr⟩
theorem T7 {D:DS} (h:DOk D) (k:ByteArray):(readD D k).1.length≤16777216:=by
  have h1:=(F2 h k).1
  have h2:=h.room
  have h3:=h.most
  unfold readD
  split
  · simp
  · split
    · simp
    · show (getF D k).1.length≤_;omega
theorem V4 (D:DS) (i:Nat) (p:Option Addr) (n c:Nat) (lf:Int) (w:World) (hl:Sl kFl 119 0 w p n c D.l) (hlf:LfOk D lf) (hG:Good D i) (hi:i<4611686018427370000) :
    Ret Tryz.prog 72 [.agg #[.int .i64 (D.most:Int),.slice p n c,.int .i64 (D.steps:Int),.bool (decide (0≤D.left)),.int .i64 lf,.bool D.done,.bool D.down]] w (fun v w'=>(∃ (p':Option Addr) (n' c':Nat) (lf':Int) (sg sz:Int) (pi:Option Addr) (ni ci:Nat) (pL:Option Addr) (nL cL:Nat),v = .tuple #[.agg #[.int .i64 ((openC D).1.D.most:Int),.slice p' n' c',.int .i64 ((openC D).1.D.steps:Int),.bool (decide (0≤(openC D).1.D.left)),.int .i64 lf',.bool (openC D).1.D.done,.bool (openC D).1.D.down,.int .i64 sg,.int .i64 sz,.slice pi ni ci,.slice pL nL cL,.bool false,.slice none 0 0,.int .i64 0,.bool false],.int .i64 (openC D).2]∧Sl kFl 119 0 w' p' n' c' (openC D).1.D.l∧LfOk (openC D).1.D lf'∧((openC D).2=0→sg=((openC D).1.seg:Int)∧sz=((openC D).1.size:Int)∧Sl kByte 5 0 w' pi ni ci (openC D).1.index∧Sl (kSl kByte 5) 23 0 w' pL nL cL (openC D).1.L))∧Ext w w'):=by
 have hX:=Ext.refl w
 refine eN 132 Tryz.func72 ?_
 refine Ab (Aa ?_)
 have hXs1:=hX.size
 have hz1:=hX.size
 refine Bu (by conv=>lhs;whnf) ?_
 intro w1 g1 hN1
 have hE1:=hN1.ext
 have hX:=hX.ext hE1
 have hB1:=hN1.blk
 have hq1:=hN1.g_eq
 have hXs2:=hX.size
 have hlt1:=hB1.lt
 have hz2:=hX.size
 have hl2_1:=hB1.lt
 refine Ay zr56 ?_
 intro w2 g2 hN2
 have hE2:=hN2.ext
 have hX:=hX.ext hE2
 have hB1:=hB1.ext hE2
 have hB2:=hN2.blk
 have hq2:=hN2.g_eq
 refine pA (Ac (t_n (Ab ?_)))
 have hg2:=hN2.g_eq
 have hg1:=hN1.g_eq
 refine Aa ?_
 refine p1 (Aq ua45 rfl hB1 (by exact sz45)) ?_
 refine p1 (Ye pl56 rfl) ?_
 have hXs4:=hX.size
 have hlt2:=hB2.lt
 have hz4:=hX.size
 have hl4_1:=hB1.lt
 have hl4_2:=hB2.lt
 refine Ay zr56 ?_
 intro w3 g4 hN4
 have hE3:=hN4.ext
 have hX:=hX.ext hE3
 have hB1:=hB1.ext hE3
 have hB2:=hB2.ext hE3
 have hB4:=hN4.blk
 have hq4:=hN4.g_eq
 refine Al rfl (by conv=>lhs;whnf) (by simp[Value.oneCell']) (by exact sz56) hB4 (by rfl) ?_
 intro w4 hP4
 have hX:=hX.put hP4 (by omega)
 have hB1:=hP4.keep hB1 (by omega)
 have hB2:=hP4.keep hB2 (by omega)
 have hB4:=hP4.blk
 have hg4:=hN4.g_eq
 refine pA (Ac (t_n (Ab (Aa ?_))))
 refine p1 (Aq ua45 rfl hB1 (by exact sz45)) ?_
 refine oC Tryz.func74 (O4 D p n c lf _ (hl.ext hX) hlf hG.ok (Nat.lt_of_le_of_lt hG.steps (by omega)) nMan (by decide)) ?_
 rintro v5 w5 ⟨rfl,hE5⟩
 have hX:=hX.ext hE5
 have hB1:=hB1.ext hE5
 have hB2:=hB2.ext hE5
 have hB4:=hB4.ext hE5
 refine pM ?_
 refine p1 (Aj rfl rfl) ?_
 refine p1 (Aj rfl rfl) ?_
 refine pA (pA (Ac (t_n (Ab (Ab (Aa ?_))))))
 refine pM ?_
 refine p1 (Bw rfl rfl) ?_
 refine Ac (t_n ?_)
 refine As rfl (fun hc19=>?_) (fun hc19=>?_)
 ·try simp only[dA,dB,dC,dD,dE,dF,dG,Int.not_lt,Int.not_le] at hc19
  have hRR:=Gq (D:=D) hc19
  have hR0:runD openOps D=andD (cleanD D (toStr [])) (fun D=>andD (A9 D (nSeg 1)) (fun D=>writeM D ⟨1,0,[]⟩)):=by simp only[openOps,runD,Ha]
  rw[hR0] at hRR
  refine Ab (Aa ?_)
  refine p1 (Ad Et sz45 rfl) ?_
  refine p1 (Cb ua45 rfl (by exact sz45) (hB4.rangeN (0+0) [.int .i64 (D.most:Int),.slice p n c,.int .i64 (D.steps:Int),.bool (decide (0≤D.left)),.int .i64 lf,.bool D.done,.bool D.down] (fun j v e=>by rcases j with _ | _ | _ | _ | _ | _ | _ | j <;> first | exact e | (simp at e)))) ?_
  refine oC Tryz.func108 (Kp D i p n c lf _ (hl.ext hX) hlf hG (by omega) (toStr [])) ?_
  rintro v6 w6 ⟨⟨cs1,rfl,pp1,n1,c1,lf1,rfl,hl1,hlf1⟩,hE6⟩
  have hX:=hX.ext hE6
  have hB1:=hB1.ext hE6
  have hB2:=hB2.ext hE6
  have hB4:=hB4.ext hE6
  obtain⟨D1,hD1⟩:∃ d,d=(cleanD D (toStr [])).1:=⟨_,rfl⟩
  obtain⟨e1,he1⟩:∃ e,e=(cleanD D (toStr [])).2:=⟨_,rfl⟩
  rw[← hD1] at hl1 hlf1
  rw[← hD1,← he1]
  have hG1:=hG.cleanD (toStr [])
  rw[← hD1] at hG1
  have hS1:andD (cleanD D (toStr [])) (fun D=>andD (A9 D (nSeg 1)) (fun D=>writeM D ⟨1,0,[]⟩))=andD (D1,e1) (fun D=>andD (A9 D (nSeg 1)) (fun D=>writeM D ⟨1,0,[]⟩)):=by rw[hD1,he1]
  refine pM ?_
  refine p1 (Aj rfl rfl) ?_
  refine p1 (Aj rfl rfl) ?_
  refine p1 (Ad Et sz45 rfl) ?_
  refine Ff rfl rfl (by simp[Value.oneCell']) sz45 hB4 (by simp) ?_
  intro w7 hP7
  have hX:=hX.put hP7 (by omega)
  have hB1:=hP7.keep hB1 (by omega)
  have hB2:=hP7.keep hB2 (by omega)
  have hB4:=hP7.blk
  skip -- hB4
  have hl1:=hl1.mod (hP7.mod 0 (Nat.zero_le _)) (Nat.zero_le _) (by decide)
  have hB4:Blk w7 g4 #[.int .i64 (D1.most:Int),.slice pp1 n1 c1,.int .i64 (D1.steps:Int),.bool (decide (0≤D1.left)),.int .i64 lf1,.bool D1.done,.bool D1.down,.int .i64 0,.int .i64 0,.slice none 0 0,.slice none 0 0,.bool false,.slice none 0 0,.int .i64 0,.bool false] 56:=hB4
  refine pA (Ac (t_n (Ab (Ab (Aa ?_)))))
  refine pM ?_
  refine p1 (Bw rfl rfl) ?_
  refine Ac (t_n ?_)
  refine Dn (ι:=DS×Int×Option Addr×Nat×Nat×Int) ([5]++rg 29 8) (fun (D2,e2,pp2,n2,c2,lf2)=>[(5,.int .i64 e2)]) (fun (D2,e2,pp2,n2,c2,lf2) w'=>Ext w w'∧(Blk w' g4 #[.int .i64 (D2.most:Int),.slice pp2 n2 c2,.int .i64 (D2.steps:Int),.bool (decide (0≤D2.left)),.int .i64 lf2,.bool D2.done,.bool D2.down,.int .i64 0,.int .i64 0,.slice none 0 0,.slice none 0 0,.bool false,.slice none 0 0,.int .i64 0,.bool false] 56∧Sl kFl 119 0 w' pp2 n2 c2 D2.l∧LfOk D2 lf2∧Blk w' g2 #[.int .i64 0,.slice none 0 0,.int .i64 0,.bool false,.int .i64 0,.bool false,.bool false,.int .i64 0,.int .i64 0,.slice none 0 0,.slice none 0 0,.bool false,.slice none 0 0,.int .i64 0,.bool false] 56∧Good D2 (i+65)∧andD (cleanD D (toStr [])) (fun D=>andD (A9 D (nSeg 1)) (fun D=>writeM D ⟨1,0,[]⟩))=andD (D2,e2) (fun D=>writeM D ⟨1,0,[]⟩))) ?_ ?_
  ·skip
   refine As rfl (fun hc28=>?_) (fun hc28=>?_)
   ·try simp only[dA,dB,dC,dD,dE,dF,dG,Int.not_lt,Int.not_le] at hc28
    have hS0:=hS1
    rw[Dy (show (D1,e1).2=0 from hc28)] at hS0
    refine Bj (fun w1 w2=>ModS (fun j=>j=g4) [56] w1 w2) mixed ?_
    intro w9 hE9
    have hX:=hX.ext hE9
    have hB1:=hB1.ext hE9
    have hB2:=hB2.ext hE9
    have hB4:=hB4.ext hE9
    have hl1:=hl1.ext hE9
    have hSr6:(fun w1 w2=>ModS (fun j=>j=g4) [56] w1 w2) w9 w9:=ModS.refl _ _ _
    refine hT 0 rfl hSr6 (fun wS hSS=>by(exact(Ad Et sz45 rfl))) ?_
    refine Lq 1 2 _ _ rfl rfl (by kernel_rfl) (A1 (fun Q1 hQ1=>?_)) (A1 (fun Q2 hQ2=>?_))
    ·skip
     refine p1 (Cb ua45 rfl (by exact sz45) (hB4.rangeN (0+0) [.int .i64 (D1.most:Int),.slice pp1 n1 c1,.int .i64 (D1.steps:Int),.bool (decide (0≤D1.left)),.int .i64 lf1,.bool D1.done,.bool D1.down] (fun j v e=>by rcases j with _ | _ | _ | _ | _ | _ | _ | j <;> first | exact e | (simp at e)))) ?_
     refine An hQ1 ⟨hSr6,?_⟩
     refine h1L 2 (fun Q2 hQ2=>?_)
     refine oC Tryz.func109 (Ih 1 _) ?_
     rintro v10 w10 ⟨rfl,hE10⟩
     have hX:=hX.ext hE10
     have hB1:=hB1.ext hE10
     have hB2:=hB2.ext hE10
     have hB4:=hB4.ext hE10
     have hl1:=hl1.ext hE10
     have hSr6:=hSr6.ext hE10
     refine An hQ2 ⟨hSr6,?_⟩
     refine h1L 3 (fun Q3 hQ3=>?_)
     refine oC Tryz.func21 (Ig D1 pp1 n1 c1 lf1 _ hl1 hlf1 hG1.ok (Nat.lt_of_le_of_lt hG1.steps (by omega)) (nSeg 1) (C0 1)) ?_
     rintro v11 w11 ⟨⟨cs2,rfl,pp2,n2,c2,lf2,rfl,hl2,hlf2⟩,hE11⟩
     have hX:=hX.ext hE11
     have hB1:=hB1.ext hE11
     have hB2:=hB2.ext hE11
     have hB4:=hB4.ext hE11
     have hSr6:=hSr6.ext hE11
     obtain⟨D2,hD2⟩:∃ d,d=(A9 D1 (nSeg 1)).1:=⟨_,rfl⟩
     obtain⟨e2,he2⟩:∃ e,e=(A9 D1 (nSeg 1)).2:=⟨_,rfl⟩
     rw[← hD2] at hl2 hlf2
     rw[← hD2,← he2]
     have hGn:=hG1.create (nSeg 1)
     rw[← hD2] at hGn
     have hSn:andD (cleanD D (toStr [])) (fun D=>andD (A9 D (nSeg 1)) (fun D=>writeM D ⟨1,0,[]⟩))=andD (D2,e2) (fun D=>writeM D ⟨1,0,[]⟩):=by rw[hS0,hD2,he2]
     refine An hQ3 ⟨hSr6,?_⟩
     refine hT 4 rfl hSr6 (fun wS hSS=>by(exact(Af (by conv=>lhs;whnf)))) ?_
     refine hT 5 rfl hSr6 (fun wS hSS=>by(exact(Aj rfl rfl))) ?_
     refine hT 6 rfl hSr6 (fun wS hSS=>by(exact(Aj rfl rfl))) ?_
     refine hT 7 rfl hSr6 (fun wS hSS=>by(exact(Ad Et sz45 rfl))) ?_
     refine h1L 8 (fun Q8 hQ8=>?_)
     refine Ff rfl rfl (by simp[Value.oneCell']) sz45 hB4 (by simp) ?_
     intro w12 hP12
     have hX:=hX.put hP12 (by omega)
     have hB1:=hP12.keep hB1 (by omega)
     have hB2:=hP12.keep hB2 (by omega)
     have hB4:=hP12.blk
     skip -- hB4
     have hSr6:=hSr6.put hP12 ⟨.inl rfl,by decide⟩
     have hl2:=hl2.mod (hP12.mod 0 (Nat.zero_le _)) (Nat.zero_le _) (by decide)
     have hB4:Blk w12 g4 #[.int .i64 (D2.most:Int),.slice pp2 n2 c2,.int .i64 (D2.steps:Int),.bool (decide (0≤D2.left)),.int .i64 lf2,.bool D2.done,.bool D2.down,.int .i64 0,.int .i64 0,.slice none 0 0,.slice none 0 0,.bool false,.slice none 0 0,.int .i64 0,.bool false] 56:=hB4
     refine An hQ8 ⟨hSr6,?_⟩
     refine hT 9 rfl hSr6 (fun wS hSS=>by(exact(Ah (by conv=>lhs;whnf)))) ?_
     refine A7 (by kernel_rfl) ?_
     exact t_n (aK ((D2,e2,pp2,n2,c2,lf2)) ⟨rfl,trivial⟩ ⟨hX,hB4,hl2,hlf2,hB2,hGn.mono (by omega),hSn⟩)
    skip
    refine oC Tryz.func109 (Ih 1 _) ?_
    rintro v13 w13 ⟨rfl,hE13⟩
    have hX:=hX.ext hE13
    have hB1:=hB1.ext hE13
    have hB2:=hB2.ext hE13
    have hB4:=hB4.ext hE13
    have hl1:=hl1.ext hE13
    have hSr6:=hSr6.ext hE13
    refine An hQ2 ⟨hSr6,?_⟩
    refine h1L 1 (fun Q1 hQ1=>?_)
    refine p1 (Cb ua45 rfl (by exact sz45) (hB4.rangeN (0+0) [.int .i64 (D1.most:Int),.slice pp1 n1 c1,.int .i64 (D1.steps:Int),.bool (decide (0≤D1.left)),.int .i64 lf1,.bool D1.done,.bool D1.down] (fun j v e=>by rcases j with _ | _ | _ | _ | _ | _ | _ | j <;> first | exact e | (simp at e)))) ?_
    refine An hQ1 ⟨hSr6,?_⟩
    refine h1L 3 (fun Q3 hQ3=>?_)
    refine oC Tryz.func21 (Ig D1 pp1 n1 c1 lf1 _ hl1 hlf1 hG1.ok (Nat.lt_of_le_of_lt hG1.steps (by omega)) (nSeg 1) (C0 1)) ?_
    rintro v14 w14 ⟨⟨cs2,rfl,pp2,n2,c2,lf2,rfl,hl2,hlf2⟩,hE14⟩
    have hX:=hX.ext hE14
    have hB1:=hB1.ext hE14
    have hB2:=hB2.ext hE14
    have hB4:=hB4.ext hE14
    have hSr6:=hSr6.ext hE14
    obtain⟨D2,hD2⟩:∃ d,d=(A9 D1 (nSeg 1)).1:=⟨_,rfl⟩
    obtain⟨e2,he2⟩:∃ e,e=(A9 D1 (nSeg 1)).2:=⟨_,rfl⟩
    rw[← hD2] at hl2 hlf2
    rw[← hD2,← he2]
    have hGn:=hG1.create (nSeg 1)
    rw[← hD2] at hGn
    have hSn:andD (cleanD D (toStr [])) (fun D=>andD (A9 D (nSeg 1)) (fun D=>writeM D ⟨1,0,[]⟩))=andD (D2,e2) (fun D=>writeM D ⟨1,0,[]⟩):=by rw[hS0,hD2,he2]
    refine An hQ3 ⟨hSr6,?_⟩
    refine hT 4 rfl hSr6 (fun wS hSS=>by(exact(Af (by conv=>lhs;whnf)))) ?_
    refine hT 5 rfl hSr6 (fun wS hSS=>by(exact(Aj rfl rfl))) ?_
    refine hT 6 rfl hSr6 (fun wS hSS=>by(exact(Aj rfl rfl))) ?_
    refine hT 7 rfl hSr6 (fun wS hSS=>by(exact(Ad Et sz45 rfl))) ?_
    refine h1L 8 (fun Q8 hQ8=>?_)
    refine Ff rfl rfl (by simp[Value.oneCell']) sz45 hB4 (by simp) ?_
    intro w15 hP15
    have hX:=hX.put hP15 (by omega)
    have hB1:=hP15.keep hB1 (by omega)
    have hB2:=hP15.keep hB2 (by omega)
    have hB4:=hP15.blk
    skip -- hB4
    have hSr6:=hSr6.put hP15 ⟨.inl rfl,by decide⟩
    have hl2:=hl2.mod (hP15.mod 0 (Nat.zero_le _)) (Nat.zero_le _) (by decide)
    have hB4:Blk w15 g4 #[.int .i64 (D2.most:Int),.slice pp2 n2 c2,.int .i64 (D2.steps:Int),.bool (decide (0≤D2.left)),.int .i64 lf2,.bool D2.done,.bool D2.down,.int .i64 0,.int .i64 0,.slice none 0 0,.slice none 0 0,.bool false,.slice none 0 0,.int .i64 0,.bool false] 56:=hB4
    refine An hQ8 ⟨hSr6,?_⟩
    refine hT 9 rfl hSr6 (fun wS hSS=>by(exact(Ah (by conv=>lhs;whnf)))) ?_
    refine A7 (by kernel_rfl) ?_
    exact t_n (aK ((D2,e2,pp2,n2,c2,lf2)) ⟨rfl,trivial⟩ ⟨hX,hB4,hl2,hlf2,hB2,hGn.mono (by omega),hSn⟩)
   try simp only[dA,dB,dC,dD,dE,dF,dG,Int.not_lt,Int.not_le] at hc28
   have hSn:=hS1
   rw[Ee (show (D1,e1).2≠0 from hc28)] at hSn
   rw[← Ee (f:=(fun D=>writeM D ⟨1,0,[]⟩)) (show (D1,e1).2≠0 from hc28)] at hSn
   refine Ak ?_
   exact t_n (aK ((D1,e1,pp1,n1,c1,lf1)) ⟨rfl,trivial⟩ ⟨hX,hB4,hl1,hlf1,hB2,hG1.mono (by omega),hSn⟩)
  rintro⟨D2,e2,pp2,n2,c2,lf2⟩ Gcutif28 w8 ⟨hE8,hB4,hl2,hlf2,hB2,hG2,hS2⟩
  have hX:=hE8
  refine t_n (Ab (Ab (Aa ?_)))
  refine pM ?_
  refine p1 (Bw rfl rfl) ?_
  refine Ac (t_n ?_)
  refine Dn (ι:=DS×Int×Option Addr×Nat×Nat×Int) ([5]++rg 39 8) (fun (D3,e3,pp3,n3,c3,lf3)=>[(5,.int .i64 e3)]) (fun (D3,e3,pp3,n3,c3,lf3) w'=>Ext w w'∧(Blk w' g4 #[.int .i64 (D3.most:Int),.slice pp3 n3 c3,.int .i64 (D3.steps:Int),.bool (decide (0≤D3.left)),.int .i64 lf3,.bool D3.done,.bool D3.down,.int .i64 0,.int .i64 0,.slice none 0 0,.slice none 0 0,.bool false,.slice none 0 0,.int .i64 0,.bool false] 56∧Sl kFl 119 0 w' pp3 n3 c3 D3.l∧LfOk D3 lf3∧Blk w' g2 #[.int .i64 0,.slice none 0 0,.int .i64 0,.bool false,.int .i64 0,.bool false,.bool false,.int .i64 0,.int .i64 0,.slice none 0 0,.slice none 0 0,.bool false,.slice none 0 0,.int .i64 0,.bool false] 56∧Good D3 (i+69)∧andD (cleanD D (toStr [])) (fun D=>andD (A9 D (nSeg 1)) (fun D=>writeM D ⟨1,0,[]⟩))=(D3,e3))) ?_ ?_
  ·skip
   refine As rfl (fun hc38=>?_) (fun hc38=>?_)
   ·try simp only[dA,dB,dC,dD,dE,dF,dG,Int.not_lt,Int.not_le] at hc38
    have hS0:=hS2
    rw[Dy (show (D2,e2).2=0 from hc38)] at hS0
    refine Aa ?_
    refine p1 (Ad Et sz45 rfl) ?_
    refine p1 (Cb ua45 rfl (by exact sz45) (hB4.rangeN (0+0) [.int .i64 (D2.most:Int),.slice pp2 n2 c2,.int .i64 (D2.steps:Int),.bool (decide (0≤D2.left)),.int .i64 lf2,.bool D2.done,.bool D2.down] (fun j v e=>by rcases j with _ | _ | _ | _ | _ | _ | _ | j <;> first | exact e | (simp at e)))) ?_
    refine p1 (M6 pl157 (by conv=>lhs;whnf) rfl) ?_
    refine oC Tryz.func110 (Qh D2 (i+65) pp2 n2 c2 lf2 _ hl2 hlf2 (hG2.mono (by omega)) (by omega) 1 0 [] 0 none 0 0 (Sl.nil _ _ _ _ _ _ (by omega))) ?_
    rintro v17 w17 ⟨⟨cs3,rfl,pp3,n3,c3,lf3,rfl,hl3,hlf3⟩,hE17⟩
    have hX:=hX.ext hE17
    have hB4:=hB4.ext hE17
    have hB2:=hB2.ext hE17
    obtain⟨D3,hD3⟩:∃ d,d=(writeM D2 ⟨1,0,[]⟩).1:=⟨_,rfl⟩
    obtain⟨e3,he3⟩:∃ e,e=(writeM D2 ⟨1,0,[]⟩).2:=⟨_,rfl⟩
    rw[← hD3] at hl3 hlf3
    rw[← hD3,← he3]
    have hGn:=hG2.writeM ⟨1,0,[]⟩
    rw[← hD3] at hGn
    have hSn:andD (cleanD D (toStr [])) (fun D=>andD (A9 D (nSeg 1)) (fun D=>writeM D ⟨1,0,[]⟩))=(D3,e3):=by rw[hS0,hD3,he3]
    refine pM ?_
    refine p1 (Aj rfl rfl) ?_
    refine p1 (Aj rfl rfl) ?_
    refine p1 (Ad Et sz45 rfl) ?_
    refine Ff rfl rfl (by simp[Value.oneCell']) sz45 hB4 (by simp) ?_
    intro w18 hP18
    have hX:=hX.put hP18 (by omega)
    have hB4:=hP18.blk
    skip -- hB4
    have hB2:=hP18.keep hB2 (by omega)
    have hl3:=hl3.mod (hP18.mod 0 (Nat.zero_le _)) (Nat.zero_le _) (by decide)
    have hB4:Blk w18 g4 #[.int .i64 (D3.most:Int),.slice pp3 n3 c3,.int .i64 (D3.steps:Int),.bool (decide (0≤D3.left)),.int .i64 lf3,.bool D3.done,.bool D3.down,.int .i64 0,.int .i64 0,.slice none 0 0,.slice none 0 0,.bool false,.slice none 0 0,.int .i64 0,.bool false] 56:=hB4
    refine pA (Ac ?_)
    exact t_n (aK ((D3,e3,pp3,n3,c3,lf3)) ⟨rfl,trivial⟩ ⟨hX,hB4,hl3,hlf3,hB2,hGn.mono (by omega),hSn⟩)
   try simp only[dA,dB,dC,dD,dE,dF,dG,Int.not_lt,Int.not_le] at hc38
   have hSn:=hS2
   rw[Ee (show (D2,e2).2≠0 from hc38)] at hSn
   refine Ak ?_
   exact t_n (aK ((D2,e2,pp2,n2,c2,lf2)) ⟨rfl,trivial⟩ ⟨hX,hB4,hl2,hlf2,hB2,hG2.mono (by omega),hSn⟩)
  rintro⟨D3,e3,pp3,n3,c3,lf3⟩ Gcutif38 w16 ⟨hE16,hB4,hl3,hlf3,hB2,hG3,hS3⟩
  have hX:=hE16
  refine t_n (Ab (Aa ?_))
  refine p1 (Ad Abo sz3 rfl) ?_
  refine Aw rfl (by conv=>lhs;whnf) rfl rfl sz3 hB4 (by simp) ?_
  intro w19 hP19
  have hX:=hX.put hP19 (by omega)
  have hB4:=hP19.blk
  skip -- hB4
  have hl3:=hl3.mod (hP19.mod 0 (Nat.zero_le _)) (Nat.zero_le _) (by decide)
  have hB2:=hP19.keep hB2 (by omega)
  have hB4:Blk w19 g4 #[.int .i64 (D3.most:Int),.slice pp3 n3 c3,.int .i64 (D3.steps:Int),.bool (decide (0≤D3.left)),.int .i64 lf3,.bool D3.done,.bool D3.down,.int .i64 1,.int .i64 0,.slice none 0 0,.slice none 0 0,.bool false,.slice none 0 0,.int .i64 0,.bool false] 56:=hB4
  refine Ac (t_n (Ab (Aa ?_)))
  refine p1 (Aq ua56 rfl hB4 (by exact sz56)) ?_
  refine pM ?_
  refine Al rfl (by conv=>lhs;whnf) (by simp[Value.oneCell']) (by exact sz56) hB2 (by rfl) ?_
  intro w20 hP20
  have hX:=hX.put hP20 (by omega)
  have hB4:=hP20.keep hB4 (by omega)
  have hl3:=hl3.mod (hP20.mod 0 (Nat.zero_le _)) (Nat.zero_le _) (by decide)
  have hB2:=hP20.blk
  refine pA (Ac (t_n (Ao (t_r ?_))))
  refine end2c rfl ua56 rfl (by conv=>lhs;whnf) hB2 (by exact sz56) ?_
  (rw[hRR,hS3];exact⟨⟨pp3,n3,c3,lf3,1,0,none,0,0,none,0,0,rfl,hl3,hlf3,fun _=>⟨rfl,rfl,Sl.nil _ _ _ _ _ _ (by omega),Sl.nil _ _ _ _ _ _ (by omega)⟩⟩,hX⟩)
 try simp only[dA,dB,dC,dD,dE,dF,dG,Int.not_lt,Int.not_le] at hc19
 refine Ak (t_n (Ab (Ab (Aa ?_))))
 refine pM ?_
 refine p1 (A2 rfl rfl) ?_
 refine Ac (t_n ?_)
 refine As rfl (fun hc51=>?_) (fun hc51=>?_)
 ·try simp only[dA,dB,dC,dD,dE,dF,dG,Int.not_lt,Int.not_le] at hc51
  have hbad:=H3 (D:=D) hc51 hc19
  refine Ab (Aa ?_)
  refine p1 (Aq ua56 rfl hB4 (by exact sz56)) ?_
  refine pM ?_
  refine Al rfl (by conv=>lhs;whnf) (by simp[Value.oneCell']) (by exact sz56) hB2 (by rfl) ?_
  intro w21 hP21
  have hX:=hX.put hP21 (by omega)
  have hB1:=hP21.keep hB1 (by omega)
  have hB2:=hP21.blk
  have hB4:=hP21.keep hB4 (by omega)
  refine pA (Ac (t_n (Ao (t_r ?_))))
  refine end2c rfl ua56 rfl (by conv=>lhs;whnf) hB2 (by exact sz56) ?_
  (rw[hbad];exact⟨⟨p,n,c,lf,0,0,none,0,0,none,0,0,rfl,hl.ext hX,hlf,fun h=>absurd h hc51⟩,hX⟩)
 try simp only[dA,dB,dC,dD,dE,dF,dG,Int.not_lt,Int.not_le] at hc51
 have he0r:(readD D nMan).2=0:=by omega
 have hld:=Fr (D:=D) he0r
 obtain⟨raw,hraw⟩:∃ r,r=(readD D nMan).1:=⟨_,rfl⟩
 have hrl:raw.length≤16777216:=by rw[hraw];exact T7 hG.ok _
 rw[← hraw] at hld
 rw[← hraw]
 refine Ak (t_n (Ab (Aa ?_)))
 refine pM ?_
 refine Uf u9 u23 u5 rfl (by omega) ?_
 intro q0 ck0 w22 hE22 hK
 have hX:=hX.ext hE22
 have hB1:=hB1.ext hE22
 have hB2:=hB2.ext hE22
 have hB4:=hB4.ext hE22
 refine oC Tryz.func111 (Yw raw _ _ _ _ _ (hK.sl.re (Nat.le_refl _) 5)) ?_
 rintro v23 w23 ⟨⟨sg,sz,qi,mi,ci,em,rfl,hMM⟩,hE23⟩
 have hX:=hX.ext hE23
 have hB1:=hB1.ext hE23
 have hB2:=hB2.ext hE23
 have hB4:=hB4.ext hE23
 have hMx:∀ w2,Ext w23 w2→em=0→∃ M:Mf,ManOf raw M∧sg=(M.seg:Int)∧sz=(M.size:Int)∧Sl kByte 5 0 w2 qi mi ci M.index:=fun w2 hx he=>by
   obtain⟨_,M,ma,mb,mc,md⟩:=hMM.resolve_right (fun h=>by have:=h.1;omega)
   exact⟨M,ma,mb,mc,md.ext hx⟩
 have hMn:em≠0→¬ ∃ M,ManOf raw M:=fun he=>(hMM.resolve_left (fun h=>he h.1)).2
 have hG7:=Ext.refl w23
 refine pM ?_
 refine p1 (Aj rfl rfl) ?_
 refine p1 (Aj rfl rfl) ?_
 have hXs7:=hX.size
 have hlt4:=hB4.lt
 have hG7s:=hG7.size
 have hz7:=hX.size
 have hl7_1:=hB1.lt
 have hl7_2:=hB2.lt
 have hl7_4:=hB4.lt
 refine Ay zr157 ?_
 intro w24 g7 hN7
 have hE24:=hN7.ext
 have hX:=hX.ext hE24
 have hB1:=hB1.ext hE24
 have hB2:=hB2.ext hE24
 have hB4:=hB4.ext hE24
 have hG7:=hG7.ext hE24
 have hB7:=hN7.blk
 have hq7:=hN7.g_eq
 refine Al rfl (by conv=>lhs;whnf) (by simp[Value.oneCell']) (by exact sz157) hB7 (by rfl) ?_
 intro w25 hP25
 have hX:=hX.put hP25 (by omega)
 have hB1:=hP25.keep hB1 (by omega)
 have hB2:=hP25.keep hB2 (by omega)
 have hB4:=hP25.keep hB4 (by omega)
 have hG7:=hG7.put hP25 (by rw[hN7.g_eq];exact hG7s)
 have hB7:=hP25.blk
 refine pA (Ac (t_n (Ab (Ab (Aa ?_)))))
 refine pM ?_
 refine p1 (A2 rfl rfl) ?_
 refine Ac (t_n ?_)
 refine As rfl (fun hc61=>?_) (fun hc61=>?_)
 ·try simp only[dA,dB,dC,dD,dE,dF,dG,Int.not_lt,Int.not_le] at hc61
  have hno:=hld.trans (I9 (D:=D) (hMn hc61))
  refine Ab (Aa ?_)
  refine p1 (Aq ua56 rfl hB4 (by exact sz56)) ?_
  refine Al rfl (by conv=>lhs;whnf) (by simp[Value.oneCell']) (by exact sz56) hB2 (by rfl) ?_
  intro w26 hP26
  have hX:=hX.put hP26 (by omega)
  have hB1:=hP26.keep hB1 (by omega)
  have hB2:=hP26.blk
  have hB4:=hP26.keep hB4 (by omega)
  have hB7:=hP26.keep hB7 (by omega)
  refine pA (Ac (t_n (Ao (t_r ?_))))
  refine end2c rfl ua56 rfl (by conv=>lhs;whnf) hB2 (by exact sz56) ?_
  (rw[hno];exact⟨⟨p,n,c,lf,0,0,none,0,0,none,0,0,rfl,hl.ext hX,hlf,fun h=>absurd (show (50:Int)=0 from h) (by decide)⟩,hX⟩)
 try simp only[dA,dB,dC,dD,dE,dF,dG,Int.not_lt,Int.not_le] at hc61
 obtain⟨M,hMO,rfl,rfl,hIx⟩:=hMx _ hG7 (by omega)
 have hlm:=hld.trans (Gs (D:=D) hMO)
 have hMlo:=hMO.1.lo
 have hMhi:=hMO.1.hi
 have hMsz:=hMO.1.sz
 obtain⟨b,hb_⟩:∃ r,r=(readD D (nSeg M.seg)).1:=⟨_,rfl⟩
 obtain⟨er,her⟩:∃ r,r=(readD D (nSeg M.seg)).2:=⟨_,rfl⟩
 have hbl:b.length≤16777216:=by rw[hb_];exact T7 hG.ok _
 rw[← hb_,← her] at hlm
 refine Ak (t_n (Ab (Aa ?_)))
 refine p1 (Ad Lv sz3 rfl) ?_
 refine p1 (Ae un3 rfl (hB7.cell (rfl))) ?_
 refine oC Tryz.func109 (Ih (M.seg:Int) _) ?_
 rintro v27 w27 ⟨rfl,hE27⟩
 have hX:=hX.ext hE27
 have hB1:=hB1.ext hE27
 have hB2:=hB2.ext hE27
 have hB4:=hB4.ext hE27
 have hB7:=hB7.ext hE27
 have hIx:=hIx.ext hE27
 refine pA (Ac (t_n (Ab (Aa ?_))))
 refine p1 (Aq ua45 rfl hB1 (by exact sz45)) ?_
 refine pM ?_
 refine oC Tryz.func74 (O4 D p n c lf _ (hl.ext hX) hlf hG.ok (Nat.lt_of_le_of_lt hG.steps (by omega)) (nSeg M.seg) (C0 M.seg)) ?_
 rintro v28 w28 ⟨rfl,hE28⟩
 have hX:=hX.ext hE28
 have hB1:=hB1.ext hE28
 have hB2:=hB2.ext hE28
 have hB4:=hB4.ext hE28
 have hB7:=hB7.ext hE28
 have hIx:=hIx.ext hE28
 rw[← hb_,← her]
 refine pM ?_
 refine p1 (Aj rfl rfl) ?_
 refine p1 (Aj rfl rfl) ?_
 refine pA (pA (Ac (t_n (Ab (Ab ?_)))))
 have hWr18:=Ext.refl w28
 refine Dn (ι:=Unit) (rg 72 9) (fun _=>[(80,.bool (decide (er≠0∨b.length<M.size)))]) (fun _ w'=>Ext w28 w') ?_ ?_
 ·skip
  refine Aa ?_
  refine pM ?_
  refine p1 (A2 rfl rfl) ?_
  refine p1b (Af (by conv=>lhs;whnf)) (fun hb18_2=>?_) (fun hb18_2=>?_)
  ·try simp only[dA,dB,dC,dD,dE,dF,dG,Int.not_lt,Int.not_le] at hb18_2
   refine gF 74 (gF 74 (gF 74 (gF 74 (gF 74 ?_))))
   refine p1 (Ax rfl (by conv=>lhs;whnf)) ?_
   refine Ac ?_
   refine t_n (aK () ⟨congrArg Value.bool (by exact(decide_eq_true (by omega)).symm),trivial⟩ hWr18)
  try simp only[dA,dB,dC,dD,dE,dF,dG,Int.not_lt,Int.not_le] at hb18_2
  refine gM 74 ?_
  refine Eng.g1 74 rfl rfl ((Dt u9 rfl).cast (congrArg (Value.int .i64) (by rw[Bo]))) ?_
  refine Eng.g1 74 rfl rfl (Ad Hk sz3 rfl) ?_
  refine Eng.g1 74 rfl rfl (Ae un3 rfl (hB7.cell (rfl))) ?_
  refine Eng.g1 74 rfl rfl (Bi rfl rfl) ?_
  refine p1 (Au rfl (by conv=>lhs;whnf)) ?_
  refine Ac ?_
  refine t_n (aK () ⟨congrArg Value.bool (by exact decide_eq_decide.2 (by omega)),trivial⟩ hWr18)
 rintro _ Gr18 w29 hE29
 have hX:=hX.ext hE29
 have hB1:=hB1.ext hE29
 have hB2:=hB2.ext hE29
 have hB4:=hB4.ext hE29
 have hB7:=hB7.ext hE29
 have hIx:=hIx.ext hE29
 refine t_n ?_
 refine As rfl (fun hc80=>?_) (fun hc80=>?_)
 ·try simp only[dA,dB,dC,dD,dE,dF,dG,Int.not_lt,Int.not_le] at hc80
  have hno:=hlm.trans (if_pos (by rcases hc80 with h | h;exact .inl h;exact .inr (.inl h)))
  refine Ab (Aa ?_)
  refine p1 (Aq ua56 rfl hB4 (by exact sz56)) ?_
  refine Al rfl (by conv=>lhs;whnf) (by simp[Value.oneCell']) (by exact sz56) hB2 (by rfl) ?_
  intro w30 hP30
  have hX:=hX.put hP30 (by omega)
  have hB1:=hP30.keep hB1 (by omega)
  have hB2:=hP30.blk
  have hB4:=hP30.keep hB4 (by omega)
  have hB7:=hP30.keep hB7 (by omega)
  refine pA (Ac (t_n (Ao (t_r ?_))))
  refine end2c rfl ua56 rfl (by conv=>lhs;whnf) hB2 (by exact sz56) ?_
  (rw[hno];exact⟨⟨p,n,c,lf,0,0,none,0,0,none,0,0,rfl,hl.ext hX,hlf,fun h=>absurd (show (50:Int)=0 from h) (by decide)⟩,hX⟩)
 try simp only[dA,dB,dC,dD,dE,dF,dG,Int.not_lt,Int.not_le] at hc80
 refine Ak (t_n (Ab (Aa ?_)))
 refine pM ?_
 refine p1 (Ad Hk sz3 rfl) ?_
 refine p1 (Ae un3 rfl (hB7.cell (rfl))) ?_
 refine p1 ((Kk u9 rfl rfl (by omega) (by omega)).cast (congrArg (fun z=>Value.string (toStr (b.take z))) (by omega:((M.size:Int)).toNat=M.size))) ?_
 refine Uf u9 u23 u5 rfl (by rw[List.length_take];omega) ?_
 intro q1 ck1 w31 hE31 hK2
 have hX:=hX.ext hE31
 have hB1:=hB1.ext hE31
 have hB2:=hB2.ext hE31
 have hB4:=hB4.ext hE31
 have hB7:=hB7.ext hE31
 have hIx:=hIx.ext hE31
 refine oC Tryz.func112 (Yx (b.take M.size) _ _ _ _ _ (hK2.sl.re (Nat.le_refl _) 5) (by rw[List.length_take];omega)) ?_
 rintro v32 w32 ⟨⟨qL,mL,cL,rfl,hLo⟩,hE32⟩
 have hX:=hX.ext hE32
 have hB1:=hB1.ext hE32
 have hB2:=hB2.ext hE32
 have hB4:=hB4.ext hE32
 have hB7:=hB7.ext hE32
 have hIx:=hIx.ext hE32
 obtain⟨gl,hgl⟩:∃ g,g=(getSg (b.take M.size)).1:=⟨_,rfl⟩
 obtain⟨ge,hge⟩:∃ g,g=(getSg (b.take M.size)).2:=⟨_,rfl⟩
 rw[← hgl] at hLo
 rw[← hge]
 rw[← hge] at hlm
 have hLr:=obSl hLo.sl
 refine pM ?_
 refine p1 (Aj rfl rfl) ?_
 refine p1 (Aj rfl rfl) ?_
 refine pA (pA (Ac (t_n (Ab (Ab (Aa ?_))))))
 refine pM ?_
 refine p1 (A2 rfl rfl) ?_
 refine Ac (t_n ?_)
 refine As rfl (fun hc92=>?_) (fun hc92=>?_)
 ·try simp only[dA,dB,dC,dD,dE,dF,dG,Int.not_lt,Int.not_le] at hc92
  have hno:=hlm.trans (if_pos (.inr (.inr hc92)))
  refine Ab (Aa ?_)
  refine p1 (Aq ua56 rfl hB4 (by exact sz56)) ?_
  refine Al rfl (by conv=>lhs;whnf) (by simp[Value.oneCell']) (by exact sz56) hB2 (by rfl) ?_
  intro w33 hP33
  have hX:=hX.put hP33 (by omega)
  have hB1:=hP33.keep hB1 (by omega)
  have hB2:=hP33.blk
  have hB4:=hP33.keep hB4 (by omega)
  have hB7:=hP33.keep hB7 (by omega)
  refine pA (Ac (t_n (Ao (t_r ?_))))
  refine end2c rfl ua56 rfl (by conv=>lhs;whnf) hB2 (by exact sz56) ?_
  (rw[hno];exact⟨⟨p,n,c,lf,0,0,none,0,0,none,0,0,rfl,hl.ext hX,hlf,fun h=>absurd (show (50:Int)=0 from h) (by decide)⟩,hX⟩)
 try simp only[dA,dB,dC,dD,dE,dF,dG,Int.not_lt,Int.not_le] at hc92
 have hge0:ge=0:=by omega
 have hgood:=hlm.trans (if_neg (by rintro (h | h | h);exact hc80 (.inl h);exact hc80 (.inr h);exact hc92 h))
 refine Ak (t_n (Ab (Ab (Aa ?_))))
 refine pM ?_
 refine p1 ((Dt u9 rfl).cast (congrArg (Value.int .i64) (by rw[Bo]))) ?_
 refine p1 (Ad Hk sz3 rfl) ?_
 refine p1 (Ae un3 rfl (hB7.cell (rfl))) ?_
 refine p1 (Cw rfl rfl) ?_
 refine Ac (t_n ?_)
 refine Dn (ι:=DS×Int×Option Addr×Nat×Nat×Int) ([5]++rg 99 10) (fun (D2,e2,pp2,n2,c2,lf2)=>[(5,.int .i64 e2)]) (fun (D2,e2,pp2,n2,c2,lf2) w'=>Ext w w'∧(Blk w' g4 #[.int .i64 (D2.most:Int),.slice pp2 n2 c2,.int .i64 (D2.steps:Int),.bool (decide (0≤D2.left)),.int .i64 lf2,.bool D2.done,.bool D2.down,.int .i64 0,.int .i64 0,.slice none 0 0,.slice none 0 0,.bool false,.slice none 0 0,.int .i64 0,.bool false] 56∧Sl kFl 119 0 w' pp2 n2 c2 D2.l∧LfOk D2 lf2∧Blk w' g2 #[.int .i64 0,.slice none 0 0,.int .i64 0,.bool false,.int .i64 0,.bool false,.bool false,.int .i64 0,.int .i64 0,.slice none 0 0,.slice none 0 0,.bool false,.slice none 0 0,.int .i64 0,.bool false] 56∧Good D2 (i+1)∧loadR D M=andD (D2,e2) (fun D=>cleanD D (nSeg M.seg))∧Blk w' g7 #[.int .i64 (M.seg:Int),.int .i64 (M.size:Int),.slice qi mi ci] 157∧Sl kByte 5 0 w' qi mi ci M.index∧Sl (kSl kByte 5) 23 0 w' qL mL cL gl)) ?_ ?_
 ·skip
  refine As rfl (fun hc98=>?_) (fun hc98=>?_)
  ·try simp only[dA,dB,dC,dD,dE,dF,dG,Int.not_lt,Int.not_le] at hc98
   skip
   refine Aa ?_
   refine p1 (Ad Et sz45 rfl) ?_
   refine p1 (Cb ua45 rfl (by exact sz45) (hB4.rangeN (0+0) [.int .i64 (D.most:Int),.slice p n c,.int .i64 (D.steps:Int),.bool (decide (0≤D.left)),.int .i64 lf,.bool D.done,.bool D.down] (fun j v e=>by rcases j with _ | _ | _ | _ | _ | _ | _ | j <;> first | exact e | (simp at e)))) ?_
   refine pM ?_
   refine p1 (Ad Hk sz3 rfl) ?_
   refine p1 (Ae un3 rfl (hB7.cell (rfl))) ?_
   refine oC Tryz.func113 (Ac4 D p n c lf _ (hl.ext hX) hlf hG.ok (Nat.lt_of_le_of_lt hG.steps (by omega)) (nSeg M.seg) (C0 M.seg) (M.size:Int) (by omega) (by omega)) ?_
   rintro v35 w35 ⟨⟨cs1,rfl,pp1,n1,c1,lf1,rfl,hl1,hlf1⟩,hE35⟩
   have hX:=hX.ext hE35
   have hB1:=hB1.ext hE35
   have hB2:=hB2.ext hE35
   have hB4:=hB4.ext hE35
   have hB7:=hB7.ext hE35
   have hIx:=hIx.ext hE35
   have hLr:=hLr.ext hE35
   obtain⟨D1,hD1⟩:∃ d,d=(cutD D (nSeg M.seg) (M.size:Int)).1:=⟨_,rfl⟩
   obtain⟨e1,he1⟩:∃ e,e=(cutD D (nSeg M.seg) (M.size:Int)).2:=⟨_,rfl⟩
   rw[← hD1] at hl1 hlf1
   rw[← hD1,← he1]
   have hG1:=hG.cut (nSeg M.seg) (M.size:Int)
   rw[← hD1] at hG1
   have hS1:loadR D M=andD (D1,e1) (fun D=>cleanD D (nSeg M.seg)):=by unfold loadR;rw[if_pos (by rw[← hb_];omega),hD1,he1]
   refine pM ?_
   refine p1 (Aj rfl rfl) ?_
   refine p1 (Aj rfl rfl) ?_
   refine p1 (Ad Et sz45 rfl) ?_
   refine Ff rfl rfl (by simp[Value.oneCell']) sz45 hB4 (by simp) ?_
   intro w36 hP36
   have hX:=hX.put hP36 (by omega)
   have hB1:=hP36.keep hB1 (by omega)
   have hB2:=hP36.keep hB2 (by omega)
   have hB4:=hP36.blk
   skip -- hB4
   have hB7:=hP36.keep hB7 (by omega)
   have hIx:=hIx.mod (hP36.mod 0 (Nat.zero_le _)) (Nat.zero_le _) (by decide)
   have hLr:=hLr.mod (hP36.mod 0 (Nat.zero_le _)) (Nat.zero_le _) (by decide)
   have hl1:=hl1.mod (hP36.mod 0 (Nat.zero_le _)) (Nat.zero_le _) (by decide)
   have hB4:Blk w36 g4 #[.int .i64 (D1.most:Int),.slice pp1 n1 c1,.int .i64 (D1.steps:Int),.bool (decide (0≤D1.left)),.int .i64 lf1,.bool D1.done,.bool D1.down,.int .i64 0,.int .i64 0,.slice none 0 0,.slice none 0 0,.bool false,.slice none 0 0,.int .i64 0,.bool false] 56:=hB4
   refine pA (Ac ?_)
   exact t_n (aK ((D1,e1,pp1,n1,c1,lf1)) ⟨rfl,trivial⟩ ⟨hX,hB4,hl1,hlf1,hB2,hG1,hS1,hB7,hIx,hLr⟩)
  try simp only[dA,dB,dC,dD,dE,dF,dG,Int.not_lt,Int.not_le] at hc98
  have hS0:loadR D M=andD (D,ge) (fun D=>cleanD D (nSeg M.seg)):=by unfold loadR;rw[if_neg (by rw[← hb_];omega),hge0]
  refine Ak ?_
  exact t_n (aK ((D,ge,p,n,c,lf)) ⟨rfl,trivial⟩ ⟨hX,hB4,hl.ext hX,hlf,hB2,hG.mono (by omega),hS0,hB7,hIx,hLr⟩)
 rintro⟨D2,e2,pp2,n2,c2,lf2⟩ Gcutif98 w34 ⟨hE34,hB4,hl2,hlf2,hB2,hG2,hS2,hB7,hIx,hLr⟩
 have hX:=hE34
 refine t_n (Ab (Ab (Aa ?_)))
 refine pM ?_
 refine p1 (Bw rfl rfl) ?_
 refine Ac (t_n ?_)
 refine Dn (ι:=DS×Int×Option Addr×Nat×Nat×Int) ([5]++rg 111 8) (fun (D3,e3,pp3,n3,c3,lf3)=>[(5,.int .i64 e3)]) (fun (D3,e3,pp3,n3,c3,lf3) w'=>Ext w w'∧(Blk w' g4 #[.int .i64 (D3.most:Int),.slice pp3 n3 c3,.int .i64 (D3.steps:Int),.bool (decide (0≤D3.left)),.int .i64 lf3,.bool D3.done,.bool D3.down,.int .i64 0,.int .i64 0,.slice none 0 0,.slice none 0 0,.bool false,.slice none 0 0,.int .i64 0,.bool false] 56∧Sl kFl 119 0 w' pp3 n3 c3 D3.l∧LfOk D3 lf3∧Blk w' g2 #[.int .i64 0,.slice none 0 0,.int .i64 0,.bool false,.int .i64 0,.bool false,.bool false,.int .i64 0,.int .i64 0,.slice none 0 0,.slice none 0 0,.bool false,.slice none 0 0,.int .i64 0,.bool false] 56∧Good D3 (i+65)∧(loadR D M)=(D3,e3)∧Blk w' g7 #[.int .i64 (M.seg:Int),.int .i64 (M.size:Int),.slice qi mi ci] 157∧Sl kByte 5 0 w' qi mi ci M.index∧Sl (kSl kByte 5) 23 0 w' qL mL cL gl)) ?_ ?_
 ·skip
  refine As rfl (fun hc110=>?_) (fun hc110=>?_)
  ·try simp only[dA,dB,dC,dD,dE,dF,dG,Int.not_lt,Int.not_le] at hc110
   have hS0:=hS2
   rw[Dy (show (D2,e2).2=0 from hc110)] at hS0
   refine Aa ?_
   refine p1 (Ad Et sz45 rfl) ?_
   refine p1 (Cb ua45 rfl (by exact sz45) (hB4.rangeN (0+0) [.int .i64 (D2.most:Int),.slice pp2 n2 c2,.int .i64 (D2.steps:Int),.bool (decide (0≤D2.left)),.int .i64 lf2,.bool D2.done,.bool D2.down] (fun j v e=>by rcases j with _ | _ | _ | _ | _ | _ | _ | j <;> first | exact e | (simp at e)))) ?_
   refine pM ?_
   refine oC Tryz.func108 (Kp D2 (i+1) pp2 n2 c2 lf2 _ hl2 hlf2 hG2 (by omega) (nSeg M.seg)) ?_
   rintro v38 w38 ⟨⟨cs3,rfl,pp3,n3,c3,lf3,rfl,hl3,hlf3⟩,hE38⟩
   have hX:=hX.ext hE38
   have hB4:=hB4.ext hE38
   have hB2:=hB2.ext hE38
   have hB7:=hB7.ext hE38
   have hIx:=hIx.ext hE38
   have hLr:=hLr.ext hE38
   obtain⟨D3,hD3⟩:∃ d,d=(cleanD D2 (nSeg M.seg)).1:=⟨_,rfl⟩
   obtain⟨e3,he3⟩:∃ e,e=(cleanD D2 (nSeg M.seg)).2:=⟨_,rfl⟩
   rw[← hD3] at hl3 hlf3
   rw[← hD3,← he3]
   have hGn:=hG2.cleanD (nSeg M.seg)
   rw[← hD3] at hGn
   have hSn:loadR D M=(D3,e3):=by rw[hS0,hD3,he3]
   refine pM ?_
   refine p1 (Aj rfl rfl) ?_
   refine p1 (Aj rfl rfl) ?_
   refine p1 (Ad Et sz45 rfl) ?_
   refine Ff rfl rfl (by simp[Value.oneCell']) sz45 hB4 (by simp) ?_
   intro w39 hP39
   have hX:=hX.put hP39 (by omega)
   have hB4:=hP39.blk
   skip -- hB4
   have hB2:=hP39.keep hB2 (by omega)
   have hB7:=hP39.keep hB7 (by omega)
   have hIx:=hIx.mod (hP39.mod 0 (Nat.zero_le _)) (Nat.zero_le _) (by decide)
   have hLr:=hLr.mod (hP39.mod 0 (Nat.zero_le _)) (Nat.zero_le _) (by decide)
   have hl3:=hl3.mod (hP39.mod 0 (Nat.zero_le _)) (Nat.zero_le _) (by decide)
   have hB4:Blk w39 g4 #[.int .i64 (D3.most:Int),.slice pp3 n3 c3,.int .i64 (D3.steps:Int),.bool (decide (0≤D3.left)),.int .i64 lf3,.bool D3.done,.bool D3.down,.int .i64 0,.int .i64 0,.slice none 0 0,.slice none 0 0,.bool false,.slice none 0 0,.int .i64 0,.bool false] 56:=hB4
   refine pA (Ac ?_)
   exact t_n (aK ((D3,e3,pp3,n3,c3,lf3)) ⟨rfl,trivial⟩ ⟨hX,hB4,hl3,hlf3,hB2,hGn.mono (by omega),hSn,hB7,hIx,hLr⟩)
  try simp only[dA,dB,dC,dD,dE,dF,dG,Int.not_lt,Int.not_le] at hc110
  have hSn:=hS2
  rw[Ee (show (D2,e2).2≠0 from hc110)] at hSn
  refine Ak ?_
  exact t_n (aK ((D2,e2,pp2,n2,c2,lf2)) ⟨rfl,trivial⟩ ⟨hX,hB4,hl2,hlf2,hB2,hG2.mono (by omega),hSn,hB7,hIx,hLr⟩)
 rintro⟨D3,e3,pp3,n3,c3,lf3⟩ Gcutif110 w37 ⟨hE37,hB4,hl3,hlf3,hB2,hG3,hS3,hB7,hIx,hLr⟩
 have hX:=hE37
 refine t_n (Ab ?_)
 refine Bj (fun w1 w2=>ModS (fun j=>j=g4) [56] w1 w2) mixed ?_
 intro w40 hE40
 have hX:=hX.ext hE40
 have hB4:=hB4.ext hE40
 have hl3:=hl3.ext hE40
 have hB2:=hB2.ext hE40
 have hB7:=hB7.ext hE40
 have hIx:=hIx.ext hE40
 have hLr:=hLr.ext hE40
 have hSr27:(fun w1 w2=>ModS (fun j=>j=g4) [56] w1 w2) w40 w40:=ModS.refl _ _ _
 refine hT 0 rfl hSr27 (fun wS hSS=>by(exact(Ad Lv sz3 rfl))) ?_
 refine hT 1 rfl hSr27 (fun wS hSS=>by(have hB7:=hB7.modS hSS (.inr (by decide));exact(Ae un3 rfl (hB7.cell (rfl))))) ?_
 refine hT 2 rfl hSr27 (fun wS hSS=>by(exact(Ad Hk sz3 rfl))) ?_
 refine hT 3 rfl hSr27 (fun wS hSS=>by(have hB7:=hB7.modS hSS (.inr (by decide));exact(Ae un3 rfl (hB7.cell (rfl))))) ?_
 refine hT 4 rfl hSr27 (fun wS hSS=>by(exact(Ad Ta sz23 rfl))) ?_
 refine hT 5 rfl hSr27 (fun wS hSS=>by(have hB7:=hB7.modS hSS (.inr (by decide));exact(Ae un23 rfl (hB7.cell (rfl))))) ?_
 refine hT 6 rfl hSr27 (fun wS hSS=>by(exact(Af (by conv=>lhs;whnf)))) ?_
 refine hT 7 rfl hSr27 (fun wS hSS=>by(exact(Ad Abo sz3 rfl))) ?_
 refine h1L 8 (fun Q8 hQ8=>?_)
 refine Aw rfl (by conv=>lhs;whnf) rfl rfl sz3 hB4 (by simp) ?_
 intro w41 hP41
 have hX:=hX.put hP41 (by omega)
 have hB4:=hP41.blk
 skip -- hB4
 have hl3:=hl3.mod (hP41.mod 0 (Nat.zero_le _)) (Nat.zero_le _) (by decide)
 have hB2:=hP41.keep hB2 (by omega)
 have hB7:=hP41.keep hB7 (by omega)
 have hIx:=hIx.mod (hP41.mod 0 (Nat.zero_le _)) (Nat.zero_le _) (by decide)
 have hLr:=hLr.mod (hP41.mod 0 (Nat.zero_le _)) (Nat.zero_le _) (by decide)
 have hSr27:=hSr27.put hP41 ⟨.inl rfl,by decide⟩
 have hB4:Blk w41 g4 #[.int .i64 (D3.most:Int),.slice pp3 n3 c3,.int .i64 (D3.steps:Int),.bool (decide (0≤D3.left)),.int .i64 lf3,.bool D3.done,.bool D3.down,.int .i64 (M.seg:Int),.int .i64 0,.slice none 0 0,.slice none 0 0,.bool false,.slice none 0 0,.int .i64 0,.bool false] 56:=hB4
 refine An hQ8 ⟨hSr27,?_⟩
 refine hT 9 rfl hSr27 (fun wS hSS=>by(exact(Ad Abn sz3 rfl))) ?_
 refine h1L 10 (fun Q10 hQ10=>?_)
 refine Aw rfl (by conv=>lhs;whnf) rfl rfl sz3 hB4 (by simp) ?_
 intro w42 hP42
 have hX:=hX.put hP42 (by omega)
 have hB4:=hP42.blk
 skip -- hB4
 have hl3:=hl3.mod (hP42.mod 0 (Nat.zero_le _)) (Nat.zero_le _) (by decide)
 have hB2:=hP42.keep hB2 (by omega)
 have hB7:=hP42.keep hB7 (by omega)
 have hIx:=hIx.mod (hP42.mod 0 (Nat.zero_le _)) (Nat.zero_le _) (by decide)
 have hLr:=hLr.mod (hP42.mod 0 (Nat.zero_le _)) (Nat.zero_le _) (by decide)
 have hSr27:=hSr27.put hP42 ⟨.inl rfl,by decide⟩
 have hB4:Blk w42 g4 #[.int .i64 (D3.most:Int),.slice pp3 n3 c3,.int .i64 (D3.steps:Int),.bool (decide (0≤D3.left)),.int .i64 lf3,.bool D3.done,.bool D3.down,.int .i64 (M.seg:Int),.int .i64 (M.size:Int),.slice none 0 0,.slice none 0 0,.bool false,.slice none 0 0,.int .i64 0,.bool false] 56:=hB4
 refine An hQ10 ⟨hSr27,?_⟩
 refine hT 11 rfl hSr27 (fun wS hSS=>by(exact(Ad Abm sz23 rfl))) ?_
 refine h1L 12 (fun Q12 hQ12=>?_)
 refine Aw rfl (by conv=>lhs;whnf) rfl rfl sz23 hB4 (by simp) ?_
 intro w43 hP43
 have hX:=hX.put hP43 (by omega)
 have hB4:=hP43.blk
 skip -- hB4
 have hl3:=hl3.mod (hP43.mod 0 (Nat.zero_le _)) (Nat.zero_le _) (by decide)
 have hB2:=hP43.keep hB2 (by omega)
 have hB7:=hP43.keep hB7 (by omega)
 have hIx:=hIx.mod (hP43.mod 0 (Nat.zero_le _)) (Nat.zero_le _) (by decide)
 have hLr:=hLr.mod (hP43.mod 0 (Nat.zero_le _)) (Nat.zero_le _) (by decide)
 have hSr27:=hSr27.put hP43 ⟨.inl rfl,by decide⟩
 have hB4:Blk w43 g4 #[.int .i64 (D3.most:Int),.slice pp3 n3 c3,.int .i64 (D3.steps:Int),.bool (decide (0≤D3.left)),.int .i64 lf3,.bool D3.done,.bool D3.down,.int .i64 (M.seg:Int),.int .i64 (M.size:Int),.slice qi mi ci,.slice none 0 0,.bool false,.slice none 0 0,.int .i64 0,.bool false] 56:=hB4
 refine An hQ12 ⟨hSr27,?_⟩
 refine hT 13 rfl hSr27 (fun wS hSS=>by(exact(Ad Mr sz22 rfl))) ?_
 refine h1L 14 (fun Q14 hQ14=>?_)
 refine Aw rfl (by conv=>lhs;whnf) rfl rfl sz22 hB4 (by simp) ?_
 intro w44 hP44
 have hX:=hX.put hP44 (by omega)
 have hB4:=hP44.blk
 skip -- hB4
 have hl3:=hl3.mod (hP44.mod 0 (Nat.zero_le _)) (Nat.zero_le _) (by decide)
 have hB2:=hP44.keep hB2 (by omega)
 have hB7:=hP44.keep hB7 (by omega)
 have hIx:=hIx.mod (hP44.mod 0 (Nat.zero_le _)) (Nat.zero_le _) (by decide)
 have hLr:=hLr.mod (hP44.mod 0 (Nat.zero_le _)) (Nat.zero_le _) (by decide)
 have hSr27:=hSr27.put hP44 ⟨.inl rfl,by decide⟩
 have hB4:Blk w44 g4 #[.int .i64 (D3.most:Int),.slice pp3 n3 c3,.int .i64 (D3.steps:Int),.bool (decide (0≤D3.left)),.int .i64 lf3,.bool D3.done,.bool D3.down,.int .i64 (M.seg:Int),.int .i64 (M.size:Int),.slice qi mi ci,.slice qL mL cL,.bool false,.slice none 0 0,.int .i64 0,.bool false] 56:=hB4
 refine An hQ14 ⟨hSr27,?_⟩
 refine A7 (by kernel_rfl) ?_
 refine t_n (Ab (Aa ?_))
 refine p1 (Aq ua56 rfl hB4 (by exact sz56)) ?_
 refine pM ?_
 refine Al rfl (by conv=>lhs;whnf) (by simp[Value.oneCell']) (by exact sz56) hB2 (by rfl) ?_
 intro w45 hP45
 have hX:=hX.put hP45 (by omega)
 have hB4:=hP45.keep hB4 (by omega)
 have hl3:=hl3.mod (hP45.mod 0 (Nat.zero_le _)) (Nat.zero_le _) (by decide)
 have hB2:=hP45.blk
 have hB7:=hP45.keep hB7 (by omega)
 have hIx:=hIx.mod (hP45.mod 0 (Nat.zero_le _)) (Nat.zero_le _) (by decide)
 have hLr:=hLr.mod (hP45.mod 0 (Nat.zero_le _)) (Nat.zero_le _) (by decide)
 refine pA (Ac (t_n (Ao ?_)))
 refine end2c rfl ua56 rfl (by conv=>lhs;whnf) hB2 (by exact sz56) ?_
 (rw[hgood,hS3];exact⟨⟨pp3,n3,c3,lf3,(M.seg:Int),(M.size:Int),qi,mi,ci,qL,mL,cL,rfl,hl3,hlf3,fun _=>⟨rfl,rfl,hIx,by rw[hgl,hb_] at hLr;exact hLr⟩⟩,hX⟩)
end Go.Proofs.Eng
end
section
set_option maxRecDepth 100000
set_option maxHeartbeats 4000000
namespace Go.Proofs.Eng
open Go.RowKit
open Extern.Stop (cell)
theorem Sx (gd:Nat) (S:Nat→Prop) (D:DS) (i:Nat) (w:World) (hD:Dsk S w gd D) (hG:Good D i) (hi:i<4611686018427350000) (hS6:∀ j,S j→6≤j) (hg:Gt w) (p:Option Addr) (n c:Nat) (lf:Int) (hl:Sl kFl 119 0 w p n c D.l) (hlf:LfOk D lf) :
    Ret Tryz.prog 26 [.pointer (some ⟨gd,0,none⟩),.agg #[.int .i64 (D.most:Int),.slice p n c,.int .i64 (D.steps:Int),.bool (decide (0≤D.left)),.int .i64 lf,.bool D.done,.bool D.down]] w (fun v w'=>(∃ (po pp:Option Addr) (nn cc:Nat) (lf' sg sz:Int) (pi:Option Addr) (ni ci:Nat) (pL:Option Addr) (nL cL:Nat),v = .tuple #[.agg #[.pointer (some ⟨gd,0,none⟩),.pointer po,.int .i64 ((openC D).1.D.most:Int),.slice pp nn cc,.int .i64 ((openC D).1.D.steps:Int),.bool (decide (0≤(openC D).1.D.left)),.int .i64 lf',.bool (openC D).1.D.done,.bool (openC D).1.D.down,.int .i64 sg,.int .i64 sz,.slice pi ni ci,.slice pL nL cL,.bool false,.slice none 0 0,.int .i64 0,.bool false,.bool (decide ((openC D).2=0))],.bool true]∧Sl kFl 119 0 w' pp nn cc (openC D).1.D.l∧LfOk (openC D).1.D lf'∧OpS (grow S w w') w' gd (openC D).1 (openC D).2 po∧RfS w' (openC D).1 (openC D).2 sg sz pi ni ci pL nL cL)∧ModS S EC w w'):=by
 have hX:=ModS.refl S EC w
 refine eN 36 Tryz.func26 ?_
 refine Ab (Aa ?_)
 have hXs3:=hX.size
 have hz3:=hX.size
 refine Bu (by conv=>lhs;whnf) ?_
 intro w1 g3 hN3
 have hE1:=hN3.ext
 have hX:=hX.ext hE1
 have hD:=hD.ext hE1
 have hg:=hg.ext hE1
 have hB3:=hN3.blk
 have hq3:=hN3.g_eq
 have hXs4:=hX.size
 have hlt3:=hB3.lt
 have hz4:=hX.size
 have hl4_3:=hB3.lt
 refine Ay zr58 ?_
 intro w2 g4 hN4
 have hE2:=hN4.ext
 have hX:=hX.ext hE2
 have hD:=hD.ext hE2
 have hg:=hg.ext hE2
 have hB3:=hB3.ext hE2
 have hB4:=hN4.blk
 have hq4:=hN4.g_eq
 refine pA (Ac (t_n (Ab ?_)))
 have hg3:=hN3.g_eq
 have hg4:=hN4.g_eq
 refine Aa ?_
 refine pM ?_
 have hXs:=hX.size
 refine oC Tryz.func12 (Jn gd S D _ hD hG.ok (Nat.lt_of_le_of_lt hG.steps (by omega)) hG.left hG.names hS6 hg) ?_
 rintro v3 w3 ⟨⟨pv3,rfl,hor3⟩,hM3⟩
 have hB3:=hB3.modS hM3 (.inr (by decide))
 have hB4:=hB4.modS hM3 (.inr (by decide))
 have hX:=hX.trans hM3 (fun _ _ h=>h)
 have hpo:∃ po,pv3 = .pointer po∧OpS (grow S w w3) w3 gd (openC D).1 (openC D).2 po:=by
   rcases hor3 with ⟨h0,g,e,h3⟩ | ⟨h0,e,h3⟩
   · exact⟨_,e,.inl ⟨h0,g,rfl,h3.mono (fun j _ h=>h.imp id fun ⟨a,b⟩=>⟨by omega,b⟩)⟩⟩
   · exact⟨_,e,.inr ⟨h0,rfl,h3.mono (fun j _ h=>h.imp id fun ⟨a,b⟩=>⟨by omega,b⟩)⟩⟩
 obtain⟨po,rfl,hSt⟩:=hpo
 refine pM ?_
 refine p1 (Aj rfl rfl) ?_
 refine p1 (Aj rfl rfl) ?_
 refine pA (pA (Ac (t_n (Ab (Aa ?_)))))
 refine p1 (Aq ua45 rfl hB3 (by exact sz45)) ?_
 refine oC Tryz.func72 (V4 D i p n c lf _ (hl.modS hX (fun _ _=>Nat.zero_le _) (by decide)) hlf hG (by omega)) ?_
 rintro v4 w4 ⟨⟨pp,nn,cc,lf1,sg,sz,pi,ni,ci,pL,nL,cL,rfl,hl1,hlf1,hR⟩,hE4⟩
 have hX:=hX.ext hE4
 have hB3:=hB3.ext hE4
 have hB4:=hB4.ext hE4
 have hSt:=hSt.ext hE4
 have hR:RfS w4 (openC D).1 (openC D).2 sg sz pi ni ci pL nL cL:=hR
 refine pM ?_
 refine p1 (Aj rfl rfl) ?_
 refine p1 (Aj rfl rfl) ?_
 have hXs8:=hX.size
 have hlt4:=hB4.lt
 have hz8:=hX.size
 have hl8_3:=hB3.lt
 have hl8_4:=hB4.lt
 refine Ay zr56 ?_
 intro w5 g8 hN8
 have hE5:=hN8.ext
 have hX:=hX.ext hE5
 have hB3:=hB3.ext hE5
 have hB4:=hB4.ext hE5
 have hSt:=hSt.ext hE5
 have hl1:=hl1.ext hE5
 have hR:=hR.ext hE5
 have hB8:=hN8.blk
 have hq8:=hN8.g_eq
 have hg8:=hN8.g_eq
 refine Al rfl (by conv=>lhs;whnf) (by simp[Value.oneCell']) (by exact sz56) hB8 (by rfl) ?_
 intro w6 hP6
 have hX:=hX.new hP6 (by omega)
 have hB3:=hP6.keep hB3 (by omega)
 have hB4:=hP6.keep hB4 (by omega)
 have hSt:=hSt.modT (hP6.mod 0 (Nat.zero_le _)) (by decide)
 have hl1:=hl1.mod (hP6.mod 0 (Nat.zero_le _)) (Nat.zero_le _) (by decide)
 have hR:=hR.mod (hP6.mod 0 (Nat.zero_le _)) (Nat.zero_le _) (by decide)
 have hB8:=hP6.blk
 refine pA (Ac (t_n (Ab (Aa ?_))))
 refine pM (pM ?_)
 refine p1 (Aq ua56 rfl hB8 (by exact sz56)) ?_
 refine pM ?_
 refine p1 (Bw rfl rfl) ?_
 refine p1 (Zu pl58 rfl rfl rfl rfl) ?_
 refine pM (pM ?_)
 refine p1 ((Bw rfl rfl).cast (congrArg Value.bool (decide_eq_true (rfl)))) ?_
 refine pM (gM 29 ?_)
 refine g1 29 rfl rfl (Fc u30 rfl rfl) ?_
 refine gM 29 ?_
 refine g1 29 rfl rfl (Bw rfl rfl) ?_
 refine g1 29 rfl rfl ((Vl u4 rfl rfl).cast (congrArg Value.bool (decide_eq_true (hSt.same)))) ?_
 refine p1 (Ax rfl (by conv=>lhs;whnf)) ?_
 refine Al rfl (by conv=>lhs;whnf) (by simp[Value.oneCell']) (by exact sz58) hB4 (by rfl) ?_
 intro w7 hP7
 have hX:=hX.new hP7 (by omega)
 have hB3:=hP7.keep hB3 (by omega)
 have hB4:=hP7.blk
 have hSt:=hSt.modT (hP7.mod 0 (Nat.zero_le _)) (by decide)
 have hl1:=hl1.mod (hP7.mod 0 (Nat.zero_le _)) (Nat.zero_le _) (by decide)
 have hR:=hR.mod (hP7.mod 0 (Nat.zero_le _)) (Nat.zero_le _) (by decide)
 have hB8:=hP7.keep hB8 (by omega)
 refine pA (Ac (t_n (Ao ?_)))
 refine end2c rfl ua58 rfl (by conv=>lhs;whnf) hB4 (by exact sz58) ?_
 exact⟨⟨po,pp,nn,cc,lf1,sg,sz,pi,ni,ci,pL,nL,cL,rfl,hl1,hlf1,hSt.mono (fun j hj h=>h.imp id fun ⟨a,_⟩=>⟨a,hj⟩),hR⟩,hX⟩
end Go.Proofs.Eng
end
section
set_option maxRecDepth 100000
set_option maxHeartbeats 4000000
namespace Go.Proofs.Eng
open Go.RowKit
open Extern.Stop (cell)
theorem V5 (xs:List Hash) (x:Hash) (B:Nat) (p:Option Addr) (n c:Nat) (w:World) (hl:Sl kHash 64 B w p n c xs) (hs:n≤4194304000) :
    Ret Tryz.prog 114 [.slice p n c,.agg (hv x)] w (fun v w'=>(∃ q m c',v = .slice q m c'∧Sl kHash 64 B w' q m c' (wth xs x)∧m≤n+1)∧Ext w w'):=by
 have hX:=Ext.refl w
 refine eN 47 Tryz.func114 ?_
 refine Ab (Aa ?_)
 refine Bu (by conv=>lhs;whnf) ?_
 intro w1 g3 hN3
 have hE1:=hN3.ext
 have hX:=hX.ext hE1
 have hB3:=hN3.blk
 refine pA (Ac (t_n (Ab (Aa ?_))))
 refine pA (Ac (t_n (Ab (Ap ?_))))
 have hWL0:=Ext.refl w1
 have hlen:=hl.len
 have hfit:=hl.fit
 have hcap:=hl.cap
 refine Bc (ι:=Nat) ([5]++rg 7 14) (fun k=>[(5,.int .i64 (k:Int))]) (fun k w'=>Ext w1 w'∧(k≤n∧∀ j,j<k→hlt (xs.getD j default) x=true)) (fun k=>n - k) (0) ⟨rfl,trivial⟩ ⟨Ext.refl _,⟨by omega,fun i hi=>by omega⟩⟩ ?_
 rintro k GL0 w2 ⟨hE2,hk,hL⟩
 have hX:=hX.ext hE2
 have hB3:=hB3.ext hE2
 have hWL0:=hE2
 refine Ab (Ab ?_)
 refine Cx 10 mixed (by kernel_rfl) ?_
 intro w3 hE3
 have hX:=hX.ext hE3
 have hB3:=hB3.ext hE3
 have hWL0:=hWL0.ext hE3
 refine s1 (Af (by conv=>lhs;whnf)) ?_
 refine s1 (Af (by conv=>lhs;whnf)) ?_
 refine s1 (Ar u54 rfl) ?_
 refine s1 (Bi rfl rfl) ?_
 refine s1b (Af (by conv=>lhs;whnf)) (fun hb2_4=>?_) (fun hb2_4=>?_)
 ·try simp only[dA,dB,dC,dD,dE,dF,dG,Int.not_lt,Int.not_le] at hb2_4
  refine sg1 11 rfl rfl (Af (by conv=>lhs;whnf)) ?_
  refine sg1 11 rfl rfl (Af (by conv=>lhs;whnf)) ?_
  refine sg1 11 rfl rfl (Cs u54 sz64 rfl rfl ((hl.ext hX).adr A5 (by omega)) (by omega) (by omega)) ?_
  refine sg1 11 rfl rfl (Cb ua64 rfl (Gc sz64 _) ((hl.ext hX).hashAt _ (by omega) (by omega))) ?_
  refine sg1 11 rfl rfl (Aq ua64 rfl hB3 (C4 sz64 x)) ?_
  refine Bx ?_
  refine Cd 11 rfl rfl ?_
  refine oC Tryz.func157 (V9 _ x _) ?_
  rintro v4 w4 ⟨rfl,hE4⟩
  have hX:=hX.ext hE4
  have hB3:=hB3.ext hE4
  have hWL0:=hWL0.ext hE4
  refine p1 (Ax rfl (by conv=>lhs;whnf)) ?_
  refine Ac (t_n ?_)
  refine Dm rfl (fun hc18=>?_) (fun hc18=>?_)
  ·try simp only[dA,dB,dC,dD,dE,dF,dG,Int.not_lt,Int.not_le] at hc18
   have h1:hlt (xs.getD k default) x=true:=hc18
   refine Ak (t_n (Ap (Aa ?_)))
   refine pM ?_
   refine p1 (A0 rfl rfl (Am (by omega) (by omega))) ?_
   refine pA (Ac (b_n ?_))
   refine t_n (aK (k+1) ⟨rfl,trivial⟩ ?_)
   exact⟨⟨hWL0,⟨by omega,fun i hi=>if h:i<k then hL i h else by rw[show i=k from by omega];exact h1⟩⟩,by((show _<_);omega)⟩
  try simp only[dA,dB,dC,dD,dE,dF,dG,Int.not_lt,Int.not_le] at hc18
  have hex:k<n→hlt (xs.getD k default) x=false:=by(intro h;exact Bool.eq_false_iff.2 (fun e=>by simp_all))
  have hwa:=Vm xs x k (by omega) hL (fun h=>hex (by omega))
  refine A8 (t_e (t_e (Bq (t_n (Ab (Ab ?_))))))
  refine Cy mixed (by kernel_rfl) ?_
  intro w5 hE5
  have hX:=hX.ext hE5
  have hB3:=hB3.ext hE5
  refine s1 (Af (by conv=>lhs;whnf)) ?_
  refine s1 (Af (by conv=>lhs;whnf)) ?_
  refine s1 (Ar u54 rfl) ?_
  refine s1 (Bi rfl rfl) ?_
  refine s1b (Af (by conv=>lhs;whnf)) (fun hb4_4=>?_) (fun hb4_4=>?_)
  ·try simp only[dA,dB,dC,dD,dE,dF,dG,Int.not_lt,Int.not_le] at hb4_4
   refine sg1 25 rfl rfl (Af (by conv=>lhs;whnf)) ?_
   refine sg1 25 rfl rfl (Af (by conv=>lhs;whnf)) ?_
   refine sg1 25 rfl rfl (Cs u54 sz64 rfl rfl ((hl.ext hX).adr A5 (by omega)) (by omega) (by omega)) ?_
   refine sg1 25 rfl rfl (Cb ua64 rfl (Gc sz64 _) ((hl.ext hX).hashAt _ (by omega) (by omega))) ?_
   refine sg1 25 rfl rfl (Aq ua64 rfl hB3 (C4 sz64 x)) ?_
   refine sg1 25 rfl rfl (En u64 u5 sz5 eg64 rfl rfl (xs.getD _ default).2 x.2) ?_
   refine s1 (Ax rfl (by conv=>lhs;whnf)) ?_
   refine Bx (t_n ?_)
   refine As rfl (fun hc32=>?_) (fun hc32=>?_)
   ·try simp only[dA,dB,dC,dD,dE,dF,dG,Int.not_lt,Int.not_le] at hc32
    have hp:wth xs x=xs:=by rw[hwa,if_pos ⟨by omega,Subtype.ext hc32⟩]
    refine Ab (Aa ?_)
    refine pM (pA (Ac (t_n (Ao (t_r ?_)))))
    refine eR1 ?_
    exact⟨⟨_,_,_,rfl,(by rw[hp];exact hl.ext hX),by omega⟩,hX⟩
   try simp only[dA,dB,dC,dD,dE,dF,dG,Int.not_lt,Int.not_le] at hc32
   have hp:wth xs x=xs.take k++x :: xs.drop k:=by rw[hwa,if_neg (fun e=>by exact hc32 (congrArg Subtype.val e.2))]
   refine Ak (t_n (Ab (Aa ?_)))
   refine pA (Ac (t_n (Ab ?_)))
   refine Bj (fun w1 w2=>Ext w1 w2) mixed ?_
   intro w6 hE6
   have hX:=hX.ext hE6
   have hB3:=hB3.ext hE6
   have hSr7:(fun w1 w2=>Ext w1 w2) w6 w6:=Ext.refl w6
   refine hT 0 rfl hSr7 (fun wS hSS=>by(exact(Af (by conv=>lhs;whnf)))) ?_
   refine hT 1 rfl hSr7 (fun wS hSS=>by(exact(Af (by conv=>lhs;whnf)))) ?_
   refine hT 2 rfl hSr7 (fun wS hSS=>by(exact(Af (by conv=>lhs;whnf)))) ?_
   refine hT 3 rfl hSr7 (fun wS hSS=>by(exact(Cv u54 sz64 rfl rfl (by omega)))) ?_
   refine hT 5 rfl hSr7 (fun wS hSS=>by(have hB3:=hB3.ext hSS;exact(Aq ua64 rfl hB3 (C4 sz64 x)))) ?_
   refine Lq 4 6 _ _ rfl rfl (by kernel_rfl) (A1 (fun Q4 hQ4=>?_)) (A1 (fun Q6 hQ6=>?_))
   ·skip
    have hO:Own kHash 64 0 w6.heap.size w6 none 0 0 []:=Own.nil _ _ _ _ _
    have hBz:w.heap.size≤w6.heap.size:=hX.size
    have hBs:=hSr7.size
    have hWt:=Ext.refl w6
    refine Az (d:=kHash) (xs.take k) u54 inf64 rfl A5 rfl rfl hO (Ba u54 ((hl.ext hX).take k (by omega)) (by decide)) (by rw[List.length_take];omega) (Ca _ _ _) (rfl) (by omega) (by omega) (by omega) (by omega) (by decide) ?_
    intro p38 c38 w7 hO hM7
    have hX:=hX.mod hM7 (hBz)
    have hSr7:=hSr7.mod hM7 (by exact Nat.le_refl _)
    have hWt:=hWt.mod hM7 (by exact Nat.le_refl _)
    refine An hQ4 ⟨hSr7,?_⟩
    refine h1L 6 (fun Q6 hQ6=>?_)
    refine Av u54 inf64 rfl (by decide) (fun base hb=>Ed [.agg (hv x)] (by intro v hv';simp only[List.mem_singleton] at hv';subst hv';simp[Value.cells,hv,Ec]) base hb) ?_
    intro w8 g40 hN40
    have hE8:=hN40.ext
    have hX:=hX.ext hE8
    have hSr7:=hSr7.ext hE8
    have hWt:=hWt.ext hE8
    have hO:=hO.ext hE8
    have hJ:Own kHash 64 0 0 w8 (some ⟨g40,0,none⟩) 1 1 [x]:=B4 [x] hN40 (Nat.zero_le _) (by simp)
    refine An hQ6 ⟨hSr7,?_⟩
    refine h1L 7 (fun Q7 hQ7=>?_)
    have hq1:=hWt.size
    refine Az (d:=kHash) ([x]) u54 inf64 rfl A5 rfl rfl hO (Ba u54 hJ.sl (by decide)) rfl (Ca _ _ _) (rfl) (by omega) (by omega) (by omega) (by omega) (by decide) ?_
    intro p41 c41 w9 hO hM9
    have hX:=hX.mod hM9 (hBz)
    have hSr7:=hSr7.mod hM9 (by exact Nat.le_refl _)
    have hWt:=hWt.mod hM9 (by exact Nat.le_refl _)
    refine An hQ7 ⟨hSr7,?_⟩
    refine hT 8 rfl hSr7 (fun wS hSS=>by(exact(Ah (by conv=>lhs;whnf)))) ?_
    refine A7 (by kernel_rfl) ?_
    refine t_n (Ab (Aa ?_))
    refine pM (pM (pM ?_))
    refine p1 (Bs u54 sz64 rfl rfl (by omega)) ?_
    have hq1:=hWt.size
    refine Az (d:=kHash) (xs.drop k) u54 inf64 rfl A5 rfl rfl hO (Ba u54 ((hl.ext hX).dropI k (by omega)) (by decide)) (by rw[List.length_drop];omega) (Ca _ _ _) (rfl) (by omega) (by omega) (by omega) (by omega) (by decide) ?_
    intro p46 c46 w10 hO hM10
    have hX:=hX.mod hM10 (hBz)
    refine pA (Ac (t_n (Ao ?_)))
    refine eR1 ?_
    exact⟨⟨_,_,_,rfl,(by rw[hp];have h9:=hO.sl.mono (Nat.zero_le B);rw[show []++xs.take k++[x]++xs.drop k=xs.take k++x :: xs.drop k from by simp] at h9;exact h9),by omega⟩,hX⟩
   skip
   refine Av u54 inf64 rfl (by decide) (fun base hb=>Ed [.agg (hv x)] (by intro v hv';simp only[List.mem_singleton] at hv';subst hv';simp[Value.cells,hv,Ec]) base hb) ?_
   intro w11 g40 hN40
   have hE11:=hN40.ext
   have hX:=hX.ext hE11
   have hSr7:=hSr7.ext hE11
   have hJ:Own kHash 64 0 0 w11 (some ⟨g40,0,none⟩) 1 1 [x]:=B4 [x] hN40 (Nat.zero_le _) (by simp)
   refine An hQ6 ⟨hSr7,?_⟩
   refine h1L 4 (fun Q4 hQ4=>?_)
   have hO:Own kHash 64 0 w11.heap.size w11 none 0 0 []:=Own.nil _ _ _ _ _
   have hBz:w.heap.size≤w11.heap.size:=hX.size
   have hBs:=hSr7.size
   have hWt:=Ext.refl w11
   refine Az (d:=kHash) (xs.take k) u54 inf64 rfl A5 rfl rfl hO (Ba u54 ((hl.ext hX).take k (by omega)) (by decide)) (by rw[List.length_take];omega) (Ca _ _ _) (rfl) (by omega) (by omega) (by omega) (by omega) (by decide) ?_
   intro p38 c38 w12 hO hM12
   have hX:=hX.mod hM12 (hBz)
   have hSr7:=hSr7.mod hM12 (by omega)
   have hJ:=hJ.ext ((Ext.refl _).mod hM12 (Nat.le_refl _))
   have hWt:=hWt.mod hM12 (by exact Nat.le_refl _)
   refine An hQ4 ⟨hSr7,?_⟩
   refine h1L 7 (fun Q7 hQ7=>?_)
   have hq1:=hWt.size
   refine Az (d:=kHash) ([x]) u54 inf64 rfl A5 rfl rfl hO (Ba u54 hJ.sl (by decide)) rfl (Ca _ _ _) (rfl) (by omega) (by omega) (by omega) (by omega) (by decide) ?_
   intro p41 c41 w13 hO hM13
   have hX:=hX.mod hM13 (hBz)
   have hSr7:=hSr7.mod hM13 (by omega)
   have hWt:=hWt.mod hM13 (by exact Nat.le_refl _)
   refine An hQ7 ⟨hSr7,?_⟩
   refine hT 8 rfl hSr7 (fun wS hSS=>by(exact(Ah (by conv=>lhs;whnf)))) ?_
   refine A7 (by kernel_rfl) ?_
   refine t_n (Ab (Aa ?_))
   refine pM (pM (pM ?_))
   refine p1 (Bs u54 sz64 rfl rfl (by omega)) ?_
   have hq1:=hWt.size
   refine Az (d:=kHash) (xs.drop k) u54 inf64 rfl A5 rfl rfl hO (Ba u54 ((hl.ext hX).dropI k (by omega)) (by decide)) (by rw[List.length_drop];omega) (Ca _ _ _) (rfl) (by omega) (by omega) (by omega) (by omega) (by decide) ?_
   intro p46 c46 w14 hO hM14
   have hX:=hX.mod hM14 (hBz)
   refine pA (Ac (t_n (Ao ?_)))
   refine eR1 ?_
   exact⟨⟨_,_,_,rfl,(by rw[hp];have h9:=hO.sl.mono (Nat.zero_le B);rw[show []++xs.take k++[x]++xs.drop k=xs.take k++x :: xs.drop k from by simp] at h9;exact h9),by omega⟩,hX⟩
  try simp only[dA,dB,dC,dD,dE,dF,dG,Int.not_lt,Int.not_le] at hb4_4
  refine sg0 25 rfl (by exact .inl rfl) ?_
  refine sg0 25 rfl (by exact .inl rfl) ?_
  refine sg0 25 rfl (by exact .inl rfl) ?_
  refine sg0 25 rfl (by exact .inl rfl) ?_
  refine sg0 25 rfl (by exact .inl rfl) ?_
  refine sg0 25 rfl (by exact .inl rfl) ?_
  refine s1 (Au rfl (by conv=>lhs;whnf)) ?_
  refine Bx (t_n ?_)
  refine c_f rfl ?_
  have hp:wth xs x=xs.take k++x :: xs.drop k:=by rw[hwa,if_neg (fun e=>by omega)]
  refine Ak (t_n (Ab (Aa ?_)))
  refine pA (Ac (t_n (Ab ?_)))
  refine Bj (fun w1 w2=>Ext w1 w2) mixed ?_
  intro w15 hE15
  have hX:=hX.ext hE15
  have hB3:=hB3.ext hE15
  have hSr7:(fun w1 w2=>Ext w1 w2) w15 w15:=Ext.refl w15
  refine hT 0 rfl hSr7 (fun wS hSS=>by(exact(Af (by conv=>lhs;whnf)))) ?_
  refine hT 1 rfl hSr7 (fun wS hSS=>by(exact(Af (by conv=>lhs;whnf)))) ?_
  refine hT 2 rfl hSr7 (fun wS hSS=>by(exact(Af (by conv=>lhs;whnf)))) ?_
  refine hT 3 rfl hSr7 (fun wS hSS=>by(exact(Cv u54 sz64 rfl rfl (by omega)))) ?_
  refine hT 5 rfl hSr7 (fun wS hSS=>by(have hB3:=hB3.ext hSS;exact(Aq ua64 rfl hB3 (C4 sz64 x)))) ?_
  refine Lq 4 6 _ _ rfl rfl (by kernel_rfl) (A1 (fun Q4 hQ4=>?_)) (A1 (fun Q6 hQ6=>?_))
  ·skip
   have hO:Own kHash 64 0 w15.heap.size w15 none 0 0 []:=Own.nil _ _ _ _ _
   have hBz:w.heap.size≤w15.heap.size:=hX.size
   have hBs:=hSr7.size
   have hWt:=Ext.refl w15
   refine Az (d:=kHash) (xs.take k) u54 inf64 rfl A5 rfl rfl hO (Ba u54 ((hl.ext hX).take k (by omega)) (by decide)) (by rw[List.length_take];omega) (Ca _ _ _) (rfl) (by omega) (by omega) (by omega) (by omega) (by decide) ?_
   intro p38 c38 w16 hO hM16
   have hX:=hX.mod hM16 (hBz)
   have hSr7:=hSr7.mod hM16 (by exact Nat.le_refl _)
   have hWt:=hWt.mod hM16 (by exact Nat.le_refl _)
   refine An hQ4 ⟨hSr7,?_⟩
   refine h1L 6 (fun Q6 hQ6=>?_)
   refine Av u54 inf64 rfl (by decide) (fun base hb=>Ed [.agg (hv x)] (by intro v hv';simp only[List.mem_singleton] at hv';subst hv';simp[Value.cells,hv,Ec]) base hb) ?_
   intro w17 g40 hN40
   have hE17:=hN40.ext
   have hX:=hX.ext hE17
   have hSr7:=hSr7.ext hE17
   have hWt:=hWt.ext hE17
   have hO:=hO.ext hE17
   have hJ:Own kHash 64 0 0 w17 (some ⟨g40,0,none⟩) 1 1 [x]:=B4 [x] hN40 (Nat.zero_le _) (by simp)
   refine An hQ6 ⟨hSr7,?_⟩
   refine h1L 7 (fun Q7 hQ7=>?_)
   have hq1:=hWt.size
   refine Az (d:=kHash) ([x]) u54 inf64 rfl A5 rfl rfl hO (Ba u54 hJ.sl (by decide)) rfl (Ca _ _ _) (rfl) (by omega) (by omega) (by omega) (by omega) (by decide) ?_
   intro p41 c41 w18 hO hM18
   have hX:=hX.mod hM18 (hBz)
   have hSr7:=hSr7.mod hM18 (by exact Nat.le_refl _)
   have hWt:=hWt.mod hM18 (by exact Nat.le_refl _)
   refine An hQ7 ⟨hSr7,?_⟩
   refine hT 8 rfl hSr7 (fun wS hSS=>by(exact(Ah (by conv=>lhs;whnf)))) ?_
   refine A7 (by kernel_rfl) ?_
   refine t_n (Ab (Aa ?_))
   refine pM (pM (pM ?_))
   refine p1 (Bs u54 sz64 rfl rfl (by omega)) ?_
   have hq1:=hWt.size
   refine Az (d:=kHash) (xs.drop k) u54 inf64 rfl A5 rfl rfl hO (Ba u54 ((hl.ext hX).dropI k (by omega)) (by decide)) (by rw[List.length_drop];omega) (Ca _ _ _) (rfl) (by omega) (by omega) (by omega) (by omega) (by decide) ?_
   intro p46 c46 w19 hO hM19
   have hX:=hX.mod hM19 (hBz)
   refine pA (Ac (t_n (Ao ?_)))
   refine eR1 ?_
   exact⟨⟨_,_,_,rfl,(by rw[hp];have h9:=hO.sl.mono (Nat.zero_le B);rw[show []++xs.take k++[x]++xs.drop k=xs.take k++x :: xs.drop k from by simp] at h9;exact h9),by omega⟩,hX⟩
  skip
  refine Av u54 inf64 rfl (by decide) (fun base hb=>Ed [.agg (hv x)] (by intro v hv';simp only[List.mem_singleton] at hv';subst hv';simp[Value.cells,hv,Ec]) base hb) ?_
  intro w20 g40 hN40
  have hE20:=hN40.ext
  have hX:=hX.ext hE20
  have hSr7:=hSr7.ext hE20
  have hJ:Own kHash 64 0 0 w20 (some ⟨g40,0,none⟩) 1 1 [x]:=B4 [x] hN40 (Nat.zero_le _) (by simp)
  refine An hQ6 ⟨hSr7,?_⟩
  refine h1L 4 (fun Q4 hQ4=>?_)
  have hO:Own kHash 64 0 w20.heap.size w20 none 0 0 []:=Own.nil _ _ _ _ _
  have hBz:w.heap.size≤w20.heap.size:=hX.size
  have hBs:=hSr7.size
  have hWt:=Ext.refl w20
  refine Az (d:=kHash) (xs.take k) u54 inf64 rfl A5 rfl rfl hO (Ba u54 ((hl.ext hX).take k (by omega)) (by decide)) (by rw[List.length_take];omega) (Ca _ _ _) (rfl) (by omega) (by omega) (by omega) (by omega) (by decide) ?_
  intro p38 c38 w21 hO hM21
  have hX:=hX.mod hM21 (hBz)
  have hSr7:=hSr7.mod hM21 (by omega)
  have hJ:=hJ.ext ((Ext.refl _).mod hM21 (Nat.le_refl _))
  have hWt:=hWt.mod hM21 (by exact Nat.le_refl _)
  refine An hQ4 ⟨hSr7,?_⟩
  refine h1L 7 (fun Q7 hQ7=>?_)
  have hq1:=hWt.size
  refine Az (d:=kHash) ([x]) u54 inf64 rfl A5 rfl rfl hO (Ba u54 hJ.sl (by decide)) rfl (Ca _ _ _) (rfl) (by omega) (by omega) (by omega) (by omega) (by decide) ?_
  intro p41 c41 w22 hO hM22
  have hX:=hX.mod hM22 (hBz)
  have hSr7:=hSr7.mod hM22 (by omega)
  have hWt:=hWt.mod hM22 (by exact Nat.le_refl _)
  refine An hQ7 ⟨hSr7,?_⟩
  refine hT 8 rfl hSr7 (fun wS hSS=>by(exact(Ah (by conv=>lhs;whnf)))) ?_
  refine A7 (by kernel_rfl) ?_
  refine t_n (Ab (Aa ?_))
  refine pM (pM (pM ?_))
  refine p1 (Bs u54 sz64 rfl rfl (by omega)) ?_
  have hq1:=hWt.size
  refine Az (d:=kHash) (xs.drop k) u54 inf64 rfl A5 rfl rfl hO (Ba u54 ((hl.ext hX).dropI k (by omega)) (by decide)) (by rw[List.length_drop];omega) (Ca _ _ _) (rfl) (by omega) (by omega) (by omega) (by omega) (by decide) ?_
  intro p46 c46 w23 hO hM23
  have hX:=hX.mod hM23 (hBz)
  refine pA (Ac (t_n (Ao ?_)))
  refine eR1 ?_
  exact⟨⟨_,_,_,rfl,(by rw[hp];have h9:=hO.sl.mono (Nat.zero_le B);rw[show []++xs.take k++[x]++xs.drop k=xs.take k++x :: xs.drop k from by simp] at h9;exact h9),by omega⟩,hX⟩
 try simp only[dA,dB,dC,dD,dE,dF,dG,Int.not_lt,Int.not_le] at hb2_4
 refine sg0 11 rfl (by exact .inl rfl) ?_
 refine sg0 11 rfl (by exact .inl rfl) ?_
 refine sg0 11 rfl (by exact .inl rfl) ?_
 refine sg0 11 rfl (by exact .inl rfl) ?_
 refine sg0 11 rfl (by exact .inl rfl) ?_
 refine Bx ?_
 refine gF 11 ?_
 refine p1 (Au rfl (by conv=>lhs;whnf)) ?_
 refine Ac (t_n ?_)
 refine c_f rfl ?_
 have hex:k<n→hlt (xs.getD k default) x=false:=by(intro h;exfalso;omega)
 have hwa:=Vm xs x k (by omega) hL (fun h=>hex (by omega))
 refine A8 (t_e (t_e (Bq (t_n (Ab (Ab ?_))))))
 refine Cy mixed (by kernel_rfl) ?_
 intro w24 hE24
 have hX:=hX.ext hE24
 have hB3:=hB3.ext hE24
 refine s1 (Af (by conv=>lhs;whnf)) ?_
 refine s1 (Af (by conv=>lhs;whnf)) ?_
 refine s1 (Ar u54 rfl) ?_
 refine s1 (Bi rfl rfl) ?_
 refine s1b (Af (by conv=>lhs;whnf)) (fun hb4_4=>?_) (fun hb4_4=>?_)
 ·try simp only[dA,dB,dC,dD,dE,dF,dG,Int.not_lt,Int.not_le] at hb4_4
  refine sg1 25 rfl rfl (Af (by conv=>lhs;whnf)) ?_
  refine sg1 25 rfl rfl (Af (by conv=>lhs;whnf)) ?_
  refine sg1 25 rfl rfl (Cs u54 sz64 rfl rfl ((hl.ext hX).adr A5 (by omega)) (by omega) (by omega)) ?_
  refine sg1 25 rfl rfl (Cb ua64 rfl (Gc sz64 _) ((hl.ext hX).hashAt _ (by omega) (by omega))) ?_
  refine sg1 25 rfl rfl (Aq ua64 rfl hB3 (C4 sz64 x)) ?_
  refine sg1 25 rfl rfl (En u64 u5 sz5 eg64 rfl rfl (xs.getD _ default).2 x.2) ?_
  refine s1 (Ax rfl (by conv=>lhs;whnf)) ?_
  refine Bx (t_n ?_)
  refine As rfl (fun hc32=>?_) (fun hc32=>?_)
  ·try simp only[dA,dB,dC,dD,dE,dF,dG,Int.not_lt,Int.not_le] at hc32
   have hp:wth xs x=xs:=by rw[hwa,if_pos ⟨by omega,Subtype.ext hc32⟩]
   refine Ab (Aa ?_)
   refine pM (pA (Ac (t_n (Ao (t_r ?_)))))
   refine eR1 ?_
   exact⟨⟨_,_,_,rfl,(by rw[hp];exact hl.ext hX),by omega⟩,hX⟩
  try simp only[dA,dB,dC,dD,dE,dF,dG,Int.not_lt,Int.not_le] at hc32
  have hp:wth xs x=xs.take k++x :: xs.drop k:=by rw[hwa,if_neg (fun e=>by exact hc32 (congrArg Subtype.val e.2))]
  refine Ak (t_n (Ab (Aa ?_)))
  refine pA (Ac (t_n (Ab ?_)))
  refine Bj (fun w1 w2=>Ext w1 w2) mixed ?_
  intro w25 hE25
  have hX:=hX.ext hE25
  have hB3:=hB3.ext hE25
  have hSr7:(fun w1 w2=>Ext w1 w2) w25 w25:=Ext.refl w25
  refine hT 0 rfl hSr7 (fun wS hSS=>by(exact(Af (by conv=>lhs;whnf)))) ?_
  refine hT 1 rfl hSr7 (fun wS hSS=>by(exact(Af (by conv=>lhs;whnf)))) ?_
  refine hT 2 rfl hSr7 (fun wS hSS=>by(exact(Af (by conv=>lhs;whnf)))) ?_
  refine hT 3 rfl hSr7 (fun wS hSS=>by(exact(Cv u54 sz64 rfl rfl (by omega)))) ?_
  refine hT 5 rfl hSr7 (fun wS hSS=>by(have hB3:=hB3.ext hSS;exact(Aq ua64 rfl hB3 (C4 sz64 x)))) ?_
  refine Lq 4 6 _ _ rfl rfl (by kernel_rfl) (A1 (fun Q4 hQ4=>?_)) (A1 (fun Q6 hQ6=>?_))
  ·skip
   have hO:Own kHash 64 0 w25.heap.size w25 none 0 0 []:=Own.nil _ _ _ _ _
   have hBz:w.heap.size≤w25.heap.size:=hX.size
   have hBs:=hSr7.size
   have hWt:=Ext.refl w25
   refine Az (d:=kHash) (xs.take k) u54 inf64 rfl A5 rfl rfl hO (Ba u54 ((hl.ext hX).take k (by omega)) (by decide)) (by rw[List.length_take];omega) (Ca _ _ _) (rfl) (by omega) (by omega) (by omega) (by omega) (by decide) ?_
   intro p38 c38 w26 hO hM26
   have hX:=hX.mod hM26 (hBz)
   have hSr7:=hSr7.mod hM26 (by exact Nat.le_refl _)
   have hWt:=hWt.mod hM26 (by exact Nat.le_refl _)
   refine An hQ4 ⟨hSr7,?_⟩
   refine h1L 6 (fun Q6 hQ6=>?_)
   refine Av u54 inf64 rfl (by decide) (fun base hb=>Ed [.agg (hv x)] (by intro v hv';simp only[List.mem_singleton] at hv';subst hv';simp[Value.cells,hv,Ec]) base hb) ?_
   intro w27 g40 hN40
   have hE27:=hN40.ext
   have hX:=hX.ext hE27
   have hSr7:=hSr7.ext hE27
   have hWt:=hWt.ext hE27
   have hO:=hO.ext hE27
   have hJ:Own kHash 64 0 0 w27 (some ⟨g40,0,none⟩) 1 1 [x]:=B4 [x] hN40 (Nat.zero_le _) (by simp)
   refine An hQ6 ⟨hSr7,?_⟩
   refine h1L 7 (fun Q7 hQ7=>?_)
   have hq1:=hWt.size
   refine Az (d:=kHash) ([x]) u54 inf64 rfl A5 rfl rfl hO (Ba u54 hJ.sl (by decide)) rfl (Ca _ _ _) (rfl) (by omega) (by omega) (by omega) (by omega) (by decide) ?_
   intro p41 c41 w28 hO hM28
   have hX:=hX.mod hM28 (hBz)
   have hSr7:=hSr7.mod hM28 (by exact Nat.le_refl _)
   have hWt:=hWt.mod hM28 (by exact Nat.le_refl _)
   refine An hQ7 ⟨hSr7,?_⟩
   refine hT 8 rfl hSr7 (fun wS hSS=>by(exact(Ah (by conv=>lhs;whnf)))) ?_
   refine A7 (by kernel_rfl) ?_
   refine t_n (Ab (Aa ?_))
   refine pM (pM (pM ?_))
   refine p1 (Bs u54 sz64 rfl rfl (by omega)) ?_
   have hq1:=hWt.size
   refine Az (d:=kHash) (xs.drop k) u54 inf64 rfl A5 rfl rfl hO (Ba u54 ((hl.ext hX).dropI k (by omega)) (by decide)) (by rw[List.length_drop];omega) (Ca _ _ _) (rfl) (by omega) (by omega) (by omega) (by omega) (by decide) ?_
   intro p46 c46 w29 hO hM29
   have hX:=hX.mod hM29 (hBz)
   refine pA (Ac (t_n (Ao ?_)))
   refine eR1 ?_
   exact⟨⟨_,_,_,rfl,(by rw[hp];have h9:=hO.sl.mono (Nat.zero_le B);rw[show []++xs.take k++[x]++xs.drop k=xs.take k++x :: xs.drop k from by simp] at h9;exact h9),by omega⟩,hX⟩
  skip
  refine Av u54 inf64 rfl (by decide) (fun base hb=>Ed [.agg (hv x)] (by intro v hv';simp only[List.mem_singleton] at hv';subst hv';simp[Value.cells,hv,Ec]) base hb) ?_
  intro w30 g40 hN40
  have hE30:=hN40.ext
  have hX:=hX.ext hE30
  have hSr7:=hSr7.ext hE30
  have hJ:Own kHash 64 0 0 w30 (some ⟨g40,0,none⟩) 1 1 [x]:=B4 [x] hN40 (Nat.zero_le _) (by simp)
  refine An hQ6 ⟨hSr7,?_⟩
  refine h1L 4 (fun Q4 hQ4=>?_)
  have hO:Own kHash 64 0 w30.heap.size w30 none 0 0 []:=Own.nil _ _ _ _ _
  have hBz:w.heap.size≤w30.heap.size:=hX.size
  have hBs:=hSr7.size
  have hWt:=Ext.refl w30
  refine Az (d:=kHash) (xs.take k) u54 inf64 rfl A5 rfl rfl hO (Ba u54 ((hl.ext hX).take k (by omega)) (by decide)) (by rw[List.length_take];omega) (Ca _ _ _) (rfl) (by omega) (by omega) (by omega) (by omega) (by decide) ?_
  intro p38 c38 w31 hO hM31
  have hX:=hX.mod hM31 (hBz)
  have hSr7:=hSr7.mod hM31 (by omega)
  have hJ:=hJ.ext ((Ext.refl _).mod hM31 (Nat.le_refl _))
  have hWt:=hWt.mod hM31 (by exact Nat.le_refl _)
  refine An hQ4 ⟨hSr7,?_⟩
  refine h1L 7 (fun Q7 hQ7=>?_)
  have hq1:=hWt.size
  refine Az (d:=kHash) ([x]) u54 inf64 rfl A5 rfl rfl hO (Ba u54 hJ.sl (by decide)) rfl (Ca _ _ _) (rfl) (by omega) (by omega) (by omega) (by omega) (by decide) ?_
  intro p41 c41 w32 hO hM32
  have hX:=hX.mod hM32 (hBz)
  have hSr7:=hSr7.mod hM32 (by omega)
  have hWt:=hWt.mod hM32 (by exact Nat.le_refl _)
  refine An hQ7 ⟨hSr7,?_⟩
  refine hT 8 rfl hSr7 (fun wS hSS=>by(exact(Ah (by conv=>lhs;whnf)))) ?_
  refine A7 (by kernel_rfl) ?_
  refine t_n (Ab (Aa ?_))
  refine pM (pM (pM ?_))
  refine p1 (Bs u54 sz64 rfl rfl (by omega)) ?_
  have hq1:=hWt.size
  refine Az (d:=kHash) (xs.drop k) u54 inf64 rfl A5 rfl rfl hO (Ba u54 ((hl.ext hX).dropI k (by omega)) (by decide)) (by rw[List.length_drop];omega) (Ca _ _ _) (rfl) (by omega) (by omega) (by omega) (by omega) (by decide) ?_
  intro p46 c46 w33 hO hM33
  have hX:=hX.mod hM33 (hBz)
  refine pA (Ac (t_n (Ao ?_)))
  refine eR1 ?_
  exact⟨⟨_,_,_,rfl,(by rw[hp];have h9:=hO.sl.mono (Nat.zero_le B);rw[show []++xs.take k++[x]++xs.drop k=xs.take k++x :: xs.drop k from by simp] at h9;exact h9),by omega⟩,hX⟩
 try simp only[dA,dB,dC,dD,dE,dF,dG,Int.not_lt,Int.not_le] at hb4_4
 refine sg0 25 rfl (by exact .inl rfl) ?_
 refine sg0 25 rfl (by exact .inl rfl) ?_
 refine sg0 25 rfl (by exact .inl rfl) ?_
 refine sg0 25 rfl (by exact .inl rfl) ?_
 refine sg0 25 rfl (by exact .inl rfl) ?_
 refine sg0 25 rfl (by exact .inl rfl) ?_
 refine s1 (Au rfl (by conv=>lhs;whnf)) ?_
 refine Bx (t_n ?_)
 refine c_f rfl ?_
 have hp:wth xs x=xs.take k++x :: xs.drop k:=by rw[hwa,if_neg (fun e=>by omega)]
 refine Ak (t_n (Ab (Aa ?_)))
 refine pA (Ac (t_n (Ab ?_)))
 refine Bj (fun w1 w2=>Ext w1 w2) mixed ?_
 intro w34 hE34
 have hX:=hX.ext hE34
 have hB3:=hB3.ext hE34
 have hSr7:(fun w1 w2=>Ext w1 w2) w34 w34:=Ext.refl w34
 refine hT 0 rfl hSr7 (fun wS hSS=>by(exact(Af (by conv=>lhs;whnf)))) ?_
 refine hT 1 rfl hSr7 (fun wS hSS=>by(exact(Af (by conv=>lhs;whnf)))) ?_
 refine hT 2 rfl hSr7 (fun wS hSS=>by(exact(Af (by conv=>lhs;whnf)))) ?_
 refine hT 3 rfl hSr7 (fun wS hSS=>by(exact(Cv u54 sz64 rfl rfl (by omega)))) ?_
 refine hT 5 rfl hSr7 (fun wS hSS=>by(have hB3:=hB3.ext hSS;exact(Aq ua64 rfl hB3 (C4 sz64 x)))) ?_
 refine Lq 4 6 _ _ rfl rfl (by kernel_rfl) (A1 (fun Q4 hQ4=>?_)) (A1 (fun Q6 hQ6=>?_))
 ·skip
  have hO:Own kHash 64 0 w34.heap.size w34 none 0 0 []:=Own.nil _ _ _ _ _
  have hBz:w.heap.size≤w34.heap.size:=hX.size
  have hBs:=hSr7.size
  have hWt:=Ext.refl w34
  refine Az (d:=kHash) (xs.take k) u54 inf64 rfl A5 rfl rfl hO (Ba u54 ((hl.ext hX).take k (by omega)) (by decide)) (by rw[List.length_take];omega) (Ca _ _ _) (rfl) (by omega) (by omega) (by omega) (by omega) (by decide) ?_
  intro p38 c38 w35 hO hM35
  have hX:=hX.mod hM35 (hBz)
  have hSr7:=hSr7.mod hM35 (by exact Nat.le_refl _)
  have hWt:=hWt.mod hM35 (by exact Nat.le_refl _)
  refine An hQ4 ⟨hSr7,?_⟩
  refine h1L 6 (fun Q6 hQ6=>?_)
  refine Av u54 inf64 rfl (by decide) (fun base hb=>Ed [.agg (hv x)] (by intro v hv';simp only[List.mem_singleton] at hv';subst hv';simp[Value.cells,hv,Ec]) base hb) ?_
  intro w36 g40 hN40
  have hE36:=hN40.ext
  have hX:=hX.ext hE36
  have hSr7:=hSr7.ext hE36
  have hWt:=hWt.ext hE36
  have hO:=hO.ext hE36
  have hJ:Own kHash 64 0 0 w36 (some ⟨g40,0,none⟩) 1 1 [x]:=B4 [x] hN40 (Nat.zero_le _) (by simp)
  refine An hQ6 ⟨hSr7,?_⟩
  refine h1L 7 (fun Q7 hQ7=>?_)
  have hq1:=hWt.size
  refine Az (d:=kHash) ([x]) u54 inf64 rfl A5 rfl rfl hO (Ba u54 hJ.sl (by decide)) rfl (Ca _ _ _) (rfl) (by omega) (by omega) (by omega) (by omega) (by decide) ?_
  intro p41 c41 w37 hO hM37
  have hX:=hX.mod hM37 (hBz)
  have hSr7:=hSr7.mod hM37 (by exact Nat.le_refl _)
  have hWt:=hWt.mod hM37 (by exact Nat.le_refl _)
  refine An hQ7 ⟨hSr7,?_⟩
  refine hT 8 rfl hSr7 (fun wS hSS=>by(exact(Ah (by conv=>lhs;whnf)))) ?_
  refine A7 (by kernel_rfl) ?_
  refine t_n (Ab (Aa ?_))
  refine pM (pM (pM ?_))
  refine p1 (Bs u54 sz64 rfl rfl (by omega)) ?_
  have hq1:=hWt.size
  refine Az (d:=kHash) (xs.drop k) u54 inf64 rfl A5 rfl rfl hO (Ba u54 ((hl.ext hX).dropI k (by omega)) (by decide)) (by rw[List.length_drop];omega) (Ca _ _ _) (rfl) (by omega) (by omega) (by omega) (by omega) (by decide) ?_
  intro p46 c46 w38 hO hM38
  have hX:=hX.mod hM38 (hBz)
  refine pA (Ac (t_n (Ao ?_)))
  refine eR1 ?_
  exact⟨⟨_,_,_,rfl,(by rw[hp];have h9:=hO.sl.mono (Nat.zero_le B);rw[show []++xs.take k++[x]++xs.drop k=xs.take k++x :: xs.drop k from by simp] at h9;exact h9),by omega⟩,hX⟩
 skip
 refine Av u54 inf64 rfl (by decide) (fun base hb=>Ed [.agg (hv x)] (by intro v hv';simp only[List.mem_singleton] at hv';subst hv';simp[Value.cells,hv,Ec]) base hb) ?_
 intro w39 g40 hN40
 have hE39:=hN40.ext
 have hX:=hX.ext hE39
 have hSr7:=hSr7.ext hE39
 have hJ:Own kHash 64 0 0 w39 (some ⟨g40,0,none⟩) 1 1 [x]:=B4 [x] hN40 (Nat.zero_le _) (by simp)
 refine An hQ6 ⟨hSr7,?_⟩
 refine h1L 4 (fun Q4 hQ4=>?_)
 have hO:Own kHash 64 0 w39.heap.size w39 none 0 0 []:=Own.nil _ _ _ _ _
 have hBz:w.heap.size≤w39.heap.size:=hX.size
 have hBs:=hSr7.size
 have hWt:=Ext.refl w39
 refine Az (d:=kHash) (xs.take k) u54 inf64 rfl A5 rfl rfl hO (Ba u54 ((hl.ext hX).take k (by omega)) (by decide)) (by rw[List.length_take];omega) (Ca _ _ _) (rfl) (by omega) (by omega) (by omega) (by omega) (by decide) ?_
 intro p38 c38 w40 hO hM40
 have hX:=hX.mod hM40 (hBz)
 have hSr7:=hSr7.mod hM40 (by omega)
 have hJ:=hJ.ext ((Ext.refl _).mod hM40 (Nat.le_refl _))
 have hWt:=hWt.mod hM40 (by exact Nat.le_refl _)
 refine An hQ4 ⟨hSr7,?_⟩
 refine h1L 7 (fun Q7 hQ7=>?_)
 have hq1:=hWt.size
 refine Az (d:=kHash) ([x]) u54 inf64 rfl A5 rfl rfl hO (Ba u54 hJ.sl (by decide)) rfl (Ca _ _ _) (rfl) (by omega) (by omega) (by omega) (by omega) (by decide) ?_
 intro p41 c41 w41 hO hM41
 have hX:=hX.mod hM41 (hBz)
 have hSr7:=hSr7.mod hM41 (by omega)
 have hWt:=hWt.mod hM41 (by exact Nat.le_refl _)
 refine An hQ7 ⟨hSr7,?_⟩
 refine hT 8 rfl hSr7 (fun wS hSS=>by(exact(Ah (by conv=>lhs;whnf)))) ?_
 refine A7 (by kernel_rfl) ?_
 refine t_n (Ab (Aa ?_))
 refine pM (pM (pM ?_))
 refine p1 (Bs u54 sz64 rfl rfl (by omega)) ?_
 have hq1:=hWt.size
 refine Az (d:=kHash) (xs.drop k) u54 inf64 rfl A5 rfl rfl hO (Ba u54 ((hl.ext hX).dropI k (by omega)) (by decide)) (by rw[List.length_drop];omega) (Ca _ _ _) (rfl) (by omega) (by omega) (by omega) (by omega) (by decide) ?_
 intro p46 c46 w42 hO hM42
 have hX:=hX.mod hM42 (hBz)
 refine pA (Ac (t_n (Ao ?_)))
 refine eR1 ?_
 exact⟨⟨_,_,_,rfl,(by rw[hp];have h9:=hO.sl.mono (Nat.zero_le B);rw[show []++xs.take k++[x]++xs.drop k=xs.take k++x :: xs.drop k from by simp] at h9;exact h9),by omega⟩,hX⟩
end Go.Proofs.Eng
end
section
set_option maxRecDepth 100000
set_option maxHeartbeats 4000000
namespace Go.Proofs.Eng
open Go.RowKit
open Extern.Stop (cell)
theorem O6 (D:DS) (p pi p2 pg:Option Addr) (n c ni ci n2 c2 ng cg:Nat) (lf sg sz nw:Int) (bz dd:Bool) (L:List By) (B:Nat) (w:World) (hl:Sl (kSl kByte 5) 23 B w p2 n2 c2 L) (hn2:n2≤100000000) (hle:∀ x∈L,x.length≤1048576) :
    Ret Tryz.prog 76 [.agg #[.int .i64 (D.most:Int),.slice p n c,.int .i64 (D.steps:Int),.bool (decide (0≤D.left)),.int .i64 lf,.bool D.done,.bool D.down,.int .i64 sg,.int .i64 sz,.slice pi ni ci,.slice p2 n2 c2,.bool bz,.slice pg ng cg,.int .i64 nw,.bool dd]] w (fun v w'=>(∃ q m c',v = .slice q m c'∧Sl kHash 64 0 w' q m c' (srt (L.map shaF)))∧Ext w w'):=by
 have hX:=Ext.refl w
 refine eN 21 Tryz.func76 ?_
 refine Ab (Aa ?_)
 have hXs1:=hX.size
 have hz1:=hX.size
 refine Bu (by conv=>lhs;whnf) ?_
 intro w1 g1 hN1
 have hE1:=hN1.ext
 have hX:=hX.ext hE1
 have hB1:=hN1.blk
 have hq1:=hN1.g_eq
 refine pA (Ac (t_n (Ab ?_)))
 have hlen:=hl.len
 have hcap:=hl.cap
 have hfit:=hl.fit
 refine Aa ?_
 refine pA (Ac (t_n (Ab (Ab (Aa ?_)))))
 refine pA (Ac (t_n (Ap ?_)))
 have hWL0:=Ext.refl w1
 refine Bc (ι:=Nat×Option Addr×Nat×Nat) (rg 3 17) (fun (k,q4,m4,c4)=>[(3,.slice q4 m4 c4),(4,.int .i64 (k:Int))]) (fun (k,q4,m4,c4) w'=>Ext w1 w'∧(Sl kHash 64 0 w' q4 m4 c4 (srtTo [] ((L.map shaF).take k))∧m4≤k∧k≤n2)) (fun (k,q4,m4,c4)=>n2 - k) ((0,none,0,0)) ⟨rfl,rfl,trivial⟩ ⟨Ext.refl _,Sl.nil _ _ _ _ _ _ (by omega),by omega,by omega⟩ ?_
 rintro⟨k,q4,m4,c4⟩ GL0 w2 ⟨hE2,hR,hm,hk⟩
 have hX:=hX.ext hE2
 have hB1:=hB1.ext hE2
 have hWL0:=hE2
 refine Ab (Ab (Aa ?_))
 refine pM ?_
 refine p1 (Ad Mr sz22 rfl) ?_
 refine p1 (Ae un22 rfl (hB1.cell (rfl))) ?_
 refine p1 (Ar u22 rfl) ?_
 refine p1 (Bi rfl rfl) ?_
 refine Ac (t_n ?_)
 refine As rfl (fun hc9=>?_) (fun hc9=>?_)
 ·refine Ak (t_n (Ab (Ap ?_)))
  obtain⟨cs1,⟨q1,m1,c1,rfl,hr1⟩,hrr1⟩:=hl.get [] k (by omega)
  have hx1:=hle _ (Dq (z:=[]) (xs:=L) (i:=k) (by omega) rfl)
  have hm1:=hr1.len
  have hck1:w.cell? ⟨ab p2,ao p2+k,none⟩=some (.slice q1 m1 c1):=by have:=hrr1 0 _ rfl;have e1:(kSl kByte 5).sz=1:=rfl;rw[e1] at this;simpa using this
  have hgk:(L.map shaF).getD k default=shaF (L.getD k []):=by rw[List.getD_eq_getElem?_getD,List.getD_eq_getElem?_getD,List.getElem?_map,List.getElem?_eq_getElem (by omega)];rfl
  refine Aa ?_
  refine pM ?_
  refine p1 (Ad Mr sz22 rfl) ?_
  refine p1 (Ae un22 rfl (hB1.cell (rfl))) ?_
  refine pM ?_
  refine p1 (Cr (i:=k) u22 sz23 rfl rfl ((hl.ext hX).adr (by decide) (by omega)) (by omega)) ?_
  refine p1 (Ae un23 rfl (hX.cell hck1)) ?_
  refine oC Tryz.func115 (Qv (L.getD k []) _ _ _ _ _ (hr1.ext hX) (by omega)) ?_
  rintro v3 w3 ⟨rfl,hE3⟩
  have hWL0:=hWL0.ext hE3
  have hR:=hR.ext hE3
  refine oC Tryz.func114 (V5 (srtTo [] ((L.map shaF).take k)) (shaF (L.getD k [])) 0 _ _ _ _ hR (by omega)) ?_
  rintro v4 w4 ⟨⟨q5,m5,c5,rfl,hR2,hm5⟩,hE4⟩
  have hWL0:=hWL0.ext hE4
  refine pA (Ac (b_n (t_n (Aa ?_))))
  refine pM ?_
  refine p1 ((A0 rfl rfl (Am (by omega) (by omega))).cast (congrArg (Value.int .i64) (by omega:_=((k+1:Nat):Int)))) ?_
  refine pA (Ac ?_)
  refine t_n (aK ((k+1,q5,m5,c5)) ⟨rfl,rfl,trivial⟩ ?_)
  exact⟨⟨hWL0,by rw[Vy (by rw[List.length_map];omega),hgk];exact hR2,by omega,by omega⟩,by(dsimp only;omega)⟩
 have hkn:k=n2:=by omega
 rw[hkn,List.take_of_length_le (by rw[List.length_map];omega)] at hR
 refine A8 (t_e (t_e (Bq (t_n (Ab (Aa ?_))))))
 refine pM (pA (Ac (t_n (Ao ?_))))
 refine eR1 ?_
 exact⟨⟨_,_,_,rfl,hR⟩,hX⟩
end Go.Proofs.Eng
end
section
set_option maxRecDepth 100000
set_option maxHeartbeats 4000000
namespace Go.Proofs.Eng
open Go.RowKit
open Extern.Stop (cell)
theorem Aay {S Sd:Nat→Prop} {w:World} {r:Nat} {nx:Option Addr} {o:Option (List Hash×Nat)} (h:Nxt S Sd w r nx o):decide (nx≠none)=o.isSome:=by
  cases o with
  | none=>have h:nx=none:=h;subst h;simp
  | some gz=>obtain⟨gn,rn,e,_⟩:=h;subst e;simp
theorem Vx (g gd r:Nat) (S Sd:Nat→Prop) (μ:Hash→Option R3) (pi nx:Option Addr) (ni ci:Nat) (C:CS) (k:Nat) (w:World) (hCX:CstX S Sd w g gd r μ pi ni ci nx C) (hn:CN C k) :
    Ret Tryz.prog 32 [.pointer (some ⟨g,0,none⟩)] w (fun v w'=>v = .bool C.next.isSome∧Ext w w'):=by
 have hb:=hCX.b
 have hX:=Ext.refl w
 refine eN 12 Tryz.func32 ?_
 refine Ab (Aa ?_)
 refine pA (Ac (t_n (Ab (Aa ?_))))
 refine pM ?_
 refine p1 ((Fc u30 rfl rfl).cast (congrArg Value.bool (decide_eq_true (by simp)))) ?_
 refine pM (gM 5 ?_)
 refine Eng.g1 5 rfl rfl (Ag rfl) ?_
 refine Eng.g1 5 rfl rfl (Ad Ir sz89 rfl) ?_
 refine Eng.g1 5 rfl rfl (Ae un89 rfl (hb.cell (rfl))) ?_
 refine Eng.g1 5 rfl rfl (Fc u89 rfl rfl) ?_
 refine p1 (Ax rfl (by conv=>lhs;whnf)) ?_
 refine pA (Ac (t_n (Ao ?_)))
 refine eR1 ?_
 exact⟨congrArg Value.bool (Aay hCX.n),hX⟩
end Go.Proofs.Eng
end
section
set_option maxRecDepth 100000
set_option maxHeartbeats 4000000
namespace Go.Proofs.Eng
open Go.RowKit
open Extern.Stop (cell)
theorem Wo (gd i:Nat) (S:Nat→Prop) (C:CS) (e:Int) (po:Option Addr) (p:Option Addr) (n c:Nat) (lf sg sz:Int) (pi:Option Addr) (ni ci:Nat) (pL:Option Addr) (nL cL:Nat) (w:World) (hO:OpS S w gd C e po) (hcn:CN C i) (hi:i<4611686018427370000) (hnx:C.next=none) (hl:Sl kFl 119 0 w p n c C.D.l) (hlf:LfOk C.D lf) (hR:RfS w C e sg sz pi ni ci pL nL cL) :
    Ret Tryz.prog 27 [.agg #[.pointer (some ⟨gd,0,none⟩),.pointer po,.int .i64 (C.D.most:Int),.slice p n c,.int .i64 (C.D.steps:Int),.bool (decide (0≤C.D.left)),.int .i64 lf,.bool C.D.done,.bool C.D.down,.int .i64 sg,.int .i64 sz,.slice pi ni ci,.slice pL nL cL,.bool false,.slice none 0 0,.int .i64 0,.bool false,.bool (decide (e=0))]] w (fun v w'=>v = .bool true∧Ext w w'):=by
 obtain⟨Sd,hD⟩:=hO.dsk
 have hX:=Ext.refl w
 refine eN 191 Tryz.func27 ?_
 refine Ab (Aa ?_)
 have hXs1:=hX.size
 have hG:=hcn.good
 have hlen:=hl.len
 have hcap:=hl.cap
 have hfit:=hl.fit
 have hfew:=hG.ok.few
 have hroom:=hG.ok.room
 have hmost:=hG.ok.most
 refine Bu (by conv=>lhs;whnf) ?_
 intro w1 g1 hN1
 have hE1:=hN1.ext
 have hX:=hX.ext hE1
 have hB1:=hN1.blk
 refine pA (Ac (t_n (Ab (Aa ?_))))
 refine p1 (Ad S4 sz34 rfl) ?_
 refine p1 (Ae un34 rfl (hB1.cell (rfl))) ?_
 refine oC Tryz.func35 (My gd Sd C.D _ (hD.ext hX) hG.ok) ?_
 rintro v2 w2 ⟨⟨qn,cn,rfl,hN⟩,hE2⟩
 have hX:=hX.ext hE2
 have hB1:=hB1.ext hE2
 have hN:=hN.sl
 refine pA (Ac (t_n (Ab (Ab ?_))))
 refine Bj (fun w1 w2=>Ext w1 w2) mixed ?_
 intro w3 hE3
 have hX:=hX.ext hE3
 have hB1:=hB1.ext hE3
 have hN:=hN.ext hE3
 have hSr2:(fun w1 w2=>Ext w1 w2) w3 w3:=Ext.refl w3
 have hBz:=hB1
 refine hT 0 rfl hSr2 (fun wS hSS=>by(exact(Af (by conv=>lhs;whnf)))) ?_
 refine hT 1 rfl hSr2 (fun wS hSS=>by(exact(Ar u74 rfl))) ?_
 refine hT 2 rfl hSr2 (fun wS hSS=>by(exact(Ad Fz sz56 rfl))) ?_
 refine hT 3 rfl hSr2 (fun wS hSS=>by(exact(Ad Et sz45 rfl))) ?_
 refine hT 4 rfl hSr2 (fun wS hSS=>by(exact(Ad Cm sz43 rfl))) ?_
 refine hT 5 rfl hSr2 (fun wS hSS=>by(have hB1:=hB1.ext hSS;exact(Ae un43 rfl (hB1.cell (rfl))))) ?_
 refine hT 6 rfl hSr2 (fun wS hSS=>by(exact(Ar u43 rfl))) ?_
 refine hT 7 rfl hSr2 (fun wS hSS=>by(exact((A2 rfl rfl).cast (congrArg Value.bool (decide_eq_false (by rw[hlen];simp)))))) ?_
 refine hT 8 rfl hSr2 (fun wS hSS=>by(exact(Af (by conv=>lhs;whnf)))) ?_
 refine Bh 9 25 rfl rfl rfl (by kernel_rfl) (by kernel_rfl) (by kernel_rfl) hSr2 (fun wS hSS=>by(have hX:=hX.ext hSS;have hB1:=hB1.ext hSS;have hN:=hN.ext hSS;exact(Ad S4 sz34 rfl))) ?_
 refine Bh 10 25 rfl rfl rfl (by kernel_rfl) (by kernel_rfl) (by kernel_rfl) hSr2 (fun wS hSS=>by(have hX:=hX.ext hSS;have hB1:=hB1.ext hSS;have hN:=hN.ext hSS;exact(Ae un34 rfl (hB1.cell (rfl))))) ?_
 refine Bh 12 25 rfl rfl rfl (by kernel_rfl) (by kernel_rfl) (by kernel_rfl) hSr2 (fun wS hSS=>by(have hX:=hX.ext hSS;have hB1:=hB1.ext hSS;have hN:=hN.ext hSS;exact(Ad Fz sz56 rfl))) ?_
 refine Bh 13 25 rfl rfl rfl (by kernel_rfl) (by kernel_rfl) (by kernel_rfl) hSr2 (fun wS hSS=>by(have hX:=hX.ext hSS;have hB1:=hB1.ext hSS;have hN:=hN.ext hSS;exact(Ad Et sz45 rfl))) ?_
 refine Bh 14 25 rfl rfl rfl (by kernel_rfl) (by kernel_rfl) (by kernel_rfl) hSr2 (fun wS hSS=>by(have hX:=hX.ext hSS;have hB1:=hB1.ext hSS;have hN:=hN.ext hSS;exact(Ad S5 sz4 rfl))) ?_
 refine Bh 15 25 rfl rfl rfl (by kernel_rfl) (by kernel_rfl) (by kernel_rfl) hSr2 (fun wS hSS=>by(have hX:=hX.ext hSS;have hB1:=hB1.ext hSS;have hN:=hN.ext hSS;exact(Ae un4 rfl (hB1.cell (rfl))))) ?_
 refine h1L 11 (fun Q11 hQ11=>?_)
 refine Cd 25 rfl rfl ?_
 refine oC Tryz.func43 (Zi gd Sd C.D _ (hD.ext hX)) ?_
 rintro v4 w4 ⟨rfl,hE4⟩
 have hX:=hX.ext hE4
 have hB1:=hB1.ext hE4
 have hN:=hN.ext hE4
 have hSr2:=hSr2.ext hE4
 refine An hQ11 ⟨hSr2,?_⟩
 refine Bh 16 25 rfl rfl rfl (by kernel_rfl) (by kernel_rfl) (by kernel_rfl) hSr2 (fun wS hSS=>by( exact((Oi u4 rfl rfl).cast (congrArg Value.bool (decide_eq_false (fun h=>h rfl)))))) ?_
 refine hT 17 rfl hSr2 (fun wS hSS=>by(exact(Au rfl (by conv=>lhs;whnf)))) ?_
 refine hT 18 rfl hSr2 (fun wS hSS=>by(exact(Af (by conv=>lhs;whnf)))) ?_
 refine Bh 19 35 rfl rfl rfl (by kernel_rfl) (by kernel_rfl) (by kernel_rfl) hSr2 (fun wS hSS=>by( exact(Ad S4 sz34 rfl))) ?_
 refine Bh 20 35 rfl rfl rfl (by kernel_rfl) (by kernel_rfl) (by kernel_rfl) hSr2 (fun wS hSS=>by( exact(Ae un34 rfl ((hBz.ext hSS).cell (rfl))))) ?_
 refine Bh 22 35 rfl rfl rfl (by kernel_rfl) (by kernel_rfl) (by kernel_rfl) hSr2 (fun wS hSS=>by( exact(Ad Fz sz56 rfl))) ?_
 refine Bh 23 35 rfl rfl rfl (by kernel_rfl) (by kernel_rfl) (by kernel_rfl) hSr2 (fun wS hSS=>by( exact(Ad Et sz45 rfl))) ?_
 refine Bh 24 35 rfl rfl rfl (by kernel_rfl) (by kernel_rfl) (by kernel_rfl) hSr2 (fun wS hSS=>by( exact(Ad Py sz3 rfl))) ?_
 refine Bh 25 35 rfl rfl rfl (by kernel_rfl) (by kernel_rfl) (by kernel_rfl) hSr2 (fun wS hSS=>by( exact(Ae un3 rfl ((hBz.ext hSS).cell (rfl))))) ?_
 refine h1L 21 (fun Q21 hQ21=>?_)
 refine Cd 35 rfl rfl ?_
 refine oC Tryz.func73 (Wy gd Sd C.D _ (hD.ext hX)) ?_
 rintro v5 w5 ⟨rfl,hE5⟩
 have hX:=hX.ext hE5
 have hB1:=hB1.ext hE5
 have hN:=hN.ext hE5
 have hSr2:=hSr2.ext hE5
 refine An hQ21 ⟨hSr2,?_⟩
 refine Bh 26 35 rfl rfl rfl (by kernel_rfl) (by kernel_rfl) (by kernel_rfl) hSr2 (fun wS hSS=>by( exact((A2 rfl rfl).cast (congrArg Value.bool (decide_eq_false (fun h=>h rfl)))))) ?_
 refine hT 27 rfl hSr2 (fun wS hSS=>by(exact(Au rfl (by conv=>lhs;whnf)))) ?_
 refine A7 (by kernel_rfl) ?_
 refine t_n ?_
 refine c_f rfl ?_
 refine Ak (t_n (Ab (Ab (Aa ?_))))
 refine pA (Ac (t_n (Ap ?_)))
 have hWL0:=Ext.refl w5
 refine Bc (ι:=Nat) ([2,4,5,6,7,8]++rg 45 55) (fun k=>[(4,.int .i64 (k:Int))]) (fun k w'=>Ext w5 w'∧(k≤C.D.l.length)) (fun k=>C.D.l.length - k) (0) ⟨rfl,trivial⟩ ⟨Ext.refl _,Nat.zero_le _⟩ ?_
 rintro k GL0 w6 ⟨hE6,hk⟩
 have hX:=hX.ext hE6
 have hB1:=hB1.ext hE6
 have hN:=hN.ext hE6
 have hWL0:=hE6
 refine Ab (Ab (Aa ?_))
 refine pM (pM ?_)
 refine p1 (Ar u74 rfl) ?_
 refine p1 (Bi rfl rfl) ?_
 refine Ac (t_n ?_)
 refine As rfl (fun hc48=>?_) (fun hc48=>?_)
 ·refine Ak (t_n (Ab (Ap (Ab ?_))))
  obtain⟨xf,hx⟩:∃ x,C.D.l.getD k default=x:=⟨_,rfl⟩
  have hkl:k<C.D.l.length:=by omega
  have hnm:(C.D.l.map (·.1)).getD k ByteArray.empty=xf.1:=by rw[← hx,List.getD_eq_getElem?_getD,List.getElem?_map,List.getD_eq_getElem?_getD,List.getElem?_eq_getElem hkl];rfl
  have hxm:xf∈C.D.l:=by rw[← hx,List.getD_eq_getElem?_getD,List.getElem?_eq_getElem hkl];exact List.getElem_mem _
  have hks:xf.1.size≤9223372036854775807:=by have:=Ik (hG.names xf hxm);omega
  have hfr:∀ wz,Ext w wz→wz.rangeAt (ab p) (ao p+k * 3) [.string xf.1,.string (toStr (xf.2.1.take xf.2.2)),.string (toStr (xf.2.1.drop xf.2.2))]:=fun wz hz=>by have:=(hl.ext hz).flRange k (by omega);rw[hx] at this;exact this
  refine Bj (fun w1 w2=>Ext w1 w2) mixed ?_
  intro w7 hE7
  have hX:=hX.ext hE7
  have hB1:=hB1.ext hE7
  have hN:=hN.ext hE7
  have hWL0:=hWL0.ext hE7
  have hSr7:(fun w1 w2=>Ext w1 w2) w7 w7:=Ext.refl w7
  refine hT 0 rfl hSr7 (fun wS hSS=>by(exact(Ad S4 sz34 rfl))) ?_
  refine hT 1 rfl hSr7 (fun wS hSS=>by(have hB1:=hB1.ext hSS;exact(Ae un34 rfl (hB1.cell (rfl))))) ?_
  refine hT 2 rfl hSr7 (fun wS hSS=>by(exact(Af (by conv=>lhs;whnf)))) ?_
  refine hT 3 rfl hSr7 (fun wS hSS=>by(exact(Af (by conv=>lhs;whnf)))) ?_
  refine hT 4 rfl hSr7 (fun wS hSS=>by(have hN:=hN.ext hSS;exact(Cr (i:=k) u74 sz9 rfl rfl (hN.adr Ej (by omega)) (by omega)))) ?_
  refine hT 5 rfl hSr7 (fun wS hSS=>by(have hN:=hN.ext hSS;exact((Ae un9 rfl (hN.strAt k (by omega))).cast (by rw[hnm])))) ?_
  refine h1L 6 (fun Q6 hQ6=>?_)
  refine oC Tryz.func37 (H8 gd Sd C.D _ (hD.ext hX) hG.ok xf.1 hks) ?_
  rintro v8 w8 ⟨⟨q7,n7,c7,rfl,hO7⟩,hE8⟩
  have hX:=hX.ext hE8
  have hB1:=hB1.ext hE8
  have hN:=hN.ext hE8
  have hWL0:=hWL0.ext hE8
  have hSr7:=hSr7.ext hE8
  have hO7:=hO7.sl
  refine An hQ6 ⟨hSr7,?_⟩
  refine hT 7 rfl hSr7 (fun wS hSS=>by(exact(Af (by conv=>lhs;whnf)))) ?_
  refine hT 8 rfl hSr7 (fun wS hSS=>by(exact(Aj rfl rfl))) ?_
  refine hT 9 rfl hSr7 (fun wS hSS=>by(exact(Aj rfl rfl))) ?_
  refine hT 10 rfl hSr7 (fun wS hSS=>by(exact(Ah (by conv=>lhs;whnf)))) ?_
  refine hT 11 rfl hSr7 (fun wS hSS=>by(exact(Ah (by conv=>lhs;whnf)))) ?_
  refine A7 (by kernel_rfl) ?_
  refine t_n (Ab ?_)
  refine Bj (fun w1 w2=>Ext w1 w2) mixed ?_
  intro w9 hE9
  have hX:=hX.ext hE9
  have hB1:=hB1.ext hE9
  have hN:=hN.ext hE9
  have hWL0:=hWL0.ext hE9
  have hO7:=hO7.ext hE9
  have hSr8:(fun w1 w2=>Ext w1 w2) w9 w9:=Ext.refl w9
  refine hT 0 rfl hSr8 (fun wS hSS=>by(exact(Ad Fz sz56 rfl))) ?_
  refine hT 1 rfl hSr8 (fun wS hSS=>by(exact(Ad Et sz45 rfl))) ?_
  refine hT 2 rfl hSr8 (fun wS hSS=>by(have hB1:=hB1.ext hSS;exact(Cb ua45 rfl (by exact sz45) (hB1.rangeN (0+2+0) [.int .i64 (C.D.most:Int),.slice p n c,.int .i64 (C.D.steps:Int),.bool (decide (0≤C.D.left)),.int .i64 lf,.bool C.D.done,.bool C.D.down] (fun j v e=>by rcases j with _ | _ | _ | _ | _ | _ | _ | j <;> first | exact e | (simp at e)))))) ?_
  refine hT 3 rfl hSr8 (fun wS hSS=>by(exact(Ad Fz sz56 rfl))) ?_
  refine hT 4 rfl hSr8 (fun wS hSS=>by(exact(Ad Et sz45 rfl))) ?_
  refine hT 5 rfl hSr8 (fun wS hSS=>by(exact(Ad Cm sz43 rfl))) ?_
  refine hT 6 rfl hSr8 (fun wS hSS=>by(have hB1:=hB1.ext hSS;exact(Ae un43 rfl (hB1.cell (rfl))))) ?_
  refine hT 7 rfl hSr8 (fun wS hSS=>by(exact(Af (by conv=>lhs;whnf)))) ?_
  refine hT 8 rfl hSr8 (fun wS hSS=>by(have hX:=hX.ext hSS;exact(Cs u43 sz119 rfl rfl ((hl.ext hX).adr Cq (by omega)) (by omega) (by omega)))) ?_
  refine hT 9 rfl hSr8 (fun wS hSS=>by(exact(Ad Gj sz9 rfl))) ?_
  refine hT 10 rfl hSr8 (fun wS hSS=>by(have hX:=hX.ext hSS;exact(Ae un9 rfl (hfr _ hX 0 _ rfl)))) ?_
  refine h1L 11 (fun Q11 hQ11=>?_)
  refine oC Tryz.func74 (O4 C.D p n c lf _ (hl.ext hX) hlf hG.ok (Nat.lt_of_le_of_lt hG.steps (by omega)) xf.1 hks) ?_
  rintro v10 w10 ⟨rfl,hE10⟩
  have hX:=hX.ext hE10
  have hB1:=hB1.ext hE10
  have hN:=hN.ext hE10
  have hWL0:=hWL0.ext hE10
  have hO7:=hO7.ext hE10
  have hSr8:=hSr8.ext hE10
  refine An hQ11 ⟨hSr8,?_⟩
  refine hT 12 rfl hSr8 (fun wS hSS=>by(exact(Af (by conv=>lhs;whnf)))) ?_
  refine hT 13 rfl hSr8 (fun wS hSS=>by(exact(Aj rfl rfl))) ?_
  refine hT 14 rfl hSr8 (fun wS hSS=>by(exact(Aj rfl rfl))) ?_
  refine hT 15 rfl hSr8 (fun wS hSS=>by(exact(Ah (by conv=>lhs;whnf)))) ?_
  refine hT 16 rfl hSr8 (fun wS hSS=>by(exact(Ah (by conv=>lhs;whnf)))) ?_
  refine A7 (by kernel_rfl) ?_
  refine t_n (Ab ?_)
  refine Cy mixed (by kernel_rfl) ?_
  intro w11 hE11
  have hX:=hX.ext hE11
  have hB1:=hB1.ext hE11
  have hN:=hN.ext hE11
  have hWL0:=hWL0.ext hE11
  have hO7:=hO7.ext hE11
  refine s1 (Af (by conv=>lhs;whnf)) ?_
  refine s1 (Af (by conv=>lhs;whnf)) ?_
  refine s1 (Cr (i:=k) u74 sz9 rfl rfl (hN.adr Ej (by omega)) (by omega)) ?_
  refine s1 ((Ae un9 rfl (hN.strAt k (by omega))).cast (by rw[hnm])) ?_
  refine s1 (Ad Fz sz56 rfl) ?_
  refine s1 (Ad Et sz45 rfl) ?_
  refine s1 (Ad Cm sz43 rfl) ?_
  refine s1 (Ae un43 rfl (hB1.cell (rfl))) ?_
  refine s1 (Af (by conv=>lhs;whnf)) ?_
  refine s1 (Cs u43 sz119 rfl rfl ((hl.ext hX).adr Cq (by omega)) (by omega) (by omega)) ?_
  refine s1 (Ad Gj sz9 rfl) ?_
  refine s1 (Ae un9 rfl (hfr _ hX 0 _ rfl)) ?_
  refine s1 ((Eg rfl rfl).cast (congrArg Value.bool (decide_eq_false (fun h=>h rfl)))) ?_
  refine s1 (Af (by conv=>lhs;whnf)) ?_
  refine sg1 89 rfl rfl (Af (by conv=>lhs;whnf)) ?_
  refine sg1 89 rfl rfl (Af (by conv=>lhs;whnf)) ?_
  refine sg1 89 rfl rfl ((A2 rfl rfl).cast (congrArg Value.bool (decide_eq_false (fun h=>h rfl)))) ?_
  refine s1 (Au rfl (by conv=>lhs;whnf)) ?_
  refine s1 (Af (by conv=>lhs;whnf)) ?_
  refine sg1 94 rfl rfl (Af (by conv=>lhs;whnf)) ?_
  refine sg1 94 rfl rfl (Cg u23 u5 u9 rfl hO7) ?_
  refine sg1 94 rfl rfl (Af (by conv=>lhs;whnf)) ?_
  refine sg1 94 rfl rfl ((Eg rfl rfl).cast (congrArg Value.bool (decide_eq_false (fun h=>h rfl)))) ?_
  refine s1 (Au rfl (by conv=>lhs;whnf)) ?_
  refine Bx (t_n ?_)
  refine c_f rfl ?_
  refine Ak (b_n (t_n (Aa ?_)))
  refine pM ?_
  refine p1 ((A0 rfl rfl (Am (by omega) (by omega))).cast (congrArg (Value.int .i64) (by omega:_=((k+1:Nat):Int)))) ?_
  refine pA (Ac ?_)
  refine t_n (aK (k+1) ⟨rfl,trivial⟩ ?_)
  exact⟨⟨hWL0,by omega⟩,by((show _<_);omega)⟩
 refine A8 (t_e (t_e (Bq (t_n (Ab (Ab (Aa ?_)))))))
 refine p1 (Ad Aep sz4 rfl) ?_
 refine p1 (Ae un4 rfl (hB1.cell (rfl))) ?_
 refine p1 (Ez rfl) ?_
 refine Ac (t_n ?_)
 refine As rfl (fun hc102=>?_) (fun hc102=>?_)
 ·refine Ab (Aa ?_)
  refine pA (Ac (t_n (Ao (t_r ?_))))
  refine eR1 ?_
  exact⟨rfl,hX⟩
 have he0:e=0:=by simpa using hc102
 obtain⟨_,g,hpo,hC⟩:=hO.resolve_right (fun h=>h.1 he0)
 subst hpo
 obtain⟨hsg,hsz,hIx,hLr⟩:=hR he0
 subst hsg hsz
 obtain⟨Sd2,r,μ,pi2,ni2,ci2,nx2,hCX⟩:=hC
 have hLl:=hLr.len
 have hLc:=hLr.cap
 have hLf:=hLr.fit
 have hcl:=hcn.ln
 refine Ak (t_n (Ab (Ab ?_)))
 refine Bj (fun w1 w2=>Ext w1 w2) mixed ?_
 intro w12 hE12
 have hX:=hX.ext hE12
 have hB1:=hB1.ext hE12
 have hSr13:(fun w1 w2=>Ext w1 w2) w12 w12:=Ext.refl w12
 have hIx0:=hIx.ext hX
 have hBz:=hB1
 refine hT 0 rfl hSr13 (fun wS hSS=>by(exact(Ad Px sz30 rfl))) ?_
 refine hT 1 rfl hSr13 (fun wS hSS=>by(have hB1:=hB1.ext hSS;exact(Ae un30 rfl (hB1.cell (rfl))))) ?_
 refine hT 3 rfl hSr13 (fun wS hSS=>by(exact(Ad Fz sz56 rfl))) ?_
 refine hT 4 rfl hSr13 (fun wS hSS=>by(have hB1:=hB1.ext hSS;exact(Cb ua56 rfl (by exact sz56) (hB1.rangeN (0+2) [.int .i64 (C.D.most:Int),.slice p n c,.int .i64 (C.D.steps:Int),.bool (decide (0≤C.D.left)),.int .i64 lf,.bool C.D.done,.bool C.D.down,.int .i64 (C.seg:Int),.int .i64 (C.size:Int),.slice pi ni ci,.slice pL nL cL,.bool false,.slice none 0 0,.int .i64 0,.bool false] (fun j v e=>by rcases j with _ | _ | _ | _ | _ | _ | _ | _ | _ | _ | _ | _ | _ | _ | _ | j <;> first | exact e | (simp at e)))))) ?_
 refine h1L 2 (fun Q2 hQ2=>?_)
 refine oC Tryz.func30 (Ov g gd r _ Sd2 μ pi2 nx2 ni2 ci2 C i _ (hCX.ext hX) hcn) ?_
 rintro v13 w13 ⟨⟨qa,ma,ca,rfl,hLa⟩,hE13⟩
 have hX:=hX.ext hE13
 have hB1:=hB1.ext hE13
 have hSr13:=hSr13.ext hE13
 have hLa:=hLa.sl
 refine An hQ2 ⟨hSr13,?_⟩
 refine h1L 5 (fun Q5 hQ5=>?_)
 refine oC Tryz.func76 (O6 C.D p pi pL none n c ni ci nL cL 0 0 lf _ _ 0 false false C.L 0 _ (hLr.ext hX) (by omega) hcn.cl) ?_
 rintro v14 w14 ⟨⟨qb,mb,cb,rfl,hLb⟩,hE14⟩
 have hX:=hX.ext hE14
 have hB1:=hB1.ext hE14
 have hSr13:=hSr13.ext hE14
 have hLa:=hLa.ext hE14
 refine An hQ5 ⟨hSr13,?_⟩
 refine h1L 6 (fun Q6 hQ6=>?_)
 refine oC Tryz.func75 (V6 (srt (C.L.map shaF)) (srt (C.L.map shaF)) _ _ _ _ _ _ _ _ _ hLa hLb) ?_
 rintro v15 w15 ⟨rfl,hE15⟩
 have hX:=hX.ext hE15
 have hB1:=hB1.ext hE15
 have hSr13:=hSr13.ext hE15
 refine An hQ6 ⟨hSr13,?_⟩
 refine hT 7 rfl hSr13 (fun wS hSS=>by(exact((Ht rfl).cast (congrArg Value.bool (show (!decide ((srt (C.L.map shaF))=(srt (C.L.map shaF))))=false by simp))))) ?_
 refine hT 8 rfl hSr13 (fun wS hSS=>by(exact(Af (by conv=>lhs;whnf)))) ?_
 refine Bh 9 111 rfl rfl rfl (by kernel_rfl) (by kernel_rfl) (by kernel_rfl) hSr13 (fun wS hSS=>by( exact(Ad Px sz30 rfl))) ?_
 refine Bh 10 111 rfl rfl rfl (by kernel_rfl) (by kernel_rfl) (by kernel_rfl) hSr13 (fun wS hSS=>by( exact(Ae un30 rfl ((hBz.ext hSS).cell (rfl))))) ?_
 refine Bh 13 111 rfl rfl rfl (by kernel_rfl) (by kernel_rfl) (by kernel_rfl) hSr13 (fun wS hSS=>by( exact(Ad Fz sz56 rfl))) ?_
 refine Bh 14 111 rfl rfl rfl (by kernel_rfl) (by kernel_rfl) (by kernel_rfl) hSr13 (fun wS hSS=>by( exact(Ad Abm sz23 rfl))) ?_
 refine Bh 15 111 rfl rfl rfl (by kernel_rfl) (by kernel_rfl) (by kernel_rfl) hSr13 (fun wS hSS=>by( exact(Ae un23 rfl ((hBz.ext hSS).cell (rfl))))) ?_
 refine Bh 16 111 rfl rfl rfl (by kernel_rfl) (by kernel_rfl) (by kernel_rfl) hSr13 (fun wS hSS=>by( exact(Cg u23 u5 u9 rfl (hIx0.ext hSS)))) ?_
 refine h1L 11 (fun Q11 hQ11=>?_)
 refine Cd 111 rfl rfl ?_
 refine oC Tryz.func31 (M9 g gd r _ Sd2 μ pi2 nx2 ni2 ci2 C i _ (hCX.ext hX) hcn) ?_
 rintro v16 w16 ⟨⟨qi,mi,cj,rfl,hOi⟩,hE16⟩
 have hX:=hX.ext hE16
 have hB1:=hB1.ext hE16
 have hSr13:=hSr13.ext hE16
 have hOi:=hOi.sl
 refine An hQ11 ⟨hSr13,?_⟩
 refine h1L 12 (fun Q12 hQ12=>?_)
 refine Eng.g1 111 rfl rfl (Cg u23 u5 u9 rfl hOi) ?_
 refine An hQ12 ⟨hSr13,?_⟩
 refine Bh 17 111 rfl rfl rfl (by kernel_rfl) (by kernel_rfl) (by kernel_rfl) hSr13 (fun wS hSS=>by( exact((Eg rfl rfl).cast (congrArg Value.bool (decide_eq_false (fun h=>h rfl)))))) ?_
 refine hT 18 rfl hSr13 (fun wS hSS=>by(exact(Au rfl (by conv=>lhs;whnf)))) ?_
 refine hT 19 rfl hSr13 (fun wS hSS=>by(exact(Af (by conv=>lhs;whnf)))) ?_
 refine Bh 20 122 rfl rfl rfl (by kernel_rfl) (by kernel_rfl) (by kernel_rfl) hSr13 (fun wS hSS=>by( exact(Ad Px sz30 rfl))) ?_
 refine Bh 21 122 rfl rfl rfl (by kernel_rfl) (by kernel_rfl) (by kernel_rfl) hSr13 (fun wS hSS=>by( exact(Ae un30 rfl ((hBz.ext hSS).cell (rfl))))) ?_
 refine Bh 23 122 rfl rfl rfl (by kernel_rfl) (by kernel_rfl) (by kernel_rfl) hSr13 (fun wS hSS=>by( exact(Ad Fz sz56 rfl))) ?_
 refine Bh 24 122 rfl rfl rfl (by kernel_rfl) (by kernel_rfl) (by kernel_rfl) hSr13 (fun wS hSS=>by( exact(Ad Abn sz3 rfl))) ?_
 refine Bh 25 122 rfl rfl rfl (by kernel_rfl) (by kernel_rfl) (by kernel_rfl) hSr13 (fun wS hSS=>by( exact(Ae un3 rfl ((hBz.ext hSS).cell (rfl))))) ?_
 refine h1L 22 (fun Q22 hQ22=>?_)
 refine Cd 122 rfl rfl ?_
 refine oC Tryz.func15 (Ou g gd r _ Sd2 μ pi2 nx2 ni2 ci2 C i _ (hCX.ext hX) hcn) ?_
 rintro v17 w17 ⟨rfl,hE17⟩
 have hX:=hX.ext hE17
 have hB1:=hB1.ext hE17
 have hSr13:=hSr13.ext hE17
 refine An hQ22 ⟨hSr13,?_⟩
 refine Bh 26 122 rfl rfl rfl (by kernel_rfl) (by kernel_rfl) (by kernel_rfl) hSr13 (fun wS hSS=>by( exact((A2 rfl rfl).cast (congrArg Value.bool (decide_eq_false (fun h=>h rfl)))))) ?_
 refine hT 27 rfl hSr13 (fun wS hSS=>by(exact(Au rfl (by conv=>lhs;whnf)))) ?_
 refine hT 28 rfl hSr13 (fun wS hSS=>by(exact(Af (by conv=>lhs;whnf)))) ?_
 refine Bh 29 131 rfl rfl rfl (by kernel_rfl) (by kernel_rfl) (by kernel_rfl) hSr13 (fun wS hSS=>by( exact(Ad Px sz30 rfl))) ?_
 refine Bh 30 131 rfl rfl rfl (by kernel_rfl) (by kernel_rfl) (by kernel_rfl) hSr13 (fun wS hSS=>by( exact(Ae un30 rfl ((hBz.ext hSS).cell (rfl))))) ?_
 refine Bh 32 131 rfl rfl rfl (by kernel_rfl) (by kernel_rfl) (by kernel_rfl) hSr13 (fun wS hSS=>by( exact(Ad Fz sz56 rfl))) ?_
 refine Bh 33 131 rfl rfl rfl (by kernel_rfl) (by kernel_rfl) (by kernel_rfl) hSr13 (fun wS hSS=>by( exact(Ad Aeq sz4 rfl))) ?_
 refine Bh 34 131 rfl rfl rfl (by kernel_rfl) (by kernel_rfl) (by kernel_rfl) hSr13 (fun wS hSS=>by( exact(Ae un4 rfl ((hBz.ext hSS).cell (rfl))))) ?_
 refine h1L 31 (fun Q31 hQ31=>?_)
 refine Cd 131 rfl rfl ?_
 refine oC Tryz.func32 (Vx g gd r _ Sd2 μ pi2 nx2 ni2 ci2 C i _ (hCX.ext hX) hcn) ?_
 rintro v18 w18 ⟨rfl,hE18⟩
 have hX:=hX.ext hE18
 have hB1:=hB1.ext hE18
 have hSr13:=hSr13.ext hE18
 refine An hQ31 ⟨hSr13,?_⟩
 refine Bh 35 131 rfl rfl rfl (by kernel_rfl) (by kernel_rfl) (by kernel_rfl) hSr13 (fun wS hSS=>by( exact((Oi u4 rfl rfl).cast (congrArg Value.bool (decide_eq_false (by rw[hnx];simp)))))) ?_
 refine hT 36 rfl hSr13 (fun wS hSS=>by(exact(Au rfl (by conv=>lhs;whnf)))) ?_
 refine A7 (by kernel_rfl) ?_
 refine t_n ?_
 refine c_f rfl ?_
 refine Ak (t_n (Ab (Aa ?_)))
 refine p1 (Ad Fz sz56 rfl) ?_
 refine p1 (Cb ua56 rfl (by exact sz56) (hB1.rangeN (0+2) [.int .i64 (C.D.most:Int),.slice p n c,.int .i64 (C.D.steps:Int),.bool (decide (0≤C.D.left)),.int .i64 lf,.bool C.D.done,.bool C.D.down,.int .i64 (C.seg:Int),.int .i64 (C.size:Int),.slice pi ni ci,.slice pL nL cL,.bool false,.slice none 0 0,.int .i64 0,.bool false] (fun j v e=>by rcases j with _ | _ | _ | _ | _ | _ | _ | _ | _ | _ | _ | _ | _ | _ | _ | j <;> first | exact e | (simp at e)))) ?_
 refine oC Tryz.func76 (O6 C.D p pi pL none n c ni ci nL cL 0 0 lf _ _ 0 false false C.L 0 _ (hLr.ext hX) (by omega) hcn.cl) ?_
 rintro v19 w19 ⟨⟨q9,m9,c9,rfl,hL9⟩,hE19⟩
 have hX:=hX.ext hE19
 have hB1:=hB1.ext hE19
 have hl9:=hL9.len
 have hc9:=hL9.cap
 have hf9:=hL9.fit
 refine pA (Ac (t_n (Ab (Ab (Aa ?_)))))
 refine pA (Ac (t_n (Ap ?_)))
 refine Bc (ι:=Nat) ([2,10,11,12,13]++rg 143 48) (fun j=>[(10,.int .i64 (j:Int))]) (fun j w'=>Ext w w'∧(j≤m9∧Sl kHash 64 0 w' q9 m9 c9 (srt (C.L.map shaF))∧Blk w' g1 #[.pointer (some ⟨gd,0,none⟩),.pointer (some ⟨g,0,none⟩),.int .i64 (C.D.most:Int),.slice p n c,.int .i64 (C.D.steps:Int),.bool (decide (0≤C.D.left)),.int .i64 lf,.bool C.D.done,.bool C.D.down,.int .i64 (C.seg:Int),.int .i64 (C.size:Int),.slice pi ni ci,.slice pL nL cL,.bool false,.slice none 0 0,.int .i64 0,.bool false,.bool (decide (e=0))] 58)) (fun j=>m9 - j) (0) ⟨rfl,trivial⟩ ⟨hX,Nat.zero_le _,hL9,hB1⟩ ?_
 rintro j GL2 w20 ⟨hE20,hj,hL9,hB1⟩
 have hX:=hE20
 refine Ab (Ab (Aa ?_))
 refine pM (pM ?_)
 refine p1 (Ar u54 rfl) ?_
 refine p1 (Bi rfl rfl) ?_
 refine Ac (t_n ?_)
 refine As rfl (fun hc146=>?_) (fun hc146=>?_)
 ·refine Ak (t_n (Ab (Ap (Ab ?_))))
  have hmem:((srt (C.L.map shaF)).getD j default)∈(srt (C.L.map shaF)):=Dq (z:=default) (xs:=(srt (C.L.map shaF))) (i:=j) (by omega) rfl
  have hne:findF C.L ((srt (C.L.map shaF)).getD j default)≠none:=fun hn=>by
    obtain⟨x,hx,hxe⟩:=List.mem_map.1 (mem_srt.1 hmem)
    exact Lz.1 hn x hx hxe
  refine Bj (fun w1 w2=>Ext w1 w2) mixed ?_
  intro w21 hE21
  have hX:=hX.ext hE21
  have hL9:=hL9.ext hE21
  have hB1:=hB1.ext hE21
  have hSr19:(fun w1 w2=>Ext w1 w2) w21 w21:=Ext.refl w21
  refine hT 0 rfl hSr19 (fun wS hSS=>by(exact(Ad Px sz30 rfl))) ?_
  refine hT 1 rfl hSr19 (fun wS hSS=>by(have hB1:=hB1.ext hSS;exact(Ae un30 rfl (hB1.cell (rfl))))) ?_
  refine hT 2 rfl hSr19 (fun wS hSS=>by(exact(Af (by conv=>lhs;whnf)))) ?_
  refine hT 3 rfl hSr19 (fun wS hSS=>by(exact(Af (by conv=>lhs;whnf)))) ?_
  refine hT 4 rfl hSr19 (fun wS hSS=>by(have hL9:=hL9.ext hSS;exact(Cs u54 sz64 rfl rfl (hL9.adr A5 (by omega)) (by omega) (by omega)))) ?_
  refine hT 5 rfl hSr19 (fun wS hSS=>by(have hL9:=hL9.ext hSS;exact(Cb ua64 rfl (Gc sz64 _) (hL9.hashAt (j:Int) (by omega) (by omega))))) ?_
  refine h1L 6 (fun Q6 hQ6=>?_)
  have hXs19:=hX.size
  refine oC Tryz.func28 (Yl g gd r _ Sd2 μ pi2 nx2 ni2 ci2 C i _ (hCX.ext hX) hcn ((srt (C.L.map shaF)).getD j default)) ?_
  rintro v22 w22 ⟨⟨q7,n7,c7,e7,rfl,hor7⟩,hE22⟩
  have hX:=hX.ext hE22
  have hL9:=hL9.ext hE22
  have hB1:=hB1.ext hE22
  have hSr19:=hSr19.ext hE22
  obtain⟨he7,x7,hx7,hO7⟩:=hor7.resolve_left (fun h=>hne h.2)
  subst he7
  have hO7:=hO7.lower hXs19
  refine An hQ6 ⟨hSr19,?_⟩
  refine hT 7 rfl hSr19 (fun wS hSS=>by(exact(Af (by conv=>lhs;whnf)))) ?_
  refine hT 8 rfl hSr19 (fun wS hSS=>by(exact(Aj rfl rfl))) ?_
  refine hT 9 rfl hSr19 (fun wS hSS=>by(exact(Aj rfl rfl))) ?_
  refine hT 10 rfl hSr19 (fun wS hSS=>by(exact(Ah (by conv=>lhs;whnf)))) ?_
  refine hT 11 rfl hSr19 (fun wS hSS=>by(exact(Ah (by conv=>lhs;whnf)))) ?_
  refine A7 (by kernel_rfl) ?_
  refine t_n (Ab (Ab ?_))
  refine Bj (fun w1 w2=>Ext w1 w2) mixed ?_
  intro w23 hE23
  have hX:=hX.ext hE23
  have hL9:=hL9.ext hE23
  have hB1:=hB1.ext hE23
  have hO7:=hO7.ext hE23
  have hSr20:(fun w1 w2=>Ext w1 w2) w23 w23:=Ext.refl w23
  have hO70:=hO7.sl
  have hXz:=hX
  refine hT 0 rfl hSr20 (fun wS hSS=>by(exact(Af (by conv=>lhs;whnf)))) ?_
  refine hT 1 rfl hSr20 (fun wS hSS=>by(exact((A2 rfl rfl).cast (congrArg Value.bool (decide_eq_false (fun h=>h rfl)))))) ?_
  refine hT 2 rfl hSr20 (fun wS hSS=>by(exact(Af (by conv=>lhs;whnf)))) ?_
  refine Bh 3 161 rfl rfl rfl (by kernel_rfl) (by kernel_rfl) (by kernel_rfl) hSr20 (fun wS hSS=>by(have hX:=hX.ext hSS;have hL9:=hL9.ext hSS;have hB1:=hB1.ext hSS;have hO7:=hO7.ext hSS;exact(Af (by conv=>lhs;whnf)))) ?_
  refine Bh 4 161 rfl rfl rfl (by kernel_rfl) (by kernel_rfl) (by kernel_rfl) hSr20 (fun wS hSS=>by( exact(Cg u23 u5 u9 rfl (hO70.ext hSS)))) ?_
  refine Bh 5 161 rfl rfl rfl (by kernel_rfl) (by kernel_rfl) (by kernel_rfl) hSr20 (fun wS hSS=>by(have hX:=hX.ext hSS;have hL9:=hL9.ext hSS;have hB1:=hB1.ext hSS;have hO7:=hO7.ext hSS;exact(Ad Fz sz56 rfl))) ?_
  refine Bh 6 161 rfl rfl rfl (by kernel_rfl) (by kernel_rfl) (by kernel_rfl) hSr20 (fun wS hSS=>by(have hX:=hX.ext hSS;have hL9:=hL9.ext hSS;have hB1:=hB1.ext hSS;have hO7:=hO7.ext hSS;exact(Ad Mr sz22 rfl))) ?_
  refine Bh 7 161 rfl rfl rfl (by kernel_rfl) (by kernel_rfl) (by kernel_rfl) hSr20 (fun wS hSS=>by(have hX:=hX.ext hSS;have hL9:=hL9.ext hSS;have hB1:=hB1.ext hSS;have hO7:=hO7.ext hSS;exact(Ae un22 rfl (hB1.cell (rfl))))) ?_
  refine Bh 8 161 rfl rfl rfl (by kernel_rfl) (by kernel_rfl) (by kernel_rfl) hSr20 (fun wS hSS=>by(have hX:=hX.ext hSS;have hL9:=hL9.ext hSS;have hB1:=hB1.ext hSS;have hO7:=hO7.ext hSS;exact(Ad Fz sz56 rfl))) ?_
  refine Bh 9 161 rfl rfl rfl (by kernel_rfl) (by kernel_rfl) (by kernel_rfl) hSr20 (fun wS hSS=>by(have hX:=hX.ext hSS;have hL9:=hL9.ext hSS;have hB1:=hB1.ext hSS;have hO7:=hO7.ext hSS;exact(Cb ua56 rfl (by exact sz56) (hB1.rangeN (0+2) [.int .i64 (C.D.most:Int),.slice p n c,.int .i64 (C.D.steps:Int),.bool (decide (0≤C.D.left)),.int .i64 lf,.bool C.D.done,.bool C.D.down,.int .i64 (C.seg:Int),.int .i64 (C.size:Int),.slice pi ni ci,.slice pL nL cL,.bool false,.slice none 0 0,.int .i64 0,.bool false] (fun j v e=>by rcases j with _ | _ | _ | _ | _ | _ | _ | _ | _ | _ | _ | _ | _ | _ | _ | j <;> first | exact e | (simp at e)))))) ?_
  refine Bh 10 161 rfl rfl rfl (by kernel_rfl) (by kernel_rfl) (by kernel_rfl) hSr20 (fun wS hSS=>by(have hX:=hX.ext hSS;have hL9:=hL9.ext hSS;have hB1:=hB1.ext hSS;have hO7:=hO7.ext hSS;exact(Af (by conv=>lhs;whnf)))) ?_
  refine Bh 11 161 rfl rfl rfl (by kernel_rfl) (by kernel_rfl) (by kernel_rfl) hSr20 (fun wS hSS=>by(have hX:=hX.ext hSS;have hL9:=hL9.ext hSS;have hB1:=hB1.ext hSS;have hO7:=hO7.ext hSS;exact(Af (by conv=>lhs;whnf)))) ?_
  refine Bh 12 161 rfl rfl rfl (by kernel_rfl) (by kernel_rfl) (by kernel_rfl) hSr20 (fun wS hSS=>by(have hX:=hX.ext hSS;have hL9:=hL9.ext hSS;have hB1:=hB1.ext hSS;have hO7:=hO7.ext hSS;exact(Cs u54 sz64 rfl rfl (hL9.adr A5 (by omega)) (by omega) (by omega)))) ?_
  refine Bh 13 161 rfl rfl rfl (by kernel_rfl) (by kernel_rfl) (by kernel_rfl) hSr20 (fun wS hSS=>by(have hX:=hX.ext hSS;have hL9:=hL9.ext hSS;have hB1:=hB1.ext hSS;have hO7:=hO7.ext hSS;exact(Cb ua64 rfl (Gc sz64 _) (hL9.hashAt (j:Int) (by omega) (by omega))))) ?_
  refine h1L 14 (fun Q14 hQ14=>?_)
  refine Cd 161 rfl rfl ?_
  refine oC Tryz.func77 (Yv C.D p pi pL none n c ni ci nL cL 0 0 lf _ _ 0 false false C.L 0 _ (hLr.ext hX) (by omega) hcn.cl ((srt (C.L.map shaF)).getD j default)) ?_
  rintro v24 w24 ⟨⟨ri,rfl,hri⟩,hE24⟩
  have hX:=hX.ext hE24
  have hL9:=hL9.ext hE24
  have hB1:=hB1.ext hE24
  have hO7:=hO7.ext hE24
  have hSr20:=hSr20.ext hE24
  obtain⟨ix,hix1,hix2,hix3⟩:=hri.resolve_left (fun h=>hne h.2)
  subst hix1
  have hxe:x7=C.L.getD ix []:=by rw[hix3] at hx7;injection hx7 with hx7;exact hx7.symm
  obtain⟨cs1,⟨qk,mk,ck,hcs1,hrk⟩,hrr1⟩:=hLr.get [] ix (by omega)
  subst hcs1
  have hck1:w.cell? ⟨ab pL,ao pL+ix,none⟩=some (.slice qk mk ck):=by have:=hrr1 0 _ rfl;have e1:(kSl kByte 5).sz=1:=rfl;rw[e1] at this;simpa using this
  refine An hQ14 ⟨hSr20,?_⟩
  refine Bh 15 161 rfl rfl rfl (by kernel_rfl) (by kernel_rfl) (by kernel_rfl) hSr20 (fun wS hSS=>by( exact(Cr (i:=ix) u22 sz23 rfl rfl ((hLr.ext hX).adr (by decide) (by omega)) (by omega)))) ?_
  refine Bh 16 161 rfl rfl rfl (by kernel_rfl) (by kernel_rfl) (by kernel_rfl) hSr20 (fun wS hSS=>by( exact(Ae un23 rfl ((hXz.ext hSS).cell hck1)))) ?_
  refine Bh 17 161 rfl rfl rfl (by kernel_rfl) (by kernel_rfl) (by kernel_rfl) hSr20 (fun wS hSS=>by( exact(Cg u23 u5 u9 rfl (hrk.ext (hXz.ext hSS))))) ?_
  refine Bh 18 161 rfl rfl rfl (by kernel_rfl) (by kernel_rfl) (by kernel_rfl) hSr20 (fun wS hSS=>by( exact((Eg rfl rfl).cast (congrArg Value.bool (decide_eq_false (fun h=>h (by rw[hxe]))))))) ?_
  refine hT 19 rfl hSr20 (fun wS hSS=>by(exact(Au rfl (by conv=>lhs;whnf)))) ?_
  refine A7 (by kernel_rfl) ?_
  refine t_n ?_
  refine c_f rfl ?_
  refine Ak (t_n (Ab (Aa ?_)))
  refine pA (Ac (t_n (Ap ?_)))
  have hW:=OwnR.of (F:=fun _=>False) hO7 (fun gq e h=>h)
  have hcf:=hO7.sl.cap
  have hff:=hO7.sl.fit
  refine Bc (ι:=Nat) ([13]++rg 179 12) (fun t=>[(13,.int .i64 (t:Int))]) (fun t w'=>Ext w w'∧(OwnR (fun _=>False) w.heap.size w' q7 n7∧Sl kHash 64 0 w' q9 m9 c9 (srt (C.L.map shaF))∧Blk w' g1 #[.pointer (some ⟨gd,0,none⟩),.pointer (some ⟨g,0,none⟩),.int .i64 (C.D.most:Int),.slice p n c,.int .i64 (C.D.steps:Int),.bool (decide (0≤C.D.left)),.int .i64 lf,.bool C.D.done,.bool C.D.down,.int .i64 (C.seg:Int),.int .i64 (C.size:Int),.slice pi ni ci,.slice pL nL cL,.bool false,.slice none 0 0,.int .i64 0,.bool false,.bool (decide (e=0))] 58∧t≤n7)) (fun t=>n7 - t) (0) ⟨rfl,trivial⟩ ⟨hX,hW,hL9,hB1,Nat.zero_le _⟩ ?_
  rintro t GL4 w25 ⟨hE25,hW,hL9,hB1,ht⟩
  have hX:=hE25
  refine Ab (Ab (Aa ?_))
  refine pM (pM ?_)
  refine p1 (Ar u23 rfl) ?_
  refine p1 (Bi rfl rfl) ?_
  refine Ac (t_n ?_)
  refine As rfl (fun hc182=>?_) (fun hc182=>?_)
  ·obtain⟨gq,cur,hq7,hnF,hlow,hBq,hcs,hcell⟩:=hW.resolve_left (by omega)
   subst hq7
   obtain⟨b,hb⟩:=hcell (0+t) (by omega)
   refine Ak (t_n (Ab (Ap (Aa ?_))))
   refine pM (pM ?_)
   refine p1 (Cr u23 sz5 rfl rfl rfl (by omega)) ?_
   refine p1 ((Ae un5 rfl (hBq.cell hb)).cast (rfl:_=Value.int .u8 (b.toNat:Int))) ?_
   refine p1 ((C8 rfl rfl).cast (congrArg (Value.int .u8) (Z1 b))) ?_
   refine p1 (Cr u23 sz5 rfl rfl rfl (by omega)) ?_
   refine Aw rfl (by conv=>lhs;whnf) rfl rfl sz5 hBq (by show 0+t<_;omega) ?_
   intro w26 hP26
   have hX:=hX.put hP26 hlow
   have hB1:=hB1.one hP26.one (by decide)
   have hL9:=hL9.mod (hP26.mod 0 (Nat.zero_le _)) (Nat.zero_le _) (by decide)
   have hW:OwnR (fun _=>False) w.heap.size w26 (some ⟨gq,0,none⟩) n7 := .inr ⟨gq,_,rfl,hnF,hlow,hP26.blk,by rw[Array.size_setIfInBounds];exact hcs,Yp (b:=b+1) hcs hcell⟩
   skip
   refine Ac (b_n (t_n (Aa ?_)))
   refine pM ?_
   refine p1 ((A0 rfl rfl (Am (by omega) (by omega))).cast (congrArg (Value.int .i64) (by omega:_=((t+1:Nat):Int)))) ?_
   refine pA (Ac ?_)
   refine t_n (aK (t+1) ⟨rfl,trivial⟩ ?_)
   exact⟨⟨hX,hW,hL9,hB1,by omega⟩,by((show _<_);omega)⟩
  refine A8 (t_e (t_e (Bq (b_n (t_n (Aa ?_))))))
  refine pM ?_
  refine p1 ((A0 rfl rfl (Am (by omega) (by omega))).cast (congrArg (Value.int .i64) (by omega:_=((j+1:Nat):Int)))) ?_
  refine pA (Ac ?_)
  refine t_n (aK (j+1) ⟨rfl,trivial⟩ ?_)
  exact⟨⟨hX,by omega,hL9,hB1⟩,by((show _<_);omega)⟩
 refine A8 (t_e (t_e (Bq (t_n (Ab (Aa ?_))))))
 refine pA (Ac (t_n (Ao ?_)))
 refine eR1 ?_
 exact⟨rfl,hX⟩
end Go.Proofs.Eng
end
section
set_option maxRecDepth 100000
set_option maxHeartbeats 4000000
namespace Go.Proofs.Eng
open Go.RowKit
open Extern.Stop (cell)
theorem Nw (mo:Int) (fs:List FiA) (p:Option Addr) (n c:Nat) (nn:Int) (hn0:-9223372036854775808≤nn) (hn9:nn≤9223372036854775807) (w:World) (hl:Sl kFi 42 w.heap.size w p n c fs) (hg:Gt w) :
    Ret Tryz.prog 4 [.int .i64 mo,.slice p n c,.int .i64 nn] w (fun v w'=>v = .bool true∧Ext w w'):=by
 have hgs:=hg.size
 have hlen:=hl.len
 have hcap:=hl.cap
 have hfit:=hl.fit
 have hX:=Ext.refl w
 refine eN 140 Tryz.func4 ?_
 refine Ab (Aa ?_)
 refine pA (Ac (t_n (Ab (Aa ?_))))
 refine pA (Ac (t_n (Ab (Ab (Aa ?_)))))
 refine pA (Ac (t_n ?_))
 have hWcut0:=Ext.refl w
 refine Dn (ι:=Int) ([7,8]++rg 14 19) (fun z=>[(7,.int .i64 z)]) (fun z w'=>Ext w w'∧(0≤z)) ?_ ?_
 ·refine Ap ?_
  have hWL0:=Ext.refl w
  refine Bc (ι:=Nat×Int) ([7,8]++rg 14 19) (fun (k,z)=>[(7,.int .i64 z),(8,.int .i64 (k:Int))]) (fun (k,z) w'=>Ext w w'∧(k≤n∧k≤20∧0≤z∧z≤4001 * (k:Int))) (fun (k,z)=>n - k) ((0,0)) ⟨rfl,rfl,trivial⟩ ⟨Ext.refl _,Nat.zero_le _,Nat.zero_le _,Int.le_refl _,by simp⟩ ?_
  rintro⟨k,z⟩ GL0 w2 ⟨hE2,hk,hk2,hz0,hz2⟩
  have hX:=hX.ext hE2
  have hWcut0:=hWcut0.ext hE2
  have hWL0:=hE2
  refine Ab (Ab (Aa ?_))
  refine pM (pM ?_)
  refine p1 (Ar u40 rfl) ?_
  refine p1 (Bi rfl rfl) ?_
  refine p1b (Af (by conv=>lhs;whnf)) (fun hb3_4=>?_) (fun hb3_4=>?_)
  ·try simp only[dA,dB,dC,dD,dE,dF,dG,Int.not_lt,Int.not_le] at hb3_4
   refine gM 18 ?_
   refine g1 18 rfl rfl (Bi rfl rfl) ?_
   refine p1 (Ax rfl (by conv=>lhs;whnf)) ?_
   refine Ac (t_n ?_)
   refine As rfl (fun hc21=>?_) (fun hc21=>?_)
   ·try simp only[dA,dB,dC,dD,dE,dF,dG,Int.not_lt,Int.not_le] at hc21
    refine Ak (t_n (Ab (Ap ?_)))
    obtain⟨q1,m1,c1,hra,hr1,hz1⟩:=hl.fiAt k (by omega)
    have hn1:=hr1.len
    have hcc1:=hr1.cap
    have hff1:=hr1.fit
    refine Aa ?_
    refine pM (pM (pM ?_))
    refine p1 (Cs u40 sz42 rfl rfl ((hl.ext hX).adr Gi (by omega)) (by omega) (by omega)) ?_
    refine p1 (Ad Ww sz23 rfl) ?_
    refine p1 (Ae un23 rfl (hX.cell (hra 1 _ rfl))) ?_
    refine p1 (Ar u23 rfl) ?_
    refine p1 (Zr rfl rfl) ?_
    refine p1 ((A0 rfl rfl (Am (by omega) (by omega))).cast (congrArg (Value.int .i64) (by omega:_=z+((min m1 4001:Nat):Int)))) ?_
    refine pA (Ac (b_n (t_n (Aa ?_))))
    refine pM ?_
    refine p1 ((A0 rfl rfl (Am (by omega) (by omega))).cast (congrArg (Value.int .i64) (by omega:_=((k+1:Nat):Int)))) ?_
    refine pA (Ac ?_)
    refine t_n (At.mk ((k+1,z+((min m1 4001:Nat):Int))) (by repeat (first | exact Agr.refl _ _ | exact Agr.hav _ _ _ | refine Agr.upd rfl ?_ | refine Agr.updR rfl ?_ | refine Agr.updL ?_ _ rfl | refine Agr.hav' rfl ?_)) ⟨rfl,rfl,trivial⟩ ?_)
    exact⟨⟨hWL0,by omega,by omega,by omega,by omega⟩,by(dsimp only;omega)⟩
   try simp only[dA,dB,dC,dD,dE,dF,dG,Int.not_lt,Int.not_le] at hc21
   refine A8 (t_e (t_e (Bq ?_)))
   refine t_n (aK (z) ⟨rfl,trivial⟩ ?_)
   exact⟨hWcut0,hz0⟩
  try simp only[dA,dB,dC,dD,dE,dF,dG,Int.not_lt,Int.not_le] at hb3_4
  refine gF 18 (gF 18 ?_)
  refine p1 (Au rfl (by conv=>lhs;whnf)) ?_
  refine Ac (t_n ?_)
  refine c_f rfl ?_
  refine A8 (t_e (t_e (Bq ?_)))
  refine t_n (aK (z) ⟨rfl,trivial⟩ ?_)
  exact⟨hWcut0,hz0⟩
 rintro z Gcut0 w1 ⟨hE1,hz0⟩
 have hX:=hX.ext hE1
 refine t_n (Ab (Ab ?_))
 have hWr6:=Ext.refl w1
 refine Dn (ι:=Unit) [33,34,35,36,37,38,39] (fun _=>[(39,.bool (decide (20<n∨4000<z)))]) (fun _ w'=>Ext w1 w') ?_ ?_
 ·skip
  refine Aa ?_
  refine pM ?_
  refine p1 (Ar u40 rfl) ?_
  refine p1 (Cw rfl rfl) ?_
  refine p1b (Af (by conv=>lhs;whnf)) (fun hb6_3=>?_) (fun hb6_3=>?_)
  ·try simp only[dA,dB,dC,dD,dE,dF,dG,Int.not_lt,Int.not_le] at hb6_3
   refine gF 36 (gF 36 ?_)
   refine p1 (Ax rfl (by conv=>lhs;whnf)) ?_
   refine Ac ?_
   refine t_n (aK () ⟨congrArg Value.bool (by exact(decide_eq_true (by omega)).symm),trivial⟩ hWr6)
  try simp only[dA,dB,dC,dD,dE,dF,dG,Int.not_lt,Int.not_le] at hb6_3
  refine gM 36 ?_
  refine g1 36 rfl rfl (Cw rfl rfl) ?_
  refine p1 (Au rfl (by conv=>lhs;whnf)) ?_
  refine Ac ?_
  refine t_n (aK () ⟨congrArg Value.bool (by exact decide_eq_decide.2 (by omega)),trivial⟩ hWr6)
 rintro _ Gr6 w3 hE3
 have hX:=hX.ext hE3
 refine t_n ?_
 refine As rfl (fun hc39=>?_) (fun hc39=>?_)
 ·try simp only[dA,dB,dC,dD,dE,dF,dG,Int.not_lt,Int.not_le] at hc39
  refine Ab (Aa ?_)
  refine oC Tryz.func11 (Afk _ (hg.ext hX)) ?_
  rintro v4 w4 ⟨rfl,hE4⟩
  have hX:=hX.ext hE4
  refine pA (Ac (t_n (Ao (t_r ?_))))
  refine eR1 ?_
  exact⟨rfl,hX⟩
 try simp only[dA,dB,dC,dD,dE,dF,dG,Int.not_lt,Int.not_le] at hc39
 refine Ak (t_n (Ab (Aa ?_)))
 refine pM ?_
 have hXs1:=hX.size
 refine oC Tryz.func13 (U8 mo _) ?_
 rintro v5 w5 ⟨⟨gd,rfl,hD⟩,hE5⟩
 have hX:=hX.ext hE5
 have hD:Dsk (since w) _ gd (newD mo):=hD.mono (fun k _ h=>h.elim False.elim fun q=>Nat.le_trans hXs1 q.1)
 refine pM ?_
 refine oC Tryz.func17 (Ac3 mo _) ?_
 rintro v6 w6 ⟨⟨cs0,rfl,pr,nr,cr,lfr,rfl,hlr,hlfr⟩,hE6⟩
 have hX:=hX.ext hE6
 have hD:=hD.ext hE6
 have hXs10:=hX.size
 refine Ay zr45 ?_
 intro w7 g10 hN10
 have hE7:=hN10.ext
 have hX:=hX.ext hE7
 have hD:=hD.ext hE7
 have hlr:=hlr.ext hE7
 have hB10:=hN10.blk
 refine pA ?_
 have hg10w:w.heap.size≤g10:=by rw[hN10.g_eq];exact hXs10
 refine Al rfl (by conv=>lhs;whnf) (by simp[Value.oneCell']) (by exact sz45) hB10 (by rfl) ?_
 intro w8 hP8
 have hX:=hX.put hP8 (hg10w)
 have hD:=hD.one hP8.one (by decide)
 have hlr:=hlr.mod (hP8.mod 0 (Nat.zero_le _)) (Nat.zero_le _) (by decide)
 have hB10:=hP8.blk
 refine Ac (t_n (Ab (Ab (Aa ?_))))
 refine pA (Ac (t_n (Ap ?_)))
 refine Bc (ι:=Nat×DS×Option Addr×Nat×Nat×Int) ([11]++rg 45 68) (fun (k,D,pr,nr,cr,lfr)=>[(11,.int .i64 (k:Int))]) (fun (k,D,pr,nr,cr,lfr) w'=>Ext w w'∧(k≤n∧Good D (3 * k)∧Dsk (since w) w' gd D∧Blk w' g10 #[.int .i64 (D.most:Int),.slice pr nr cr,.int .i64 (D.steps:Int),.bool (decide (0≤D.left)),.int .i64 lfr,.bool D.done,.bool D.down] 45∧Sl kFl 119 0 w' pr nr cr D.l∧LfOk D lfr)) (fun (k,D,pr,nr,cr,lfr)=>n - k) ((0,newD mo,pr,nr,cr,lfr)) ⟨rfl,trivial⟩ ⟨hX,Nat.zero_le _,Uw mo,hD,hB10,hlr,hlfr⟩ ?_
 rintro⟨k,D,pr,nr,cr,lfr⟩ GL2 w9 ⟨hE9,hk,hG,hD,hB10,hlr,hlfr⟩
 have hX:=hE9
 refine Ab (Ab (Aa ?_))
 refine pM (pM ?_)
 refine p1 (Ar u40 rfl) ?_
 refine p1 (Bi rfl rfl) ?_
 refine Ac (t_n ?_)
 refine As rfl (fun hc48=>?_) (fun hc48=>?_)
 ·try simp only[dA,dB,dC,dD,dE,dF,dG,Int.not_lt,Int.not_le] at hc48
  refine Ak (t_n (Ab (Ap (Ab ?_))))
  obtain⟨q1,m1,c1,hra,hr1,hz1⟩:=hl.fiAt k (by omega)
  obtain⟨nm,hnm⟩:∃ z,z=(fs.getD k default).nm:=⟨_,rfl⟩
  obtain⟨dt,hdt⟩:∃ z,z=(fs.getD k default).data:=⟨_,rfl⟩
  rw[← hnm] at hra hz1
  rw[← hdt] at hr1
  refine Aa ?_
  refine pM (pM (pM ?_))
  refine p1 (Cs u40 sz42 rfl rfl ((hl.ext hX).adr Gi (by omega)) (by omega) (by omega)) ?_
  refine p1 (Ad Ms sz9 rfl) ?_
  refine p1 (Ae un9 rfl (hX.cell (hra 0 _ rfl))) ?_
  have hXs:=hX.size
  refine oC Tryz.func18 (Ji gd (since w) D _ hD hG.ok (Nat.lt_of_le_of_lt hG.steps (by omega)) hG.left nm hz1) ?_
  rintro v10 w10 ⟨rfl,hD2,hM2⟩
  have hD:Dsk (since w) w10 gd (A9 D nm).1:=hD2.all (Ep w) hXs
  have hX:=hX.modS hM2 (Ep w)
  have hB10:=hB10.modS hM2 (.inr (by decide))
  have hlr:=hlr.modS hM2 (fun _ _=>Nat.zero_le _) (by decide)
  have hGDa:=hG.create nm
  obtain⟨Da,hDa⟩:∃ d,d=(A9 D nm).1:=⟨_,rfl⟩
  rw[← hDa] at hD hGDa
  refine Ac (t_n (Ab ?_))
  refine Bj (fun _ w2=>Ext w w2) mixed ?_
  intro w11 hE11
  have hX:=hX.ext hE11
  have hD:=hD.ext hE11
  have hB10:=hB10.ext hE11
  have hlr:=hlr.ext hE11
  have hSr13:(fun _ w2=>Ext w w2) w11 w11:=hX
  refine hT 0 rfl hSr13 (fun wS hSS=>by(exact(Af (by conv=>lhs;whnf)))) ?_
  refine hT 1 rfl hSr13 (fun wS hSS=>by(exact(Af (by conv=>lhs;whnf)))) ?_
  refine hT 2 rfl hSr13 (fun wS hSS=>by(exact(Af (by conv=>lhs;whnf)))) ?_
  refine hT 3 rfl hSr13 (fun wS hSS=>by(exact(Cs u40 sz42 rfl rfl ((hl.ext hX).adr Gi (by omega)) (by omega) (by omega)))) ?_
  refine hT 4 rfl hSr13 (fun wS hSS=>by(exact(Ad Ms sz9 rfl))) ?_
  refine hT 5 rfl hSr13 (fun wS hSS=>by(have hX:=hSS;exact(Ae un9 rfl (hX.cell (hra 0 _ rfl))))) ?_
  refine hT 6 rfl hSr13 (fun wS hSS=>by(exact(Af (by conv=>lhs;whnf)))) ?_
  refine hT 7 rfl hSr13 (fun wS hSS=>by(exact(Af (by conv=>lhs;whnf)))) ?_
  refine hT 8 rfl hSr13 (fun wS hSS=>by(exact(Cs u40 sz42 rfl rfl ((hl.ext hX).adr Gi (by omega)) (by omega) (by omega)))) ?_
  refine hT 9 rfl hSr13 (fun wS hSS=>by(exact(Ad Ww sz23 rfl))) ?_
  refine hT 10 rfl hSr13 (fun wS hSS=>by(have hX:=hSS;exact(Ae un23 rfl (hX.cell (hra 1 _ rfl))))) ?_
  refine h1L 11 (fun Q11 hQ11=>?_)
  have hXs:=hX.size
  refine oC Tryz.func19 (Jj gd (since w) Da _ hD hGDa.ok (Nat.lt_of_le_of_lt hGDa.steps (by omega)) hGDa.left nm hz1 5 w.heap.size q1 m1 c1 dt ((hr1.ext hX).sl5)) ?_
  rintro v12 w12 ⟨rfl,hD2,hM2⟩
  have hD:Dsk (since w) w12 gd (Bm Da nm dt).1:=hD2.all (Ep w) hXs
  have hX:=hX.modS hM2 (Ep w)
  have hB10:=hB10.modS hM2 (.inr (by decide))
  have hlr:=hlr.modS hM2 (fun _ _=>Nat.zero_le _) (by decide)
  have hGDb:=hGDa.append nm dt
  obtain⟨Db,hDb⟩:∃ d,d=(Bm Da nm dt).1:=⟨_,rfl⟩
  rw[← hDb] at hD hGDb
  have hSr13:=hX
  refine An hQ11 ⟨hSr13,?_⟩
  refine A7 (by kernel_rfl) ?_
  refine t_n (Ab (Aa ?_))
  refine pM (pM (pM ?_))
  refine p1 (Cs u40 sz42 rfl rfl ((hl.ext hX).adr Gi (by omega)) (by omega) (by omega)) ?_
  refine p1 (Ad Ms sz9 rfl) ?_
  refine p1 (Ae un9 rfl (hX.cell (hra 0 _ rfl))) ?_
  have hXs:=hX.size
  refine oC Tryz.func20 (Mx gd (since w) Db _ hD hGDb.ok (Nat.lt_of_le_of_lt hGDb.steps (by omega)) hGDb.left nm hz1) ?_
  rintro v13 w13 ⟨rfl,hD2,hM2⟩
  have hD:Dsk (since w) w13 gd (syncD Db nm).1:=hD2.all (Ep w) hXs
  have hX:=hX.modS hM2 (Ep w)
  have hB10:=hB10.modS hM2 (.inr (by decide))
  have hlr:=hlr.modS hM2 (fun _ _=>Nat.zero_le _) (by decide)
  have hGDc:=hGDb.sync nm
  obtain⟨Dc,hDc⟩:∃ d,d=(syncD Db nm).1:=⟨_,rfl⟩
  rw[← hDc] at hD hGDc
  refine Ac (t_n (Ab ?_))
  refine Bj (fun _ w2=>Ext w w2) mixed ?_
  intro w14 hE14
  have hX:=hX.ext hE14
  have hD:=hD.ext hE14
  have hB10:=hB10.ext hE14
  have hlr:=hlr.ext hE14
  have hSr15:(fun _ w2=>Ext w w2) w14 w14:=hX
  refine hT 1 rfl hSr15 (fun wS hSS=>by(exact(Af (by conv=>lhs;whnf)))) ?_
  refine hT 2 rfl hSr15 (fun wS hSS=>by(exact(Af (by conv=>lhs;whnf)))) ?_
  refine hT 3 rfl hSr15 (fun wS hSS=>by(exact(Cs u40 sz42 rfl rfl ((hl.ext hX).adr Gi (by omega)) (by omega) (by omega)))) ?_
  refine hT 4 rfl hSr15 (fun wS hSS=>by(exact(Ad Ms sz9 rfl))) ?_
  refine hT 5 rfl hSr15 (fun wS hSS=>by(have hX:=hSS;exact(Ae un9 rfl (hX.cell (hra 0 _ rfl))))) ?_
  refine h1L 0 (fun Q0 hQ0=>?_)
  refine p1 (Aq ua45 rfl hB10 (by exact sz45)) ?_
  refine An hQ0 ⟨hSr15,?_⟩
  refine h1L 6 (fun Q6 hQ6=>?_)
  refine oC Tryz.func21 (Ig D pr nr cr lfr _ hlr hlfr hG.ok (Nat.lt_of_le_of_lt hG.steps (by omega)) nm hz1) ?_
  rintro v15 w15 ⟨⟨cs1,rfl,pp1,n1,c1,lf1,rfl,hl1,hlf1⟩,hE15⟩
  have hX:=hX.ext hE15
  have hD:=hD.ext hE15
  have hB10:=hB10.ext hE15
  have hSr15:=hSr15.ext hE15
  rw[← hDa] at hl1 hlf1
  rw[← hDa]
  refine An hQ6 ⟨hSr15,?_⟩
  refine hT 7 rfl hSr15 (fun wS hSS=>by(exact(Af (by conv=>lhs;whnf)))) ?_
  refine hT 8 rfl hSr15 (fun wS hSS=>by(exact(Aj rfl rfl))) ?_
  refine hT 9 rfl hSr15 (fun wS hSS=>by(exact(Aj rfl rfl))) ?_
  refine h1L 10 (fun Q10 hQ10=>?_)
  refine Al rfl (by conv=>lhs;whnf) (by simp[Value.oneCell']) (by exact sz45) hB10 (by rfl) ?_
  intro w16 hP16
  have hX:=hX.put hP16 (hg10w)
  have hD:=hD.one hP16.one (by decide)
  have hB10:=hP16.blk
  have hSr15:=hSr15.put hP16 hg10w
  have hl1:=hl1.mod (hP16.mod 0 (Nat.zero_le _)) (Nat.zero_le _) (by decide)
  refine An hQ10 ⟨hSr15,?_⟩
  refine A7 (by kernel_rfl) ?_
  refine t_n (Ab ?_)
  refine Bj (fun _ w2=>Ext w w2) mixed ?_
  intro w17 hE17
  have hX:=hX.ext hE17
  have hD:=hD.ext hE17
  have hB10:=hB10.ext hE17
  have hl1:=hl1.ext hE17
  have hSr16:(fun _ w2=>Ext w w2) w17 w17:=hX
  refine hT 1 rfl hSr16 (fun wS hSS=>by(exact(Af (by conv=>lhs;whnf)))) ?_
  refine hT 2 rfl hSr16 (fun wS hSS=>by(exact(Af (by conv=>lhs;whnf)))) ?_
  refine hT 3 rfl hSr16 (fun wS hSS=>by(exact(Cs u40 sz42 rfl rfl ((hl.ext hX).adr Gi (by omega)) (by omega) (by omega)))) ?_
  refine hT 4 rfl hSr16 (fun wS hSS=>by(exact(Ad Ms sz9 rfl))) ?_
  refine hT 5 rfl hSr16 (fun wS hSS=>by(have hX:=hSS;exact(Ae un9 rfl (hX.cell (hra 0 _ rfl))))) ?_
  refine hT 6 rfl hSr16 (fun wS hSS=>by(exact(Af (by conv=>lhs;whnf)))) ?_
  refine hT 7 rfl hSr16 (fun wS hSS=>by(exact(Af (by conv=>lhs;whnf)))) ?_
  refine hT 8 rfl hSr16 (fun wS hSS=>by(exact(Cs u40 sz42 rfl rfl ((hl.ext hX).adr Gi (by omega)) (by omega) (by omega)))) ?_
  refine hT 9 rfl hSr16 (fun wS hSS=>by(exact(Ad Ww sz23 rfl))) ?_
  refine hT 10 rfl hSr16 (fun wS hSS=>by(have hX:=hSS;exact(Ae un23 rfl (hX.cell (hra 1 _ rfl))))) ?_
  refine hT 11 rfl hSr16 (fun wS hSS=>by(have hX:=hSS;exact(Cg u23 u5 u9 rfl ((hr1.ext hX).sl5)))) ?_
  refine h1L 0 (fun Q0 hQ0=>?_)
  refine p1 (Aq ua45 rfl hB10 (by exact sz45)) ?_
  refine An hQ0 ⟨hSr16,?_⟩
  refine h1L 12 (fun Q12 hQ12=>?_)
  refine oC Tryz.func22 (O5 Da pp1 n1 c1 lf1 _ hl1 hlf1 hGDa.ok (Nat.lt_of_le_of_lt hGDa.steps (by omega)) nm hz1 dt) ?_
  rintro v18 w18 ⟨⟨cs2,rfl,pp2,n2,c2,lf2,rfl,hl2,hlf2⟩,hE18⟩
  have hX:=hX.ext hE18
  have hD:=hD.ext hE18
  have hB10:=hB10.ext hE18
  have hSr16:=hSr16.ext hE18
  rw[← hDb] at hl2 hlf2
  rw[← hDb]
  refine An hQ12 ⟨hSr16,?_⟩
  refine hT 13 rfl hSr16 (fun wS hSS=>by(exact(Af (by conv=>lhs;whnf)))) ?_
  refine hT 14 rfl hSr16 (fun wS hSS=>by(exact(Aj rfl rfl))) ?_
  refine hT 15 rfl hSr16 (fun wS hSS=>by(exact(Aj rfl rfl))) ?_
  refine h1L 16 (fun Q16 hQ16=>?_)
  refine Al rfl (by conv=>lhs;whnf) (by simp[Value.oneCell']) (by exact sz45) hB10 (by rfl) ?_
  intro w19 hP19
  have hX:=hX.put hP19 (hg10w)
  have hD:=hD.one hP19.one (by decide)
  have hB10:=hP19.blk
  have hSr16:=hSr16.put hP19 hg10w
  have hl2:=hl2.mod (hP19.mod 0 (Nat.zero_le _)) (Nat.zero_le _) (by decide)
  refine An hQ16 ⟨hSr16,?_⟩
  refine A7 (by kernel_rfl) ?_
  refine t_n ?_
  refine Bj (fun _ w2=>Ext w w2) mixed ?_
  intro w20 hE20
  have hX:=hX.ext hE20
  have hD:=hD.ext hE20
  have hB10:=hB10.ext hE20
  have hl2:=hl2.ext hE20
  have hSr17:(fun _ w2=>Ext w w2) w20 w20:=hX
  refine hT 1 rfl hSr17 (fun wS hSS=>by(exact(Af (by conv=>lhs;whnf)))) ?_
  refine hT 2 rfl hSr17 (fun wS hSS=>by(exact(Af (by conv=>lhs;whnf)))) ?_
  refine hT 3 rfl hSr17 (fun wS hSS=>by(exact(Cs u40 sz42 rfl rfl ((hl.ext hX).adr Gi (by omega)) (by omega) (by omega)))) ?_
  refine hT 4 rfl hSr17 (fun wS hSS=>by(exact(Ad Ms sz9 rfl))) ?_
  refine hT 5 rfl hSr17 (fun wS hSS=>by(have hX:=hSS;exact(Ae un9 rfl (hX.cell (hra 0 _ rfl))))) ?_
  refine h1L 0 (fun Q0 hQ0=>?_)
  refine p1 (Aq ua45 rfl hB10 (by exact sz45)) ?_
  refine An hQ0 ⟨hSr17,?_⟩
  refine h1L 6 (fun Q6 hQ6=>?_)
  refine oC Tryz.func23 (T4 Db pp2 n2 c2 lf2 _ hl2 hlf2 hGDb.ok (Nat.lt_of_le_of_lt hGDb.steps (by omega)) nm hz1) ?_
  rintro v21 w21 ⟨⟨cs3,rfl,pp3,n3,c3,lf3,rfl,hl3,hlf3⟩,hE21⟩
  have hX:=hX.ext hE21
  have hD:=hD.ext hE21
  have hB10:=hB10.ext hE21
  have hSr17:=hSr17.ext hE21
  rw[← hDc] at hl3 hlf3
  rw[← hDc]
  refine An hQ6 ⟨hSr17,?_⟩
  refine hT 7 rfl hSr17 (fun wS hSS=>by(exact(Af (by conv=>lhs;whnf)))) ?_
  refine hT 8 rfl hSr17 (fun wS hSS=>by(exact(Aj rfl rfl))) ?_
  refine hT 9 rfl hSr17 (fun wS hSS=>by(exact(Aj rfl rfl))) ?_
  refine h1L 10 (fun Q10 hQ10=>?_)
  refine Al rfl (by conv=>lhs;whnf) (by simp[Value.oneCell']) (by exact sz45) hB10 (by rfl) ?_
  intro w22 hP22
  have hX:=hX.put hP22 (hg10w)
  have hD:=hD.one hP22.one (by decide)
  have hB10:=hP22.blk
  have hSr17:=hSr17.put hP22 hg10w
  have hl3:=hl3.mod (hP22.mod 0 (Nat.zero_le _)) (Nat.zero_le _) (by decide)
  refine An hQ10 ⟨hSr17,?_⟩
  refine A7 (by kernel_rfl) ?_
  refine b_n (t_n (Aa ?_))
  refine pM ?_
  refine p1 ((A0 rfl rfl (Am (by omega) (by omega))).cast (congrArg (Value.int .i64) (by omega:_=((k+1:Nat):Int)))) ?_
  refine pA (Ac ?_)
  refine t_n (aK ((k+1,Dc,pp3,n3,c3,lf3)) ⟨rfl,trivial⟩ ?_)
  exact⟨⟨hX,by omega,hGDc.mono (by omega),hD,hB10,hl3,hlf3⟩,by(dsimp only;omega)⟩
 try simp only[dA,dB,dC,dD,dE,dF,dG,Int.not_lt,Int.not_le] at hc48
 refine A8 (t_e (t_e (Bq (t_n (Ab (Ab (Aa ?_)))))))
 refine pM ?_
 refine p1 (Cw rfl rfl) ?_
 refine Ac (t_n ?_)
 refine Dn (ι:=DS×Option Addr×Nat×Nat×Int) (rg 115 11) (fun (D4,pr,nr,cr,lfr)=>[]) (fun (D4,pr,nr,cr,lfr) w'=>Ext w w'∧(Dsk (since w) w' gd D4∧Good D4 61∧Blk w' g10 #[.int .i64 (D4.most:Int),.slice pr nr cr,.int .i64 (D4.steps:Int),.bool (decide (0≤D4.left)),.int .i64 lfr,.bool D4.done,.bool D4.down] 45∧Sl kFl 119 0 w' pr nr cr D4.l∧LfOk D4 lfr)) ?_ ?_
 ·skip
  refine As rfl (fun hc114=>?_) (fun hc114=>?_)
  ·try simp only[dA,dB,dC,dD,dE,dF,dG,Int.not_lt,Int.not_le] at hc114
   obtain⟨nf,hnf⟩:∃ x,x=nn % 20:=⟨_,rfl⟩
   have hnf0:0≤nf:=by omega
   have hnf1:nf≤19:=by omega
   refine Ab (Aa ?_)
   refine pM (pM ?_)
   refine p1 ((Kl rfl rfl (by omega) (by omega)).cast (congrArg (Value.int .i64) hnf.symm)) ?_
   have hXs:=hX.size
   refine oC Tryz.func24 (Zh gd (since w) D _ hD hG.ok (Nat.lt_of_le_of_lt hG.steps (by omega)) hG.left nf (by omega) (by omega) true) ?_
   rintro v24 w24 ⟨rfl,hD2,hM2⟩
   have hD:Dsk (since w) w24 gd (failD D nf true).1:=hD2.all (Ep w) hXs
   have hX:=hX.modS hM2 (Ep w)
   have hB10:=hB10.modS hM2 (.inr (by decide))
   have hlr:=hlr.modS hM2 (fun _ _=>Nat.zero_le _) (by decide)
   have hGDf:=Zc hG nf true (by omega)
   obtain⟨Df,hDf⟩:∃ d,d=(failD D nf true).1:=⟨_,rfl⟩
   rw[← hDf] at hD hGDf
   refine Ac (t_n (Aa ?_))
   refine p1 (Aq ua45 rfl hB10 (by exact sz45)) ?_
   refine pM ?_
   refine p1 ((Kl rfl rfl (by omega) (by omega)).cast (congrArg (Value.int .i64) hnf.symm)) ?_
   refine oC Tryz.func25 (Aak D pr nr cr lfr _ hlr hlfr hG.ok (Nat.lt_of_le_of_lt hG.steps (by omega)) nf (by omega) (by omega) true) ?_
   rintro v25 w25 ⟨⟨cs4,rfl,pp4,n4,c4,lf4,rfl,hl4,hlf4⟩,hE25⟩
   have hX:=hX.ext hE25
   have hD:=hD.ext hE25
   have hB10:=hB10.ext hE25
   rw[← hDf] at hl4 hlf4
   rw[← hDf]
   refine pM ?_
   refine p1 (Aj rfl rfl) ?_
   refine p1 (Aj rfl rfl) ?_
   refine Al rfl (by conv=>lhs;whnf) (by simp[Value.oneCell']) (by exact sz45) hB10 (by rfl) ?_
   intro w26 hP26
   have hX:=hX.put hP26 (hg10w)
   have hD:=hD.one hP26.one (by decide)
   have hB10:=hP26.blk
   have hl4:=hl4.mod (hP26.mod 0 (Nat.zero_le _)) (Nat.zero_le _) (by decide)
   refine Ac ?_
   exact t_n (aK ((Df,pp4,n4,c4,lf4)) trivial ⟨hX,hD,hGDf.mono (by omega),hB10,hl4,hlf4⟩)
  try simp only[dA,dB,dC,dD,dE,dF,dG,Int.not_lt,Int.not_le] at hc114
  refine Ak ?_
  exact t_n (aK ((D,pr,nr,cr,lfr)) trivial ⟨hX,hD,hG.mono (by omega),hB10,hlr,hlfr⟩)
 rintro⟨D4,pr,nr,cr,lfr⟩ Gcutif114 w23 ⟨hE23,hD,hG4,hB10,hlr,hlfr⟩
 have hX:=hE23
 refine t_n (Ab (Aa ?_))
 refine pM ?_
 refine p1 (Aq ua45 rfl hB10 (by exact sz45)) ?_
 have hXs:=hX.size
 refine oC Tryz.func26 (Sx gd (since w) D4 61 _ hD hG4 (by omega) (fun j h=>Nat.le_trans hgs h) (hg.ext hX) pr nr cr lfr hlr hlfr) ?_
 rintro v27 w27 ⟨⟨po,pp5,nn5,cc5,lf5,sg,sz,pi,ni,ci,pL,nL,cL,rfl,hl5,hlf5,hSt,hR⟩,hM27⟩
 have hX:=hX.modS hM27 (Ep w)
 obtain⟨C5,hC5⟩:∃ c,c=(openC D4).1:=⟨_,rfl⟩
 obtain⟨e5,he5⟩:∃ e,e=(openC D4).2:=⟨_,rfl⟩
 have hcn5:CN C5 130:=by rw[hC5];exact Aau hG4
 have hnx5:C5.next=none:=by rw[hC5];exact Pd
 rw[← hC5,← he5] at hSt hR
 rw[← hC5] at hl5 hlf5
 rw[← hC5,← he5]
 refine pM ?_
 refine p1 (Aj rfl rfl) ?_
 refine p1 (Aj rfl rfl) ?_
 have hXs12:=hX.size
 refine Ay zr58 ?_
 intro w28 g12 hN12
 have hE28:=hN12.ext
 have hX:=hX.ext hE28
 have hl5:=hl5.ext hE28
 have hSt:=hSt.ext hE28
 have hR:=hR.ext hE28
 have hB12:=hN12.blk
 refine Al rfl (by conv=>lhs;whnf) (by simp[Value.oneCell']) (by exact sz58) hB12 (by rfl) ?_
 intro w29 hP29
 have hX:=hX.put hP29 (by rw[hN12.g_eq];exact hXs12)
 have hl5:=hl5.mod (hP29.mod 0 (Nat.zero_le _)) (Nat.zero_le _) (by decide)
 have hSt:=hSt.modT (hP29.mod 0 (Nat.zero_le _)) (by decide)
 have hR:=hR.mod (hP29.mod 0 (Nat.zero_le _)) (Nat.zero_le _) (by decide)
 have hB12:=hP29.blk
 refine pA (Ac (t_n (Ab (Aa ?_))))
 refine pM (pM ?_)
 refine g1 133 rfl rfl (Aq ua58 rfl hB12 (by exact sz58)) ?_
 refine Cd 133 rfl rfl ?_
 refine oC Tryz.func27 (Wo gd 130 _ C5 e5 po pp5 nn5 cc5 lf5 sg sz pi ni ci pL nL cL _ hSt hcn5 (by omega) hnx5 hl5 hlf5 hR) ?_
 rintro v30 w30 ⟨rfl,hE30⟩
 have hX:=hX.ext hE30
 refine p1 (Ax rfl (by conv=>lhs;whnf)) ?_
 refine pM ?_
 refine Cd 137 rfl rfl ?_
 refine oC Tryz.func11 (Afk _ (hg.ext hX)) ?_
 rintro v31 w31 ⟨rfl,hE31⟩
 have hX:=hX.ext hE31
 refine p1 (Ax rfl (by conv=>lhs;whnf)) ?_
 refine pA (Ac (t_n (Ao ?_)))
 refine eR1 ?_
 exact⟨rfl,hX⟩
end Go.Proofs.Eng
end
