import Derived.Test.YtlmfpocifkpggaaGreatDoorCr4
set_option linter.unusedVariables false
set_option linter.unusedSimpArgs false
set_option linter.unusedSectionVars false
section
set_option maxRecDepth 100000
set_option maxHeartbeats 4000000
namespace Go.Proofs.Eng
open Go.RowKit
open Extern.Stop (cell)
theorem Sh (g gd r:Nat) (S Sd:Nat→Prop) (μ:Hash→Option R3) (pi nx:Option Addr) (ni ci:Nat) (C:CS) (k:Nat) (w:World) (hCX:CstX S Sd w g gd r μ pi ni ci nx C) (hn:CN C k) (hS:∀ j,S j→6≤j) (hg:Gt w) (hk:k<4611686018427300000) (st:Bool) :
    Ret Tryz.prog 57 [.pointer (some ⟨g,0,none⟩),.int .i64 20,.bool st] w (fun v w'=>v = .int .i64 (undoC C 20 st).2∧Cst (grow S w w') w' g gd (undoC C 20 st).1∧ModS S EC w w'):=by
 have hgs:=hg.size
 have hsg:=hCX.sg
 have hGd:=hn.good
 have hhi:=hn.hi
 have hsz:=hn.sz
 have hCX:=hCX.start
 have hb:=hCX.b
 have hX:=ModS.refl S EC w
 refine eN 98 Tryz.func57 ?_
 refine Ab (Aa ?_)
 refine pA (Ac (t_n (Ab (Ab (Aa ?_)))))
 refine pM ?_
 refine p1 ((A2 rfl rfl).cast (congrArg Value.bool (decide_eq_false (by simp)))) ?_
 refine Ac (t_n ?_)
 refine c_f (rfl) ?_
 refine Ai (t_n (Ab (Am (Ab (Aa ?_)))))
 refine pM ?_
 refine p1 ((Bn rfl rfl).cast (congrArg Value.bool (decide_eq_true rfl))) ?_
 refine pA (Ac (t_n ?_))
 refine c_t rfl ?_
 refine Aa ?_
 refine pM ?_
 refine p1 (Af rfl) ?_
 refine p1 (Ad Fo sz4 rfl) ?_
 refine Ar rfl (by conv=>lhs;whnf) rfl rfl sz4 hb (by show _<7;omega) ?_
 intro w1 hP1
 have hX:=hX.put hP1 (⟨.inl hsg,by decide⟩)
 have hb:=hP1.blk
 try simp only[List.setIfInBounds_toArray,List.set_cons_zero,List.set_cons_succ] at hb
 have hCY:=CstX.laid (C':={ ({ C with D:=_ }:CS) with dead:=true }) hCX hP1 rfl rfl (hCX.i.one hP1.one (by decide)) (.inl ⟨rfl,rfl⟩)
 refine Ac (b_n (t_n (Ab (Aa ?_))))
 refine pM (pA (Ac (t_n (Ak ?_))))
 refine eR1 ?_
 rw[Ki];exact⟨rfl,hCY.done,hX⟩
theorem Nc (g gd r:Nat) (S Sd:Nat→Prop) (μ:Hash→Option R3) (pi nx:Option Addr) (ni ci:Nat) (C:CS) (k:Nat) (w:World) (hCX:CstX S Sd w g gd r μ pi ni ci nx C) (hn:CN C k) (hS:∀ j,S j→6≤j) (hg:Gt w) (hk:k<4611686018427300000) (e:Int) (hne:e≠20) :
    Ret Tryz.prog 57 [.pointer (some ⟨g,0,none⟩),.int .i64 e,.bool true] w (fun v w'=>v = .int .i64 (undoC C e true).2∧Cst (grow S w w') w' g gd (undoC C e true).1∧ModS S EC w w'):=by
 have hgs:=hg.size
 have hsg:=hCX.sg
 have hGd:=hn.good
 have hhi:=hn.hi
 have hsz:=hn.sz
 have hCX:=hCX.start
 have hb:=hCX.b
 have hX:=ModS.refl S EC w
 refine eN 98 Tryz.func57 ?_
 refine Ab (Aa ?_)
 refine pA ?_
 refine Ac (t_n (Ab (Ab (Aa ?_))))
 refine pM ?_
 refine p1 (A2 rfl rfl) ?_
 refine Ac (t_n ?_)
 refine As rfl (fun hc11=>?_) (fun hc11=>?_)
 ·try simp only[dA,dB,dC,dD,dE,dF,dG,Int.not_lt,Int.not_le] at hc11
  refine Ab (Ab ?_)
  refine B7 (fun w1 w2=>Ext w1 w2) mixed ?_
  intro w1 hE1
  have hX:=hX.ext hE1
  have hCX:=hCX.ext hE1
  have hb:=hb.ext hE1
  have hg:=hg.ext hE1
  have hSr2:(fun w1 w2=>Ext w1 w2) w1 w1:=Ext.refl w1
  refine hT 0 rfl hSr2 (fun wS hSS=>by(exact(Al (by conv=>lhs;whnf)))) ?_
  refine hT 1 rfl hSr2 (fun wS hSS=>by(exact(Af rfl))) ?_
  refine hT 2 rfl hSr2 (fun wS hSS=>by(exact(Ad Cr sz34 rfl))) ?_
  refine hT 3 rfl hSr2 (fun wS hSS=>by(have hb:=hb.ext hSS;exact(Ae un34 rfl (hb.cell (rfl))))) ?_
  refine hT 4 rfl hSr2 (fun wS hSS=>by(exact(Al (by conv=>lhs;whnf)))) ?_
  refine hT 5 rfl hSr2 (fun wS hSS=>by(exact(Af rfl))) ?_
  refine hT 6 rfl hSr2 (fun wS hSS=>by(exact(Ad Ch sz3 rfl))) ?_
  refine hT 7 rfl hSr2 (fun wS hSS=>by(have hb:=hb.ext hSS;exact(Ae un3 rfl (hb.cell (rfl))))) ?_
  refine h1L 8 (fun Q8 hQ8=>?_)
  refine Ah Tryz.func49 fn49 fb49 (A3 (C.seg:Int) _ hg.l) rfl ?_
  rintro v2 w2 ⟨rfl,hE2⟩
  have hX:=hX.ext hE2
  have hCX:=hCX.ext hE2
  have hb:=hb.ext hE2
  have hg:=hg.ext hE2
  have hSr2:=hSr2.ext hE2
  refine An hQ8 ⟨hSr2,?_⟩
  refine h1L 9 (fun Q9 hQ9=>?_)
  refine Ah Tryz.func37 fn37 fb37 (J9 gd _ C.D _ hCX.d hn.good.ok (nSeg C.seg) (Ci _)) rfl ?_
  rintro v3 w3 ⟨⟨qb,nb,cb,rfl,hO⟩,hE3⟩
  have hX:=hX.ext hE3
  have hCX:=hCX.ext hE3
  have hb:=hb.ext hE3
  have hg:=hg.ext hE3
  have hSr2:=hSr2.ext hE3
  have hOl:=hO.len
  have hOc:=hO.sl.cap
  have hOf:=hO.sl.fit
  refine An hQ9 ⟨hSr2,?_⟩
  refine hT 10 rfl hSr2 (fun wS hSS=>by(exact(Al (by conv=>lhs;whnf)))) ?_
  refine hT 11 rfl hSr2 (fun wS hSS=>by(exact(Ao rfl rfl))) ?_
  refine hT 12 rfl hSr2 (fun wS hSS=>by(exact(Ao rfl rfl))) ?_
  refine hT 13 rfl hSr2 (fun wS hSS=>by(exact(Ax (by conv=>lhs;whnf)))) ?_
  refine hT 14 rfl hSr2 (fun wS hSS=>by(exact(Ax (by conv=>lhs;whnf)))) ?_
  refine Bm (by kernel_rfl) ?_
  refine t_n (Ab (Aa ?_))
  refine pM ?_
  refine p1 (Aj u23 rfl) ?_
  refine pM ?_
  refine p1 (Af rfl) ?_
  refine p1 (Ad D6 sz3 rfl) ?_
  refine p1 (Ae un3 rfl (hb.cell (rfl))) ?_
  refine p1 (C0 rfl rfl) ?_
  refine Ac (t_n ?_)
  refine As rfl (fun hc31=>?_) (fun hc31=>?_)
  ·try simp only[dA,dB,dC,dD,dE,dF,dG,Int.not_lt,Int.not_le] at hc31
   have hlt:=(by omega:C.size<(readD C.D (nSeg C.seg)).1.length)
   refine Ab ?_
   refine B7 (fun w1 w2=>ModS (fun _=>True) ED w1 w2) mixed ?_
   intro w4 hE4
   have hX:=hX.ext hE4
   have hCX:=hCX.ext hE4
   have hb:=hb.ext hE4
   have hg:=hg.ext hE4
   have hSr4:(fun w1 w2=>ModS (fun _=>True) ED w1 w2) w4 w4:=ModS.refl (fun _=>True) ED _
   refine hT 0 rfl hSr4 (fun wS hSS=>by(exact(Al (by conv=>lhs;whnf)))) ?_
   refine hT 1 rfl hSr4 (fun wS hSS=>by(exact(Af rfl))) ?_
   refine hT 2 rfl hSr4 (fun wS hSS=>by(exact(Ad Cr sz34 rfl))) ?_
   refine hT 3 rfl hSr4 (fun wS hSS=>by(have hb:=hb.modS hSS (.inr (by decide));exact(Ae un34 rfl (hb.cell (rfl))))) ?_
   refine hT 4 rfl hSr4 (fun wS hSS=>by(exact(Al (by conv=>lhs;whnf)))) ?_
   refine hT 5 rfl hSr4 (fun wS hSS=>by(exact(Af rfl))) ?_
   refine hT 6 rfl hSr4 (fun wS hSS=>by(exact(Ad Ch sz3 rfl))) ?_
   refine hT 7 rfl hSr4 (fun wS hSS=>by(have hb:=hb.modS hSS (.inr (by decide));exact(Ae un3 rfl (hb.cell (rfl))))) ?_
   refine hT 9 rfl hSr4 (fun wS hSS=>by(exact(Al (by conv=>lhs;whnf)))) ?_
   refine hT 10 rfl hSr4 (fun wS hSS=>by(exact(Af rfl))) ?_
   refine hT 11 rfl hSr4 (fun wS hSS=>by(exact(Ad D6 sz3 rfl))) ?_
   refine hT 12 rfl hSr4 (fun wS hSS=>by(have hb:=hb.modS hSS (.inr (by decide));exact(Ae un3 rfl (hb.cell (rfl))))) ?_
   refine h1L 8 (fun Q8 hQ8=>?_)
   refine Ah Tryz.func49 fn49 fb49 (A3 (C.seg:Int) _ hg.l) rfl ?_
   rintro v5 w5 ⟨rfl,hE5⟩
   have hX:=hX.ext hE5
   have hCX:=hCX.ext hE5
   have hb:=hb.ext hE5
   have hg:=hg.ext hE5
   have hSr4:=hSr4.ext hE5
   refine An hQ8 ⟨hSr4,?_⟩
   refine h1L 13 (fun Q13 hQ13=>?_)
   have hXs:=hX.size
   refine Ah Tryz.func94 fn94 fb94 (Pz gd _ _ _ hCX.d hGd.ok (Nat.lt_of_le_of_lt hGd.steps (by omega)) hGd.left (nSeg C.seg) (Ci _) (C.size:Int) (by omega) (by omega)) rfl ?_
   rintro v6 w6 ⟨rfl,hD2,hM2⟩
   have hX:=hX.stepE hM2 (Db hCX)
   have hg:=hg.modS hM2 (fun k hk=>(hCX.sub k hk).elim (hS k) fun q=>Nat.le_trans hgs q)
   have hCX:=hCX.stepD hXs hM2 hD2
   have hb:Blk w6 g (stoV gd C pi ni ci r nx) tSto:=hCX.b
   have hGd:=Iw hGd (nSeg C.seg) (C.size:Int)
   have hSr4:=hSr4.trans (hM2.mono fun _ _ _=>trivial) (fun _ _ h=>h)
   refine An hQ13 ⟨hSr4,?_⟩
   refine hT 14 rfl hSr4 (fun wS hSS=>by(exact(A2 rfl rfl))) ?_
   refine Bm (by kernel_rfl) ?_
   refine t_n ?_
   refine As rfl (fun hc46=>?_) (fun hc46=>?_)
   ·try simp only[dA,dB,dC,dD,dE,dF,dG,Int.not_lt,Int.not_le] at hc46
    have hq:=Cx hne (X1 (step:=true) hlt hc46) hc46
    refine Aa ?_
    refine pA ?_
    refine Ac (t_n (Ab (Ab (Aa ?_))))
    refine pM ?_
    refine p1 ((A2 rfl rfl).cast (congrArg Value.bool (decide_eq_false (by simp)))) ?_
    refine pM ?_
    refine gF 49 ?_
    refine gF 49 ?_
    refine p1 (Aq rfl (by conv=>lhs;whnf)) ?_
    refine pM ?_
    refine gF 53 ?_
    refine gF 53 ?_
    refine gF 53 ?_
    refine gF 53 ?_
    refine gF 53 ?_
    refine gF 53 ?_
    refine p1 (Aq rfl (by conv=>lhs;whnf)) ?_
    refine Ac (t_n ?_)
    refine c_f rfl ?_
    try have hU3:=Hc hU (hbz.1 hb6_6) (by omega)
    refine Ai (t_n (Ab (Aa ?_)))
    refine pM ?_
    refine p1 (Af rfl) ?_
    refine p1 (Ad Ch sz3 rfl) ?_
    refine p1 (Ae un3 rfl (hb.cell (rfl))) ?_
    refine p1 ((Aw rfl rfl (Ag (by omega) (by omega))).cast (congrArg (Value.int .i64) (by omega:_=((C.seg+1:Nat):Int)))) ?_
    refine Ah Tryz.func49 fn49 fb49 (A3 ((C.seg+1:Nat):Int) _ hg.l) rfl ?_
    rintro v7 w7 ⟨rfl,hE7⟩
    have hX:=hX.ext hE7
    have hCX:=hCX.ext hE7
    have hb:=hb.ext hE7
    have hg:=hg.ext hE7
    refine pA ?_
    refine Ac (t_n (Ab (Aa ?_)))
    refine pM ?_
    refine p1 ((A2 rfl rfl).cast (congrArg Value.bool (decide_eq_false (by simp)))) ?_
    refine pM ?_
    refine gF 69 ?_
    refine p1 (Aq rfl (by conv=>lhs;whnf)) ?_
    refine pM ?_
    refine gF 72 ?_
    refine gF 72 ?_
    refine gF 72 ?_
    refine p1 (Aq rfl (by conv=>lhs;whnf)) ?_
    refine pM ?_
    refine gF 77 ?_
    refine gF 77 ?_
    refine gF 77 ?_
    refine gF 77 ?_
    refine gF 77 ?_
    refine gF 77 ?_
    refine gF 77 ?_
    refine p1 (Aq rfl (by conv=>lhs;whnf)) ?_
    refine Ac (t_n ?_)
    refine c_f rfl ?_
    try have hq:=A5 hne (Dt hU3 (hbz2.1 hb9_10)) (by omega)
    refine Ai (t_n (Ab (Am (Ab (Aa ?_)))))
    refine pM ?_
    refine p1 ((Bn rfl rfl).cast (congrArg Value.bool (decide_eq_true rfl))) ?_
    refine pA ?_
    refine Ac (t_n ?_)
    refine c_t rfl ?_
    refine Aa ?_
    refine pM ?_
    refine p1 (Af rfl) ?_
    refine p1 (Ad Fo sz4 rfl) ?_
    refine Ar rfl (by conv=>lhs;whnf) rfl rfl sz4 hb (by show _<7;omega) ?_
    intro w8 hP8
    have hX:=hX.put hP8 (⟨.inl hsg,by decide⟩)
    have hb:=hP8.blk
    try simp only[List.setIfInBounds_toArray,List.set_cons_zero,List.set_cons_succ] at hb
    have hCY:=CstX.laid (C':={ ({ C with D:=_ }:CS) with dead:=true }) hCX hP8 rfl rfl (hCX.i.one hP8.one (by decide)) (.inl ⟨rfl,rfl⟩)
    refine Ac (b_n (t_n (Ab (Aa ?_))))
    refine pM ?_
    refine pA ?_
    refine Ac (t_n (Ak ?_))
    refine eR1 ?_
    (rw[hq];exact⟨rfl,hCY.done,hX⟩)
   try simp only[dA,dB,dC,dD,dE,dF,dG,Int.not_lt,Int.not_le] at hc46
   have hU:=Aav (step:=true) hlt (by omega)
   refine Ai (t_n (Ab (Ab (Aa ?_))))
   refine pM ?_
   refine p1 ((A2 rfl rfl).cast (congrArg Value.bool (decide_eq_true hne))) ?_
   refine pM ?_
   refine gM 49 ?_
   refine B8 49 rfl rfl ?_
   refine Ah Tryz.func105 fn105 fb105 (Dr g gd r _ _ μ pi nx ni ci _ _ hCX hGd.ok nNew) rfl ?_
   rintro v9 w9 ⟨⟨bz,rfl,hbz⟩,hE9⟩
   have hX:=hX.ext hE9
   have hCX:=hCX.ext hE9
   have hb:=hb.ext hE9
   have hg:=hg.ext hE9
   refine p1 (Ap rfl (by conv=>lhs;whnf)) ?_
   refine p1b (Al (by conv=>lhs;whnf)) (fun hb6_6=>?_) (fun hb6_6=>?_)
   ·try simp only[dA,dB,dC,dD,dE,dF,dG,Int.not_lt,Int.not_le] at hb6_6
    refine gM 53 ?_
    refine Eng.g1 53 rfl rfl (Af rfl) ?_
    refine Eng.g1 53 rfl rfl (Ad Cr sz34 rfl) ?_
    refine Eng.g1 53 rfl rfl (Ae un34 rfl (hb.cell (rfl))) ?_
    refine B8 53 rfl rfl ?_
    have hXs:=hX.size
    refine Ah Tryz.func95 fn95 fb95 (Cu gd _ _ _ hCX.d hGd.ok (Nat.lt_of_le_of_lt hGd.steps (by omega)) hGd.left nNew (by decide)) rfl ?_
    rintro v10 w10 ⟨rfl,hD2,hM2⟩
    have hX:=hX.stepE hM2 (Db hCX)
    have hg:=hg.modS hM2 (fun k hk=>(hCX.sub k hk).elim (hS k) fun q=>Nat.le_trans hgs q)
    have hCX:=hCX.stepD hXs hM2 hD2
    have hb:Blk w10 g (stoV gd C pi ni ci r nx) tSto:=hCX.b
    have hGd:=Co hGd nNew
    refine Eng.g1 53 rfl rfl (A2 rfl rfl) ?_
    refine p1 (Ap rfl (by conv=>lhs;whnf)) ?_
    refine Ac (t_n ?_)
    refine As rfl (fun hc60=>?_) (fun hc60=>?_)
    ·try simp only[dA,dB,dC,dD,dE,dF,dG,Int.not_lt,Int.not_le] at hc60
     have hq:=Cx hne (Nl hU (hbz.1 hb6_6) hc60) hc60
     refine Aa ?_
     refine pA ?_
     refine Ac (t_n (Ab (Aa ?_)))
     refine pM ?_
     refine p1 (Af rfl) ?_
     refine p1 (Ad Ch sz3 rfl) ?_
     refine p1 (Ae un3 rfl (hb.cell (rfl))) ?_
     refine p1 ((Aw rfl rfl (Ag (by omega) (by omega))).cast (congrArg (Value.int .i64) (by omega:_=((C.seg+1:Nat):Int)))) ?_
     refine Ah Tryz.func49 fn49 fb49 (A3 ((C.seg+1:Nat):Int) _ hg.l) rfl ?_
     rintro v11 w11 ⟨rfl,hE11⟩
     have hX:=hX.ext hE11
     have hCX:=hCX.ext hE11
     have hb:=hb.ext hE11
     have hg:=hg.ext hE11
     refine pA ?_
     refine Ac (t_n (Ab (Aa ?_)))
     refine pM ?_
     refine p1 ((A2 rfl rfl).cast (congrArg Value.bool (decide_eq_false (by simp)))) ?_
     refine pM ?_
     refine gF 69 ?_
     refine p1 (Aq rfl (by conv=>lhs;whnf)) ?_
     refine pM ?_
     refine gF 72 ?_
     refine gF 72 ?_
     refine gF 72 ?_
     refine p1 (Aq rfl (by conv=>lhs;whnf)) ?_
     refine pM ?_
     refine gF 77 ?_
     refine gF 77 ?_
     refine gF 77 ?_
     refine gF 77 ?_
     refine gF 77 ?_
     refine gF 77 ?_
     refine gF 77 ?_
     refine p1 (Aq rfl (by conv=>lhs;whnf)) ?_
     refine Ac (t_n ?_)
     refine c_f rfl ?_
     try have hq:=A5 hne (Dt hU3 (hbz2.1 hb9_10)) (by omega)
     refine Ai (t_n (Ab (Am (Ab (Aa ?_)))))
     refine pM ?_
     refine p1 ((Bn rfl rfl).cast (congrArg Value.bool (decide_eq_true rfl))) ?_
     refine pA ?_
     refine Ac (t_n ?_)
     refine c_t rfl ?_
     refine Aa ?_
     refine pM ?_
     refine p1 (Af rfl) ?_
     refine p1 (Ad Fo sz4 rfl) ?_
     refine Ar rfl (by conv=>lhs;whnf) rfl rfl sz4 hb (by show _<7;omega) ?_
     intro w12 hP12
     have hX:=hX.put hP12 (⟨.inl hsg,by decide⟩)
     have hb:=hP12.blk
     try simp only[List.setIfInBounds_toArray,List.set_cons_zero,List.set_cons_succ] at hb
     have hCY:=CstX.laid (C':={ ({ C with D:=_ }:CS) with dead:=true }) hCX hP12 rfl rfl (hCX.i.one hP12.one (by decide)) (.inl ⟨rfl,rfl⟩)
     refine Ac (b_n (t_n (Ab (Aa ?_))))
     refine pM ?_
     refine pA ?_
     refine Ac (t_n (Ak ?_))
     refine eR1 ?_
     (rw[hq];exact⟨rfl,hCY.done,hX⟩)
    try simp only[dA,dB,dC,dD,dE,dF,dG,Int.not_lt,Int.not_le] at hc60
    try have hU3:=Hc hU (hbz.1 hb6_6) (by omega)
    refine Ai (t_n (Ab (Aa ?_)))
    refine pM ?_
    refine p1 (Af rfl) ?_
    refine p1 (Ad Ch sz3 rfl) ?_
    refine p1 (Ae un3 rfl (hb.cell (rfl))) ?_
    refine p1 ((Aw rfl rfl (Ag (by omega) (by omega))).cast (congrArg (Value.int .i64) (by omega:_=((C.seg+1:Nat):Int)))) ?_
    refine Ah Tryz.func49 fn49 fb49 (A3 ((C.seg+1:Nat):Int) _ hg.l) rfl ?_
    rintro v13 w13 ⟨rfl,hE13⟩
    have hX:=hX.ext hE13
    have hCX:=hCX.ext hE13
    have hb:=hb.ext hE13
    have hg:=hg.ext hE13
    refine pA ?_
    refine Ac (t_n (Ab (Aa ?_)))
    refine pM ?_
    refine p1 ((A2 rfl rfl).cast (congrArg Value.bool (decide_eq_true hne))) ?_
    refine pM ?_
    refine gM 69 ?_
    refine p1 (Ap rfl (by conv=>lhs;whnf)) ?_
    refine pM ?_
    refine gM 72 ?_
    refine gM 72 ?_
    refine B8 72 rfl rfl ?_
    refine Ah Tryz.func105 fn105 fb105 (Dr g gd r _ _ μ pi nx ni ci _ _ hCX hGd.ok (nSeg (C.seg+1))) rfl ?_
    rintro v14 w14 ⟨⟨bz2,rfl,hbz2⟩,hE14⟩
    have hX:=hX.ext hE14
    have hCX:=hCX.ext hE14
    have hb:=hb.ext hE14
    have hg:=hg.ext hE14
    refine p1 (Ap rfl (by conv=>lhs;whnf)) ?_
    refine p1b (Al (by conv=>lhs;whnf)) (fun hb9_10=>?_) (fun hb9_10=>?_)
    ·try simp only[dA,dB,dC,dD,dE,dF,dG,Int.not_lt,Int.not_le] at hb9_10
     refine gM 77 ?_
     refine Eng.g1 77 rfl rfl (Af rfl) ?_
     refine Eng.g1 77 rfl rfl (Ad Cr sz34 rfl) ?_
     refine Eng.g1 77 rfl rfl (Ae un34 rfl (hb.cell (rfl))) ?_
     refine gM 77 ?_
     refine B8 77 rfl rfl ?_
     have hXs:=hX.size
     refine Ah Tryz.func95 fn95 fb95 (Cu gd _ _ _ hCX.d hGd.ok (Nat.lt_of_le_of_lt hGd.steps (by omega)) hGd.left (nSeg (C.seg+1)) (Ci _)) rfl ?_
     rintro v15 w15 ⟨rfl,hD2,hM2⟩
     have hX:=hX.stepE hM2 (Db hCX)
     have hg:=hg.modS hM2 (fun k hk=>(hCX.sub k hk).elim (hS k) fun q=>Nat.le_trans hgs q)
     have hCX:=hCX.stepD hXs hM2 hD2
     have hb:Blk w15 g (stoV gd C pi ni ci r nx) tSto:=hCX.b
     have hGd:=Co hGd (nSeg (C.seg+1))
     refine Eng.g1 77 rfl rfl (A2 rfl rfl) ?_
     refine p1 (Ap rfl (by conv=>lhs;whnf)) ?_
     refine Ac (t_n ?_)
     refine As rfl (fun hc85=>?_) (fun hc85=>?_)
     ·try simp only[dA,dB,dC,dD,dE,dF,dG,Int.not_lt,Int.not_le] at hc85
      have hq:=Cx hne (Dt hU3 (hbz2.1 hb9_10)) hc85
      refine Aa ?_
      refine pA ?_
      refine Ac (t_n (Ab (Am (Ab (Aa ?_)))))
      refine pM ?_
      refine p1 ((Bn rfl rfl).cast (congrArg Value.bool (decide_eq_true rfl))) ?_
      refine pA ?_
      refine Ac (t_n ?_)
      refine c_t rfl ?_
      refine Aa ?_
      refine pM ?_
      refine p1 (Af rfl) ?_
      refine p1 (Ad Fo sz4 rfl) ?_
      refine Ar rfl (by conv=>lhs;whnf) rfl rfl sz4 hb (by show _<7;omega) ?_
      intro w16 hP16
      have hX:=hX.put hP16 (⟨.inl hsg,by decide⟩)
      have hb:=hP16.blk
      try simp only[List.setIfInBounds_toArray,List.set_cons_zero,List.set_cons_succ] at hb
      have hCY:=CstX.laid (C':={ ({ C with D:=_ }:CS) with dead:=true }) hCX hP16 rfl rfl (hCX.i.one hP16.one (by decide)) (.inl ⟨rfl,rfl⟩)
      refine Ac (b_n (t_n (Ab (Aa ?_))))
      refine pM ?_
      refine pA ?_
      refine Ac (t_n (Ak ?_))
      refine eR1 ?_
      (rw[hq];exact⟨rfl,hCY.done,hX⟩)
     try simp only[dA,dB,dC,dD,dE,dF,dG,Int.not_lt,Int.not_le] at hc85
     try have hq:=A5 hne (Dt hU3 (hbz2.1 hb9_10)) (by omega)
     refine Ai (t_n (Ab (Am (Ab (Aa ?_)))))
     refine pM ?_
     refine p1 ((Bn rfl rfl).cast (congrArg Value.bool (decide_eq_false hne))) ?_
     refine pA ?_
     refine Ac (t_n ?_)
     refine c_f rfl ?_
     refine Ab (Aa ?_)
     refine pM ?_
     refine pA ?_
     refine Ac (t_n ?_)
     refine c_t (rfl) ?_
     refine Aa ?_
     refine pM ?_
     refine p1 (Af rfl) ?_
     refine p1 (Ad Dn sz89 rfl) ?_
     refine Ar rfl (by conv=>lhs;whnf) rfl rfl sz89 hb (by show _<7;omega) ?_
     intro w17 hP17
     have hX:=hX.put hP17 (⟨.inl hsg,by decide⟩)
     have hb:=hP17.blk
     try simp only[List.setIfInBounds_toArray,List.set_cons_zero,List.set_cons_succ] at hb
     have hCY:=CstX.laid (C':={ ({ C with D:=_ }:CS) with next:=none }) hCX hP17 rfl rfl (hCX.i.one hP17.one (by decide)) (.inr ⟨rfl,rfl⟩)
     refine Ac (b_n (t_n (Ab (Aa ?_))))
     refine pM ?_
     refine pA ?_
     refine Ac (t_n (Ak ?_))
     refine eR1 ?_
     (rw[hq];exact⟨rfl,hCY.done,hX⟩)
    try simp only[dA,dB,dC,dD,dE,dF,dG,Int.not_lt,Int.not_le] at hb9_10
    have hq:=A5 hne (Sj hU3 (fun h=>by have:=hbz2.2 h;simp_all)) rfl
    refine gF 77 ?_
    refine gF 77 ?_
    refine gF 77 ?_
    refine gF 77 ?_
    refine gF 77 ?_
    refine gF 77 ?_
    refine gF 77 ?_
    refine p1 (Aq rfl (by conv=>lhs;whnf)) ?_
    refine Ac (t_n ?_)
    refine c_f rfl ?_
    try have hq:=A5 hne (Dt hU3 (hbz2.1 hb9_10)) (by omega)
    refine Ai (t_n (Ab (Am (Ab (Aa ?_)))))
    refine pM ?_
    refine p1 ((Bn rfl rfl).cast (congrArg Value.bool (decide_eq_false hne))) ?_
    refine pA ?_
    refine Ac (t_n ?_)
    refine c_f rfl ?_
    refine Ab (Aa ?_)
    refine pM ?_
    refine pA ?_
    refine Ac (t_n ?_)
    refine c_t (rfl) ?_
    refine Aa ?_
    refine pM ?_
    refine p1 (Af rfl) ?_
    refine p1 (Ad Dn sz89 rfl) ?_
    refine Ar rfl (by conv=>lhs;whnf) rfl rfl sz89 hb (by show _<7;omega) ?_
    intro w18 hP18
    have hX:=hX.put hP18 (⟨.inl hsg,by decide⟩)
    have hb:=hP18.blk
    try simp only[List.setIfInBounds_toArray,List.set_cons_zero,List.set_cons_succ] at hb
    have hCY:=CstX.laid (C':={ ({ C with D:=_ }:CS) with next:=none }) hCX hP18 rfl rfl (hCX.i.one hP18.one (by decide)) (.inr ⟨rfl,rfl⟩)
    refine Ac (b_n (t_n (Ab (Aa ?_))))
    refine pM ?_
    refine pA ?_
    refine Ac (t_n (Ak ?_))
    refine eR1 ?_
    (rw[hq];exact⟨rfl,hCY.done,hX⟩)
   try simp only[dA,dB,dC,dD,dE,dF,dG,Int.not_lt,Int.not_le] at hb6_6
   have hU3:=Sk hU (fun h=>by have:=hbz.2 h;simp_all)
   refine gF 53 ?_
   refine gF 53 ?_
   refine gF 53 ?_
   refine gF 53 ?_
   refine gF 53 ?_
   refine gF 53 ?_
   refine p1 (Aq rfl (by conv=>lhs;whnf)) ?_
   refine Ac (t_n ?_)
   refine c_f rfl ?_
   try have hU3:=Hc hU (hbz.1 hb6_6) (by omega)
   refine Ai (t_n (Ab (Aa ?_)))
   refine pM ?_
   refine p1 (Af rfl) ?_
   refine p1 (Ad Ch sz3 rfl) ?_
   refine p1 (Ae un3 rfl (hb.cell (rfl))) ?_
   refine p1 ((Aw rfl rfl (Ag (by omega) (by omega))).cast (congrArg (Value.int .i64) (by omega:_=((C.seg+1:Nat):Int)))) ?_
   refine Ah Tryz.func49 fn49 fb49 (A3 ((C.seg+1:Nat):Int) _ hg.l) rfl ?_
   rintro v19 w19 ⟨rfl,hE19⟩
   have hX:=hX.ext hE19
   have hCX:=hCX.ext hE19
   have hb:=hb.ext hE19
   have hg:=hg.ext hE19
   refine pA ?_
   refine Ac (t_n (Ab (Aa ?_)))
   refine pM ?_
   refine p1 ((A2 rfl rfl).cast (congrArg Value.bool (decide_eq_true hne))) ?_
   refine pM ?_
   refine gM 69 ?_
   refine p1 (Ap rfl (by conv=>lhs;whnf)) ?_
   refine pM ?_
   refine gM 72 ?_
   refine gM 72 ?_
   refine B8 72 rfl rfl ?_
   refine Ah Tryz.func105 fn105 fb105 (Dr g gd r _ _ μ pi nx ni ci _ _ hCX hGd.ok (nSeg (C.seg+1))) rfl ?_
   rintro v20 w20 ⟨⟨bz2,rfl,hbz2⟩,hE20⟩
   have hX:=hX.ext hE20
   have hCX:=hCX.ext hE20
   have hb:=hb.ext hE20
   have hg:=hg.ext hE20
   refine p1 (Ap rfl (by conv=>lhs;whnf)) ?_
   refine p1b (Al (by conv=>lhs;whnf)) (fun hb9_10=>?_) (fun hb9_10=>?_)
   ·try simp only[dA,dB,dC,dD,dE,dF,dG,Int.not_lt,Int.not_le] at hb9_10
    refine gM 77 ?_
    refine Eng.g1 77 rfl rfl (Af rfl) ?_
    refine Eng.g1 77 rfl rfl (Ad Cr sz34 rfl) ?_
    refine Eng.g1 77 rfl rfl (Ae un34 rfl (hb.cell (rfl))) ?_
    refine gM 77 ?_
    refine B8 77 rfl rfl ?_
    have hXs:=hX.size
    refine Ah Tryz.func95 fn95 fb95 (Cu gd _ _ _ hCX.d hGd.ok (Nat.lt_of_le_of_lt hGd.steps (by omega)) hGd.left (nSeg (C.seg+1)) (Ci _)) rfl ?_
    rintro v21 w21 ⟨rfl,hD2,hM2⟩
    have hX:=hX.stepE hM2 (Db hCX)
    have hg:=hg.modS hM2 (fun k hk=>(hCX.sub k hk).elim (hS k) fun q=>Nat.le_trans hgs q)
    have hCX:=hCX.stepD hXs hM2 hD2
    have hb:Blk w21 g (stoV gd C pi ni ci r nx) tSto:=hCX.b
    have hGd:=Co hGd (nSeg (C.seg+1))
    refine Eng.g1 77 rfl rfl (A2 rfl rfl) ?_
    refine p1 (Ap rfl (by conv=>lhs;whnf)) ?_
    refine Ac (t_n ?_)
    refine As rfl (fun hc85=>?_) (fun hc85=>?_)
    ·try simp only[dA,dB,dC,dD,dE,dF,dG,Int.not_lt,Int.not_le] at hc85
     have hq:=Cx hne (Dt hU3 (hbz2.1 hb9_10)) hc85
     refine Aa ?_
     refine pA ?_
     refine Ac (t_n (Ab (Am (Ab (Aa ?_)))))
     refine pM ?_
     refine p1 ((Bn rfl rfl).cast (congrArg Value.bool (decide_eq_true rfl))) ?_
     refine pA ?_
     refine Ac (t_n ?_)
     refine c_t rfl ?_
     refine Aa ?_
     refine pM ?_
     refine p1 (Af rfl) ?_
     refine p1 (Ad Fo sz4 rfl) ?_
     refine Ar rfl (by conv=>lhs;whnf) rfl rfl sz4 hb (by show _<7;omega) ?_
     intro w22 hP22
     have hX:=hX.put hP22 (⟨.inl hsg,by decide⟩)
     have hb:=hP22.blk
     try simp only[List.setIfInBounds_toArray,List.set_cons_zero,List.set_cons_succ] at hb
     have hCY:=CstX.laid (C':={ ({ C with D:=_ }:CS) with dead:=true }) hCX hP22 rfl rfl (hCX.i.one hP22.one (by decide)) (.inl ⟨rfl,rfl⟩)
     refine Ac (b_n (t_n (Ab (Aa ?_))))
     refine pM ?_
     refine pA ?_
     refine Ac (t_n (Ak ?_))
     refine eR1 ?_
     (rw[hq];exact⟨rfl,hCY.done,hX⟩)
    try simp only[dA,dB,dC,dD,dE,dF,dG,Int.not_lt,Int.not_le] at hc85
    try have hq:=A5 hne (Dt hU3 (hbz2.1 hb9_10)) (by omega)
    refine Ai (t_n (Ab (Am (Ab (Aa ?_)))))
    refine pM ?_
    refine p1 ((Bn rfl rfl).cast (congrArg Value.bool (decide_eq_false hne))) ?_
    refine pA ?_
    refine Ac (t_n ?_)
    refine c_f rfl ?_
    refine Ab (Aa ?_)
    refine pM ?_
    refine pA ?_
    refine Ac (t_n ?_)
    refine c_t (rfl) ?_
    refine Aa ?_
    refine pM ?_
    refine p1 (Af rfl) ?_
    refine p1 (Ad Dn sz89 rfl) ?_
    refine Ar rfl (by conv=>lhs;whnf) rfl rfl sz89 hb (by show _<7;omega) ?_
    intro w23 hP23
    have hX:=hX.put hP23 (⟨.inl hsg,by decide⟩)
    have hb:=hP23.blk
    try simp only[List.setIfInBounds_toArray,List.set_cons_zero,List.set_cons_succ] at hb
    have hCY:=CstX.laid (C':={ ({ C with D:=_ }:CS) with next:=none }) hCX hP23 rfl rfl (hCX.i.one hP23.one (by decide)) (.inr ⟨rfl,rfl⟩)
    refine Ac (b_n (t_n (Ab (Aa ?_))))
    refine pM ?_
    refine pA ?_
    refine Ac (t_n (Ak ?_))
    refine eR1 ?_
    (rw[hq];exact⟨rfl,hCY.done,hX⟩)
   try simp only[dA,dB,dC,dD,dE,dF,dG,Int.not_lt,Int.not_le] at hb9_10
   have hq:=A5 hne (Sj hU3 (fun h=>by have:=hbz2.2 h;simp_all)) rfl
   refine gF 77 ?_
   refine gF 77 ?_
   refine gF 77 ?_
   refine gF 77 ?_
   refine gF 77 ?_
   refine gF 77 ?_
   refine gF 77 ?_
   refine p1 (Aq rfl (by conv=>lhs;whnf)) ?_
   refine Ac (t_n ?_)
   refine c_f rfl ?_
   try have hq:=A5 hne (Dt hU3 (hbz2.1 hb9_10)) (by omega)
   refine Ai (t_n (Ab (Am (Ab (Aa ?_)))))
   refine pM ?_
   refine p1 ((Bn rfl rfl).cast (congrArg Value.bool (decide_eq_false hne))) ?_
   refine pA ?_
   refine Ac (t_n ?_)
   refine c_f rfl ?_
   refine Ab (Aa ?_)
   refine pM ?_
   refine pA ?_
   refine Ac (t_n ?_)
   refine c_t (rfl) ?_
   refine Aa ?_
   refine pM ?_
   refine p1 (Af rfl) ?_
   refine p1 (Ad Dn sz89 rfl) ?_
   refine Ar rfl (by conv=>lhs;whnf) rfl rfl sz89 hb (by show _<7;omega) ?_
   intro w24 hP24
   have hX:=hX.put hP24 (⟨.inl hsg,by decide⟩)
   have hb:=hP24.blk
   try simp only[List.setIfInBounds_toArray,List.set_cons_zero,List.set_cons_succ] at hb
   have hCY:=CstX.laid (C':={ ({ C with D:=_ }:CS) with next:=none }) hCX hP24 rfl rfl (hCX.i.one hP24.one (by decide)) (.inr ⟨rfl,rfl⟩)
   refine Ac (b_n (t_n (Ab (Aa ?_))))
   refine pM ?_
   refine pA ?_
   refine Ac (t_n (Ak ?_))
   refine eR1 ?_
   (rw[hq];exact⟨rfl,hCY.done,hX⟩)
  try simp only[dA,dB,dC,dD,dE,dF,dG,Int.not_lt,Int.not_le] at hc31
  have hU:=Aaw (D:=C.D) (seg:=C.seg) (size:=C.size) (step:=true) (by omega)
  refine Ai (t_n (Ab (Ab (Aa ?_))))
  refine pM ?_
  refine p1 ((A2 rfl rfl).cast (congrArg Value.bool (decide_eq_true hne))) ?_
  refine pM ?_
  refine gM 49 ?_
  refine B8 49 rfl rfl ?_
  refine Ah Tryz.func105 fn105 fb105 (Dr g gd r _ _ μ pi nx ni ci _ _ hCX hGd.ok nNew) rfl ?_
  rintro v25 w25 ⟨⟨bz,rfl,hbz⟩,hE25⟩
  have hX:=hX.ext hE25
  have hCX:=hCX.ext hE25
  have hb:=hb.ext hE25
  have hg:=hg.ext hE25
  refine p1 (Ap rfl (by conv=>lhs;whnf)) ?_
  refine p1b (Al (by conv=>lhs;whnf)) (fun hb6_6=>?_) (fun hb6_6=>?_)
  ·try simp only[dA,dB,dC,dD,dE,dF,dG,Int.not_lt,Int.not_le] at hb6_6
   refine gM 53 ?_
   refine Eng.g1 53 rfl rfl (Af rfl) ?_
   refine Eng.g1 53 rfl rfl (Ad Cr sz34 rfl) ?_
   refine Eng.g1 53 rfl rfl (Ae un34 rfl (hb.cell (rfl))) ?_
   refine B8 53 rfl rfl ?_
   have hXs:=hX.size
   refine Ah Tryz.func95 fn95 fb95 (Cu gd _ _ _ hCX.d hGd.ok (Nat.lt_of_le_of_lt hGd.steps (by omega)) hGd.left nNew (by decide)) rfl ?_
   rintro v26 w26 ⟨rfl,hD2,hM2⟩
   have hX:=hX.stepE hM2 (Db hCX)
   have hg:=hg.modS hM2 (fun k hk=>(hCX.sub k hk).elim (hS k) fun q=>Nat.le_trans hgs q)
   have hCX:=hCX.stepD hXs hM2 hD2
   have hb:Blk w26 g (stoV gd C pi ni ci r nx) tSto:=hCX.b
   have hGd:=Co hGd nNew
   refine Eng.g1 53 rfl rfl (A2 rfl rfl) ?_
   refine p1 (Ap rfl (by conv=>lhs;whnf)) ?_
   refine Ac (t_n ?_)
   refine As rfl (fun hc60=>?_) (fun hc60=>?_)
   ·try simp only[dA,dB,dC,dD,dE,dF,dG,Int.not_lt,Int.not_le] at hc60
    have hq:=Cx hne (Nl hU (hbz.1 hb6_6) hc60) hc60
    refine Aa ?_
    refine pA ?_
    refine Ac (t_n (Ab (Aa ?_)))
    refine pM ?_
    refine p1 (Af rfl) ?_
    refine p1 (Ad Ch sz3 rfl) ?_
    refine p1 (Ae un3 rfl (hb.cell (rfl))) ?_
    refine p1 ((Aw rfl rfl (Ag (by omega) (by omega))).cast (congrArg (Value.int .i64) (by omega:_=((C.seg+1:Nat):Int)))) ?_
    refine Ah Tryz.func49 fn49 fb49 (A3 ((C.seg+1:Nat):Int) _ hg.l) rfl ?_
    rintro v27 w27 ⟨rfl,hE27⟩
    have hX:=hX.ext hE27
    have hCX:=hCX.ext hE27
    have hb:=hb.ext hE27
    have hg:=hg.ext hE27
    refine pA ?_
    refine Ac (t_n (Ab (Aa ?_)))
    refine pM ?_
    refine p1 ((A2 rfl rfl).cast (congrArg Value.bool (decide_eq_false (by simp)))) ?_
    refine pM ?_
    refine gF 69 ?_
    refine p1 (Aq rfl (by conv=>lhs;whnf)) ?_
    refine pM ?_
    refine gF 72 ?_
    refine gF 72 ?_
    refine gF 72 ?_
    refine p1 (Aq rfl (by conv=>lhs;whnf)) ?_
    refine pM ?_
    refine gF 77 ?_
    refine gF 77 ?_
    refine gF 77 ?_
    refine gF 77 ?_
    refine gF 77 ?_
    refine gF 77 ?_
    refine gF 77 ?_
    refine p1 (Aq rfl (by conv=>lhs;whnf)) ?_
    refine Ac (t_n ?_)
    refine c_f rfl ?_
    try have hq:=A5 hne (Dt hU3 (hbz2.1 hb9_10)) (by omega)
    refine Ai (t_n (Ab (Am (Ab (Aa ?_)))))
    refine pM ?_
    refine p1 ((Bn rfl rfl).cast (congrArg Value.bool (decide_eq_true rfl))) ?_
    refine pA ?_
    refine Ac (t_n ?_)
    refine c_t rfl ?_
    refine Aa ?_
    refine pM ?_
    refine p1 (Af rfl) ?_
    refine p1 (Ad Fo sz4 rfl) ?_
    refine Ar rfl (by conv=>lhs;whnf) rfl rfl sz4 hb (by show _<7;omega) ?_
    intro w28 hP28
    have hX:=hX.put hP28 (⟨.inl hsg,by decide⟩)
    have hb:=hP28.blk
    try simp only[List.setIfInBounds_toArray,List.set_cons_zero,List.set_cons_succ] at hb
    have hCY:=CstX.laid (C':={ ({ C with D:=_ }:CS) with dead:=true }) hCX hP28 rfl rfl (hCX.i.one hP28.one (by decide)) (.inl ⟨rfl,rfl⟩)
    refine Ac (b_n (t_n (Ab (Aa ?_))))
    refine pM ?_
    refine pA ?_
    refine Ac (t_n (Ak ?_))
    refine eR1 ?_
    (rw[hq];exact⟨rfl,hCY.done,hX⟩)
   try simp only[dA,dB,dC,dD,dE,dF,dG,Int.not_lt,Int.not_le] at hc60
   try have hU3:=Hc hU (hbz.1 hb6_6) (by omega)
   refine Ai (t_n (Ab (Aa ?_)))
   refine pM ?_
   refine p1 (Af rfl) ?_
   refine p1 (Ad Ch sz3 rfl) ?_
   refine p1 (Ae un3 rfl (hb.cell (rfl))) ?_
   refine p1 ((Aw rfl rfl (Ag (by omega) (by omega))).cast (congrArg (Value.int .i64) (by omega:_=((C.seg+1:Nat):Int)))) ?_
   refine Ah Tryz.func49 fn49 fb49 (A3 ((C.seg+1:Nat):Int) _ hg.l) rfl ?_
   rintro v29 w29 ⟨rfl,hE29⟩
   have hX:=hX.ext hE29
   have hCX:=hCX.ext hE29
   have hb:=hb.ext hE29
   have hg:=hg.ext hE29
   refine pA ?_
   refine Ac (t_n (Ab (Aa ?_)))
   refine pM ?_
   refine p1 ((A2 rfl rfl).cast (congrArg Value.bool (decide_eq_true hne))) ?_
   refine pM ?_
   refine gM 69 ?_
   refine p1 (Ap rfl (by conv=>lhs;whnf)) ?_
   refine pM ?_
   refine gM 72 ?_
   refine gM 72 ?_
   refine B8 72 rfl rfl ?_
   refine Ah Tryz.func105 fn105 fb105 (Dr g gd r _ _ μ pi nx ni ci _ _ hCX hGd.ok (nSeg (C.seg+1))) rfl ?_
   rintro v30 w30 ⟨⟨bz2,rfl,hbz2⟩,hE30⟩
   have hX:=hX.ext hE30
   have hCX:=hCX.ext hE30
   have hb:=hb.ext hE30
   have hg:=hg.ext hE30
   refine p1 (Ap rfl (by conv=>lhs;whnf)) ?_
   refine p1b (Al (by conv=>lhs;whnf)) (fun hb9_10=>?_) (fun hb9_10=>?_)
   ·try simp only[dA,dB,dC,dD,dE,dF,dG,Int.not_lt,Int.not_le] at hb9_10
    refine gM 77 ?_
    refine Eng.g1 77 rfl rfl (Af rfl) ?_
    refine Eng.g1 77 rfl rfl (Ad Cr sz34 rfl) ?_
    refine Eng.g1 77 rfl rfl (Ae un34 rfl (hb.cell (rfl))) ?_
    refine gM 77 ?_
    refine B8 77 rfl rfl ?_
    have hXs:=hX.size
    refine Ah Tryz.func95 fn95 fb95 (Cu gd _ _ _ hCX.d hGd.ok (Nat.lt_of_le_of_lt hGd.steps (by omega)) hGd.left (nSeg (C.seg+1)) (Ci _)) rfl ?_
    rintro v31 w31 ⟨rfl,hD2,hM2⟩
    have hX:=hX.stepE hM2 (Db hCX)
    have hg:=hg.modS hM2 (fun k hk=>(hCX.sub k hk).elim (hS k) fun q=>Nat.le_trans hgs q)
    have hCX:=hCX.stepD hXs hM2 hD2
    have hb:Blk w31 g (stoV gd C pi ni ci r nx) tSto:=hCX.b
    have hGd:=Co hGd (nSeg (C.seg+1))
    refine Eng.g1 77 rfl rfl (A2 rfl rfl) ?_
    refine p1 (Ap rfl (by conv=>lhs;whnf)) ?_
    refine Ac (t_n ?_)
    refine As rfl (fun hc85=>?_) (fun hc85=>?_)
    ·try simp only[dA,dB,dC,dD,dE,dF,dG,Int.not_lt,Int.not_le] at hc85
     have hq:=Cx hne (Dt hU3 (hbz2.1 hb9_10)) hc85
     refine Aa ?_
     refine pA ?_
     refine Ac (t_n (Ab (Am (Ab (Aa ?_)))))
     refine pM ?_
     refine p1 ((Bn rfl rfl).cast (congrArg Value.bool (decide_eq_true rfl))) ?_
     refine pA ?_
     refine Ac (t_n ?_)
     refine c_t rfl ?_
     refine Aa ?_
     refine pM ?_
     refine p1 (Af rfl) ?_
     refine p1 (Ad Fo sz4 rfl) ?_
     refine Ar rfl (by conv=>lhs;whnf) rfl rfl sz4 hb (by show _<7;omega) ?_
     intro w32 hP32
     have hX:=hX.put hP32 (⟨.inl hsg,by decide⟩)
     have hb:=hP32.blk
     try simp only[List.setIfInBounds_toArray,List.set_cons_zero,List.set_cons_succ] at hb
     have hCY:=CstX.laid (C':={ ({ C with D:=_ }:CS) with dead:=true }) hCX hP32 rfl rfl (hCX.i.one hP32.one (by decide)) (.inl ⟨rfl,rfl⟩)
     refine Ac (b_n (t_n (Ab (Aa ?_))))
     refine pM ?_
     refine pA ?_
     refine Ac (t_n (Ak ?_))
     refine eR1 ?_
     (rw[hq];exact⟨rfl,hCY.done,hX⟩)
    try simp only[dA,dB,dC,dD,dE,dF,dG,Int.not_lt,Int.not_le] at hc85
    try have hq:=A5 hne (Dt hU3 (hbz2.1 hb9_10)) (by omega)
    refine Ai (t_n (Ab (Am (Ab (Aa ?_)))))
    refine pM ?_
    refine p1 ((Bn rfl rfl).cast (congrArg Value.bool (decide_eq_false hne))) ?_
    refine pA ?_
    refine Ac (t_n ?_)
    refine c_f rfl ?_
    refine Ab (Aa ?_)
    refine pM ?_
    refine pA ?_
    refine Ac (t_n ?_)
    refine c_t (rfl) ?_
    refine Aa ?_
    refine pM ?_
    refine p1 (Af rfl) ?_
    refine p1 (Ad Dn sz89 rfl) ?_
    refine Ar rfl (by conv=>lhs;whnf) rfl rfl sz89 hb (by show _<7;omega) ?_
    intro w33 hP33
    have hX:=hX.put hP33 (⟨.inl hsg,by decide⟩)
    have hb:=hP33.blk
    try simp only[List.setIfInBounds_toArray,List.set_cons_zero,List.set_cons_succ] at hb
    have hCY:=CstX.laid (C':={ ({ C with D:=_ }:CS) with next:=none }) hCX hP33 rfl rfl (hCX.i.one hP33.one (by decide)) (.inr ⟨rfl,rfl⟩)
    refine Ac (b_n (t_n (Ab (Aa ?_))))
    refine pM ?_
    refine pA ?_
    refine Ac (t_n (Ak ?_))
    refine eR1 ?_
    (rw[hq];exact⟨rfl,hCY.done,hX⟩)
   try simp only[dA,dB,dC,dD,dE,dF,dG,Int.not_lt,Int.not_le] at hb9_10
   have hq:=A5 hne (Sj hU3 (fun h=>by have:=hbz2.2 h;simp_all)) rfl
   refine gF 77 ?_
   refine gF 77 ?_
   refine gF 77 ?_
   refine gF 77 ?_
   refine gF 77 ?_
   refine gF 77 ?_
   refine gF 77 ?_
   refine p1 (Aq rfl (by conv=>lhs;whnf)) ?_
   refine Ac (t_n ?_)
   refine c_f rfl ?_
   try have hq:=A5 hne (Dt hU3 (hbz2.1 hb9_10)) (by omega)
   refine Ai (t_n (Ab (Am (Ab (Aa ?_)))))
   refine pM ?_
   refine p1 ((Bn rfl rfl).cast (congrArg Value.bool (decide_eq_false hne))) ?_
   refine pA ?_
   refine Ac (t_n ?_)
   refine c_f rfl ?_
   refine Ab (Aa ?_)
   refine pM ?_
   refine pA ?_
   refine Ac (t_n ?_)
   refine c_t (rfl) ?_
   refine Aa ?_
   refine pM ?_
   refine p1 (Af rfl) ?_
   refine p1 (Ad Dn sz89 rfl) ?_
   refine Ar rfl (by conv=>lhs;whnf) rfl rfl sz89 hb (by show _<7;omega) ?_
   intro w34 hP34
   have hX:=hX.put hP34 (⟨.inl hsg,by decide⟩)
   have hb:=hP34.blk
   try simp only[List.setIfInBounds_toArray,List.set_cons_zero,List.set_cons_succ] at hb
   have hCY:=CstX.laid (C':={ ({ C with D:=_ }:CS) with next:=none }) hCX hP34 rfl rfl (hCX.i.one hP34.one (by decide)) (.inr ⟨rfl,rfl⟩)
   refine Ac (b_n (t_n (Ab (Aa ?_))))
   refine pM ?_
   refine pA ?_
   refine Ac (t_n (Ak ?_))
   refine eR1 ?_
   (rw[hq];exact⟨rfl,hCY.done,hX⟩)
  try simp only[dA,dB,dC,dD,dE,dF,dG,Int.not_lt,Int.not_le] at hb6_6
  have hU3:=Sk hU (fun h=>by have:=hbz.2 h;simp_all)
  refine gF 53 ?_
  refine gF 53 ?_
  refine gF 53 ?_
  refine gF 53 ?_
  refine gF 53 ?_
  refine gF 53 ?_
  refine p1 (Aq rfl (by conv=>lhs;whnf)) ?_
  refine Ac (t_n ?_)
  refine c_f rfl ?_
  try have hU3:=Hc hU (hbz.1 hb6_6) (by omega)
  refine Ai (t_n (Ab (Aa ?_)))
  refine pM ?_
  refine p1 (Af rfl) ?_
  refine p1 (Ad Ch sz3 rfl) ?_
  refine p1 (Ae un3 rfl (hb.cell (rfl))) ?_
  refine p1 ((Aw rfl rfl (Ag (by omega) (by omega))).cast (congrArg (Value.int .i64) (by omega:_=((C.seg+1:Nat):Int)))) ?_
  refine Ah Tryz.func49 fn49 fb49 (A3 ((C.seg+1:Nat):Int) _ hg.l) rfl ?_
  rintro v35 w35 ⟨rfl,hE35⟩
  have hX:=hX.ext hE35
  have hCX:=hCX.ext hE35
  have hb:=hb.ext hE35
  have hg:=hg.ext hE35
  refine pA ?_
  refine Ac (t_n (Ab (Aa ?_)))
  refine pM ?_
  refine p1 ((A2 rfl rfl).cast (congrArg Value.bool (decide_eq_true hne))) ?_
  refine pM ?_
  refine gM 69 ?_
  refine p1 (Ap rfl (by conv=>lhs;whnf)) ?_
  refine pM ?_
  refine gM 72 ?_
  refine gM 72 ?_
  refine B8 72 rfl rfl ?_
  refine Ah Tryz.func105 fn105 fb105 (Dr g gd r _ _ μ pi nx ni ci _ _ hCX hGd.ok (nSeg (C.seg+1))) rfl ?_
  rintro v36 w36 ⟨⟨bz2,rfl,hbz2⟩,hE36⟩
  have hX:=hX.ext hE36
  have hCX:=hCX.ext hE36
  have hb:=hb.ext hE36
  have hg:=hg.ext hE36
  refine p1 (Ap rfl (by conv=>lhs;whnf)) ?_
  refine p1b (Al (by conv=>lhs;whnf)) (fun hb9_10=>?_) (fun hb9_10=>?_)
  ·try simp only[dA,dB,dC,dD,dE,dF,dG,Int.not_lt,Int.not_le] at hb9_10
   refine gM 77 ?_
   refine Eng.g1 77 rfl rfl (Af rfl) ?_
   refine Eng.g1 77 rfl rfl (Ad Cr sz34 rfl) ?_
   refine Eng.g1 77 rfl rfl (Ae un34 rfl (hb.cell (rfl))) ?_
   refine gM 77 ?_
   refine B8 77 rfl rfl ?_
   have hXs:=hX.size
   refine Ah Tryz.func95 fn95 fb95 (Cu gd _ _ _ hCX.d hGd.ok (Nat.lt_of_le_of_lt hGd.steps (by omega)) hGd.left (nSeg (C.seg+1)) (Ci _)) rfl ?_
   rintro v37 w37 ⟨rfl,hD2,hM2⟩
   have hX:=hX.stepE hM2 (Db hCX)
   have hg:=hg.modS hM2 (fun k hk=>(hCX.sub k hk).elim (hS k) fun q=>Nat.le_trans hgs q)
   have hCX:=hCX.stepD hXs hM2 hD2
   have hb:Blk w37 g (stoV gd C pi ni ci r nx) tSto:=hCX.b
   have hGd:=Co hGd (nSeg (C.seg+1))
   refine Eng.g1 77 rfl rfl (A2 rfl rfl) ?_
   refine p1 (Ap rfl (by conv=>lhs;whnf)) ?_
   refine Ac (t_n ?_)
   refine As rfl (fun hc85=>?_) (fun hc85=>?_)
   ·try simp only[dA,dB,dC,dD,dE,dF,dG,Int.not_lt,Int.not_le] at hc85
    have hq:=Cx hne (Dt hU3 (hbz2.1 hb9_10)) hc85
    refine Aa ?_
    refine pA ?_
    refine Ac (t_n (Ab (Am (Ab (Aa ?_)))))
    refine pM ?_
    refine p1 ((Bn rfl rfl).cast (congrArg Value.bool (decide_eq_true rfl))) ?_
    refine pA ?_
    refine Ac (t_n ?_)
    refine c_t rfl ?_
    refine Aa ?_
    refine pM ?_
    refine p1 (Af rfl) ?_
    refine p1 (Ad Fo sz4 rfl) ?_
    refine Ar rfl (by conv=>lhs;whnf) rfl rfl sz4 hb (by show _<7;omega) ?_
    intro w38 hP38
    have hX:=hX.put hP38 (⟨.inl hsg,by decide⟩)
    have hb:=hP38.blk
    try simp only[List.setIfInBounds_toArray,List.set_cons_zero,List.set_cons_succ] at hb
    have hCY:=CstX.laid (C':={ ({ C with D:=_ }:CS) with dead:=true }) hCX hP38 rfl rfl (hCX.i.one hP38.one (by decide)) (.inl ⟨rfl,rfl⟩)
    refine Ac (b_n (t_n (Ab (Aa ?_))))
    refine pM ?_
    refine pA ?_
    refine Ac (t_n (Ak ?_))
    refine eR1 ?_
    (rw[hq];exact⟨rfl,hCY.done,hX⟩)
   try simp only[dA,dB,dC,dD,dE,dF,dG,Int.not_lt,Int.not_le] at hc85
   try have hq:=A5 hne (Dt hU3 (hbz2.1 hb9_10)) (by omega)
   refine Ai (t_n (Ab (Am (Ab (Aa ?_)))))
   refine pM ?_
   refine p1 ((Bn rfl rfl).cast (congrArg Value.bool (decide_eq_false hne))) ?_
   refine pA ?_
   refine Ac (t_n ?_)
   refine c_f rfl ?_
   refine Ab (Aa ?_)
   refine pM ?_
   refine pA ?_
   refine Ac (t_n ?_)
   refine c_t (rfl) ?_
   refine Aa ?_
   refine pM ?_
   refine p1 (Af rfl) ?_
   refine p1 (Ad Dn sz89 rfl) ?_
   refine Ar rfl (by conv=>lhs;whnf) rfl rfl sz89 hb (by show _<7;omega) ?_
   intro w39 hP39
   have hX:=hX.put hP39 (⟨.inl hsg,by decide⟩)
   have hb:=hP39.blk
   try simp only[List.setIfInBounds_toArray,List.set_cons_zero,List.set_cons_succ] at hb
   have hCY:=CstX.laid (C':={ ({ C with D:=_ }:CS) with next:=none }) hCX hP39 rfl rfl (hCX.i.one hP39.one (by decide)) (.inr ⟨rfl,rfl⟩)
   refine Ac (b_n (t_n (Ab (Aa ?_))))
   refine pM ?_
   refine pA ?_
   refine Ac (t_n (Ak ?_))
   refine eR1 ?_
   (rw[hq];exact⟨rfl,hCY.done,hX⟩)
  try simp only[dA,dB,dC,dD,dE,dF,dG,Int.not_lt,Int.not_le] at hb9_10
  have hq:=A5 hne (Sj hU3 (fun h=>by have:=hbz2.2 h;simp_all)) rfl
  refine gF 77 ?_
  refine gF 77 ?_
  refine gF 77 ?_
  refine gF 77 ?_
  refine gF 77 ?_
  refine gF 77 ?_
  refine gF 77 ?_
  refine p1 (Aq rfl (by conv=>lhs;whnf)) ?_
  refine Ac (t_n ?_)
  refine c_f rfl ?_
  try have hq:=A5 hne (Dt hU3 (hbz2.1 hb9_10)) (by omega)
  refine Ai (t_n (Ab (Am (Ab (Aa ?_)))))
  refine pM ?_
  refine p1 ((Bn rfl rfl).cast (congrArg Value.bool (decide_eq_false hne))) ?_
  refine pA ?_
  refine Ac (t_n ?_)
  refine c_f rfl ?_
  refine Ab (Aa ?_)
  refine pM ?_
  refine pA ?_
  refine Ac (t_n ?_)
  refine c_t (rfl) ?_
  refine Aa ?_
  refine pM ?_
  refine p1 (Af rfl) ?_
  refine p1 (Ad Dn sz89 rfl) ?_
  refine Ar rfl (by conv=>lhs;whnf) rfl rfl sz89 hb (by show _<7;omega) ?_
  intro w40 hP40
  have hX:=hX.put hP40 (⟨.inl hsg,by decide⟩)
  have hb:=hP40.blk
  try simp only[List.setIfInBounds_toArray,List.set_cons_zero,List.set_cons_succ] at hb
  have hCY:=CstX.laid (C':={ ({ C with D:=_ }:CS) with next:=none }) hCX hP40 rfl rfl (hCX.i.one hP40.one (by decide)) (.inr ⟨rfl,rfl⟩)
  refine Ac (b_n (t_n (Ab (Aa ?_))))
  refine pM ?_
  refine pA ?_
  refine Ac (t_n (Ak ?_))
  refine eR1 ?_
  (rw[hq];exact⟨rfl,hCY.done,hX⟩)
 try simp only[dA,dB,dC,dD,dE,dF,dG,Int.not_lt,Int.not_le] at hc11
 exact absurd hc11 (by simpa using hne)
theorem L2 (g gd r:Nat) (S Sd:Nat→Prop) (μ:Hash→Option R3) (pi nx:Option Addr) (ni ci:Nat) (C:CS) (k:Nat) (w:World) (hCX:CstX S Sd w g gd r μ pi ni ci nx C) (hn:CN C k) (hS:∀ j,S j→6≤j) (hg:Gt w) (hk:k<4611686018427300000) (e:Int) (hne:e≠20) :
    Ret Tryz.prog 57 [.pointer (some ⟨g,0,none⟩),.int .i64 e,.bool false] w (fun v w'=>v = .int .i64 (undoC C e false).2∧Cst (grow S w w') w' g gd (undoC C e false).1∧ModS S EC w w'):=by
 have hgs:=hg.size
 have hsg:=hCX.sg
 have hGd:=hn.good
 have hhi:=hn.hi
 have hsz:=hn.sz
 have hCX:=hCX.start
 have hb:=hCX.b
 have hX:=ModS.refl S EC w
 refine eN 98 Tryz.func57 ?_
 refine Ab (Aa ?_)
 refine pA ?_
 refine Ac (t_n (Ab (Ab (Aa ?_))))
 refine pM ?_
 refine p1 (A2 rfl rfl) ?_
 refine Ac (t_n ?_)
 refine As rfl (fun hc11=>?_) (fun hc11=>?_)
 ·try simp only[dA,dB,dC,dD,dE,dF,dG,Int.not_lt,Int.not_le] at hc11
  refine Ab (Ab ?_)
  refine B7 (fun w1 w2=>Ext w1 w2) mixed ?_
  intro w1 hE1
  have hX:=hX.ext hE1
  have hCX:=hCX.ext hE1
  have hb:=hb.ext hE1
  have hg:=hg.ext hE1
  have hSr2:(fun w1 w2=>Ext w1 w2) w1 w1:=Ext.refl w1
  refine hT 0 rfl hSr2 (fun wS hSS=>by(exact(Al (by conv=>lhs;whnf)))) ?_
  refine hT 1 rfl hSr2 (fun wS hSS=>by(exact(Af rfl))) ?_
  refine hT 2 rfl hSr2 (fun wS hSS=>by(exact(Ad Cr sz34 rfl))) ?_
  refine hT 3 rfl hSr2 (fun wS hSS=>by(have hb:=hb.ext hSS;exact(Ae un34 rfl (hb.cell (rfl))))) ?_
  refine hT 4 rfl hSr2 (fun wS hSS=>by(exact(Al (by conv=>lhs;whnf)))) ?_
  refine hT 5 rfl hSr2 (fun wS hSS=>by(exact(Af rfl))) ?_
  refine hT 6 rfl hSr2 (fun wS hSS=>by(exact(Ad Ch sz3 rfl))) ?_
  refine hT 7 rfl hSr2 (fun wS hSS=>by(have hb:=hb.ext hSS;exact(Ae un3 rfl (hb.cell (rfl))))) ?_
  refine h1L 8 (fun Q8 hQ8=>?_)
  refine Ah Tryz.func49 fn49 fb49 (A3 (C.seg:Int) _ hg.l) rfl ?_
  rintro v2 w2 ⟨rfl,hE2⟩
  have hX:=hX.ext hE2
  have hCX:=hCX.ext hE2
  have hb:=hb.ext hE2
  have hg:=hg.ext hE2
  have hSr2:=hSr2.ext hE2
  refine An hQ8 ⟨hSr2,?_⟩
  refine h1L 9 (fun Q9 hQ9=>?_)
  refine Ah Tryz.func37 fn37 fb37 (J9 gd _ C.D _ hCX.d hn.good.ok (nSeg C.seg) (Ci _)) rfl ?_
  rintro v3 w3 ⟨⟨qb,nb,cb,rfl,hO⟩,hE3⟩
  have hX:=hX.ext hE3
  have hCX:=hCX.ext hE3
  have hb:=hb.ext hE3
  have hg:=hg.ext hE3
  have hSr2:=hSr2.ext hE3
  have hOl:=hO.len
  have hOc:=hO.sl.cap
  have hOf:=hO.sl.fit
  refine An hQ9 ⟨hSr2,?_⟩
  refine hT 10 rfl hSr2 (fun wS hSS=>by(exact(Al (by conv=>lhs;whnf)))) ?_
  refine hT 11 rfl hSr2 (fun wS hSS=>by(exact(Ao rfl rfl))) ?_
  refine hT 12 rfl hSr2 (fun wS hSS=>by(exact(Ao rfl rfl))) ?_
  refine hT 13 rfl hSr2 (fun wS hSS=>by(exact(Ax (by conv=>lhs;whnf)))) ?_
  refine hT 14 rfl hSr2 (fun wS hSS=>by(exact(Ax (by conv=>lhs;whnf)))) ?_
  refine Bm (by kernel_rfl) ?_
  refine t_n (Ab (Aa ?_))
  refine pM ?_
  refine p1 (Aj u23 rfl) ?_
  refine pM ?_
  refine p1 (Af rfl) ?_
  refine p1 (Ad D6 sz3 rfl) ?_
  refine p1 (Ae un3 rfl (hb.cell (rfl))) ?_
  refine p1 (C0 rfl rfl) ?_
  refine Ac (t_n ?_)
  refine As rfl (fun hc31=>?_) (fun hc31=>?_)
  ·try simp only[dA,dB,dC,dD,dE,dF,dG,Int.not_lt,Int.not_le] at hc31
   have hlt:=(by omega:C.size<(readD C.D (nSeg C.seg)).1.length)
   refine Ab ?_
   refine B7 (fun w1 w2=>ModS (fun _=>True) ED w1 w2) mixed ?_
   intro w4 hE4
   have hX:=hX.ext hE4
   have hCX:=hCX.ext hE4
   have hb:=hb.ext hE4
   have hg:=hg.ext hE4
   have hSr4:(fun w1 w2=>ModS (fun _=>True) ED w1 w2) w4 w4:=ModS.refl (fun _=>True) ED _
   refine hT 0 rfl hSr4 (fun wS hSS=>by(exact(Al (by conv=>lhs;whnf)))) ?_
   refine hT 1 rfl hSr4 (fun wS hSS=>by(exact(Af rfl))) ?_
   refine hT 2 rfl hSr4 (fun wS hSS=>by(exact(Ad Cr sz34 rfl))) ?_
   refine hT 3 rfl hSr4 (fun wS hSS=>by(have hb:=hb.modS hSS (.inr (by decide));exact(Ae un34 rfl (hb.cell (rfl))))) ?_
   refine hT 4 rfl hSr4 (fun wS hSS=>by(exact(Al (by conv=>lhs;whnf)))) ?_
   refine hT 5 rfl hSr4 (fun wS hSS=>by(exact(Af rfl))) ?_
   refine hT 6 rfl hSr4 (fun wS hSS=>by(exact(Ad Ch sz3 rfl))) ?_
   refine hT 7 rfl hSr4 (fun wS hSS=>by(have hb:=hb.modS hSS (.inr (by decide));exact(Ae un3 rfl (hb.cell (rfl))))) ?_
   refine hT 9 rfl hSr4 (fun wS hSS=>by(exact(Al (by conv=>lhs;whnf)))) ?_
   refine hT 10 rfl hSr4 (fun wS hSS=>by(exact(Af rfl))) ?_
   refine hT 11 rfl hSr4 (fun wS hSS=>by(exact(Ad D6 sz3 rfl))) ?_
   refine hT 12 rfl hSr4 (fun wS hSS=>by(have hb:=hb.modS hSS (.inr (by decide));exact(Ae un3 rfl (hb.cell (rfl))))) ?_
   refine h1L 8 (fun Q8 hQ8=>?_)
   refine Ah Tryz.func49 fn49 fb49 (A3 (C.seg:Int) _ hg.l) rfl ?_
   rintro v5 w5 ⟨rfl,hE5⟩
   have hX:=hX.ext hE5
   have hCX:=hCX.ext hE5
   have hb:=hb.ext hE5
   have hg:=hg.ext hE5
   have hSr4:=hSr4.ext hE5
   refine An hQ8 ⟨hSr4,?_⟩
   refine h1L 13 (fun Q13 hQ13=>?_)
   have hXs:=hX.size
   refine Ah Tryz.func94 fn94 fb94 (Pz gd _ _ _ hCX.d hGd.ok (Nat.lt_of_le_of_lt hGd.steps (by omega)) hGd.left (nSeg C.seg) (Ci _) (C.size:Int) (by omega) (by omega)) rfl ?_
   rintro v6 w6 ⟨rfl,hD2,hM2⟩
   have hX:=hX.stepE hM2 (Db hCX)
   have hg:=hg.modS hM2 (fun k hk=>(hCX.sub k hk).elim (hS k) fun q=>Nat.le_trans hgs q)
   have hCX:=hCX.stepD hXs hM2 hD2
   have hb:Blk w6 g (stoV gd C pi ni ci r nx) tSto:=hCX.b
   have hGd:=Iw hGd (nSeg C.seg) (C.size:Int)
   have hSr4:=hSr4.trans (hM2.mono fun _ _ _=>trivial) (fun _ _ h=>h)
   refine An hQ13 ⟨hSr4,?_⟩
   refine hT 14 rfl hSr4 (fun wS hSS=>by(exact(A2 rfl rfl))) ?_
   refine Bm (by kernel_rfl) ?_
   refine t_n ?_
   refine As rfl (fun hc46=>?_) (fun hc46=>?_)
   ·try simp only[dA,dB,dC,dD,dE,dF,dG,Int.not_lt,Int.not_le] at hc46
    have hq:=Cx hne (X1 (step:=false) hlt hc46) hc46
    refine Aa ?_
    refine pA ?_
    refine Ac (t_n (Ab (Ab (Aa ?_))))
    refine pM ?_
    refine p1 ((A2 rfl rfl).cast (congrArg Value.bool (decide_eq_false (by simp)))) ?_
    refine pM ?_
    refine gF 49 ?_
    refine gF 49 ?_
    refine p1 (Aq rfl (by conv=>lhs;whnf)) ?_
    refine pM ?_
    refine gF 53 ?_
    refine gF 53 ?_
    refine gF 53 ?_
    refine gF 53 ?_
    refine gF 53 ?_
    refine gF 53 ?_
    refine p1 (Aq rfl (by conv=>lhs;whnf)) ?_
    refine Ac (t_n ?_)
    refine c_f rfl ?_
    try have hU3:=Hc hU (hbz.1 hb6_6) (by omega)
    refine Ai (t_n (Ab (Aa ?_)))
    refine pM ?_
    refine p1 (Af rfl) ?_
    refine p1 (Ad Ch sz3 rfl) ?_
    refine p1 (Ae un3 rfl (hb.cell (rfl))) ?_
    refine p1 ((Aw rfl rfl (Ag (by omega) (by omega))).cast (congrArg (Value.int .i64) (by omega:_=((C.seg+1:Nat):Int)))) ?_
    refine Ah Tryz.func49 fn49 fb49 (A3 ((C.seg+1:Nat):Int) _ hg.l) rfl ?_
    rintro v7 w7 ⟨rfl,hE7⟩
    have hX:=hX.ext hE7
    have hCX:=hCX.ext hE7
    have hb:=hb.ext hE7
    have hg:=hg.ext hE7
    refine pA ?_
    refine Ac (t_n (Ab (Aa ?_)))
    refine pM ?_
    refine p1 ((A2 rfl rfl).cast (congrArg Value.bool (decide_eq_false (by simp)))) ?_
    refine pM ?_
    refine gF 69 ?_
    refine p1 (Aq rfl (by conv=>lhs;whnf)) ?_
    refine pM ?_
    refine gF 72 ?_
    refine gF 72 ?_
    refine gF 72 ?_
    refine p1 (Aq rfl (by conv=>lhs;whnf)) ?_
    refine pM ?_
    refine gF 77 ?_
    refine gF 77 ?_
    refine gF 77 ?_
    refine gF 77 ?_
    refine gF 77 ?_
    refine gF 77 ?_
    refine gF 77 ?_
    refine p1 (Aq rfl (by conv=>lhs;whnf)) ?_
    refine Ac (t_n ?_)
    refine c_f rfl ?_
    try have hq:=A5 hne (Oj hU3) rfl
    refine Ai (t_n (Ab (Am (Ab (Aa ?_)))))
    refine pM ?_
    refine p1 ((Bn rfl rfl).cast (congrArg Value.bool (decide_eq_true rfl))) ?_
    refine pA ?_
    refine Ac (t_n ?_)
    refine c_t rfl ?_
    refine Aa ?_
    refine pM ?_
    refine p1 (Af rfl) ?_
    refine p1 (Ad Fo sz4 rfl) ?_
    refine Ar rfl (by conv=>lhs;whnf) rfl rfl sz4 hb (by show _<7;omega) ?_
    intro w8 hP8
    have hX:=hX.put hP8 (⟨.inl hsg,by decide⟩)
    have hb:=hP8.blk
    try simp only[List.setIfInBounds_toArray,List.set_cons_zero,List.set_cons_succ] at hb
    have hCY:=CstX.laid (C':={ ({ C with D:=_ }:CS) with dead:=true }) hCX hP8 rfl rfl (hCX.i.one hP8.one (by decide)) (.inl ⟨rfl,rfl⟩)
    refine Ac (b_n (t_n (Ab (Aa ?_))))
    refine pM ?_
    refine pA ?_
    refine Ac (t_n (Ak ?_))
    refine eR1 ?_
    (rw[hq];exact⟨rfl,hCY.done,hX⟩)
   try simp only[dA,dB,dC,dD,dE,dF,dG,Int.not_lt,Int.not_le] at hc46
   have hU:=Aav (step:=false) hlt (by omega)
   refine Ai (t_n (Ab (Ab (Aa ?_))))
   refine pM ?_
   refine p1 ((A2 rfl rfl).cast (congrArg Value.bool (decide_eq_true hne))) ?_
   refine pM ?_
   refine gM 49 ?_
   refine B8 49 rfl rfl ?_
   refine Ah Tryz.func105 fn105 fb105 (Dr g gd r _ _ μ pi nx ni ci _ _ hCX hGd.ok nNew) rfl ?_
   rintro v9 w9 ⟨⟨bz,rfl,hbz⟩,hE9⟩
   have hX:=hX.ext hE9
   have hCX:=hCX.ext hE9
   have hb:=hb.ext hE9
   have hg:=hg.ext hE9
   refine p1 (Ap rfl (by conv=>lhs;whnf)) ?_
   refine p1b (Al (by conv=>lhs;whnf)) (fun hb6_6=>?_) (fun hb6_6=>?_)
   ·try simp only[dA,dB,dC,dD,dE,dF,dG,Int.not_lt,Int.not_le] at hb6_6
    refine gM 53 ?_
    refine Eng.g1 53 rfl rfl (Af rfl) ?_
    refine Eng.g1 53 rfl rfl (Ad Cr sz34 rfl) ?_
    refine Eng.g1 53 rfl rfl (Ae un34 rfl (hb.cell (rfl))) ?_
    refine B8 53 rfl rfl ?_
    have hXs:=hX.size
    refine Ah Tryz.func95 fn95 fb95 (Cu gd _ _ _ hCX.d hGd.ok (Nat.lt_of_le_of_lt hGd.steps (by omega)) hGd.left nNew (by decide)) rfl ?_
    rintro v10 w10 ⟨rfl,hD2,hM2⟩
    have hX:=hX.stepE hM2 (Db hCX)
    have hg:=hg.modS hM2 (fun k hk=>(hCX.sub k hk).elim (hS k) fun q=>Nat.le_trans hgs q)
    have hCX:=hCX.stepD hXs hM2 hD2
    have hb:Blk w10 g (stoV gd C pi ni ci r nx) tSto:=hCX.b
    have hGd:=Co hGd nNew
    refine Eng.g1 53 rfl rfl (A2 rfl rfl) ?_
    refine p1 (Ap rfl (by conv=>lhs;whnf)) ?_
    refine Ac (t_n ?_)
    refine As rfl (fun hc60=>?_) (fun hc60=>?_)
    ·try simp only[dA,dB,dC,dD,dE,dF,dG,Int.not_lt,Int.not_le] at hc60
     have hq:=Cx hne (Nl hU (hbz.1 hb6_6) hc60) hc60
     refine Aa ?_
     refine pA ?_
     refine Ac (t_n (Ab (Aa ?_)))
     refine pM ?_
     refine p1 (Af rfl) ?_
     refine p1 (Ad Ch sz3 rfl) ?_
     refine p1 (Ae un3 rfl (hb.cell (rfl))) ?_
     refine p1 ((Aw rfl rfl (Ag (by omega) (by omega))).cast (congrArg (Value.int .i64) (by omega:_=((C.seg+1:Nat):Int)))) ?_
     refine Ah Tryz.func49 fn49 fb49 (A3 ((C.seg+1:Nat):Int) _ hg.l) rfl ?_
     rintro v11 w11 ⟨rfl,hE11⟩
     have hX:=hX.ext hE11
     have hCX:=hCX.ext hE11
     have hb:=hb.ext hE11
     have hg:=hg.ext hE11
     refine pA ?_
     refine Ac (t_n (Ab (Aa ?_)))
     refine pM ?_
     refine p1 ((A2 rfl rfl).cast (congrArg Value.bool (decide_eq_false (by simp)))) ?_
     refine pM ?_
     refine gF 69 ?_
     refine p1 (Aq rfl (by conv=>lhs;whnf)) ?_
     refine pM ?_
     refine gF 72 ?_
     refine gF 72 ?_
     refine gF 72 ?_
     refine p1 (Aq rfl (by conv=>lhs;whnf)) ?_
     refine pM ?_
     refine gF 77 ?_
     refine gF 77 ?_
     refine gF 77 ?_
     refine gF 77 ?_
     refine gF 77 ?_
     refine gF 77 ?_
     refine gF 77 ?_
     refine p1 (Aq rfl (by conv=>lhs;whnf)) ?_
     refine Ac (t_n ?_)
     refine c_f rfl ?_
     try have hq:=A5 hne (Oj hU3) rfl
     refine Ai (t_n (Ab (Am (Ab (Aa ?_)))))
     refine pM ?_
     refine p1 ((Bn rfl rfl).cast (congrArg Value.bool (decide_eq_true rfl))) ?_
     refine pA ?_
     refine Ac (t_n ?_)
     refine c_t rfl ?_
     refine Aa ?_
     refine pM ?_
     refine p1 (Af rfl) ?_
     refine p1 (Ad Fo sz4 rfl) ?_
     refine Ar rfl (by conv=>lhs;whnf) rfl rfl sz4 hb (by show _<7;omega) ?_
     intro w12 hP12
     have hX:=hX.put hP12 (⟨.inl hsg,by decide⟩)
     have hb:=hP12.blk
     try simp only[List.setIfInBounds_toArray,List.set_cons_zero,List.set_cons_succ] at hb
     have hCY:=CstX.laid (C':={ ({ C with D:=_ }:CS) with dead:=true }) hCX hP12 rfl rfl (hCX.i.one hP12.one (by decide)) (.inl ⟨rfl,rfl⟩)
     refine Ac (b_n (t_n (Ab (Aa ?_))))
     refine pM ?_
     refine pA ?_
     refine Ac (t_n (Ak ?_))
     refine eR1 ?_
     (rw[hq];exact⟨rfl,hCY.done,hX⟩)
    try simp only[dA,dB,dC,dD,dE,dF,dG,Int.not_lt,Int.not_le] at hc60
    try have hU3:=Hc hU (hbz.1 hb6_6) (by omega)
    refine Ai (t_n (Ab (Aa ?_)))
    refine pM ?_
    refine p1 (Af rfl) ?_
    refine p1 (Ad Ch sz3 rfl) ?_
    refine p1 (Ae un3 rfl (hb.cell (rfl))) ?_
    refine p1 ((Aw rfl rfl (Ag (by omega) (by omega))).cast (congrArg (Value.int .i64) (by omega:_=((C.seg+1:Nat):Int)))) ?_
    refine Ah Tryz.func49 fn49 fb49 (A3 ((C.seg+1:Nat):Int) _ hg.l) rfl ?_
    rintro v13 w13 ⟨rfl,hE13⟩
    have hX:=hX.ext hE13
    have hCX:=hCX.ext hE13
    have hb:=hb.ext hE13
    have hg:=hg.ext hE13
    refine pA ?_
    refine Ac (t_n (Ab (Aa ?_)))
    refine pM ?_
    refine p1 ((A2 rfl rfl).cast (congrArg Value.bool (decide_eq_true hne))) ?_
    refine pM ?_
    refine gM 69 ?_
    refine p1 (Ap rfl (by conv=>lhs;whnf)) ?_
    refine pM ?_
    refine gF 72 ?_
    refine gF 72 ?_
    refine gF 72 ?_
    refine p1 (Aq rfl (by conv=>lhs;whnf)) ?_
    refine pM ?_
    refine gF 77 ?_
    refine gF 77 ?_
    refine gF 77 ?_
    refine gF 77 ?_
    refine gF 77 ?_
    refine gF 77 ?_
    refine gF 77 ?_
    refine p1 (Aq rfl (by conv=>lhs;whnf)) ?_
    refine Ac (t_n ?_)
    refine c_f rfl ?_
    try have hq:=A5 hne (Oj hU3) rfl
    refine Ai (t_n (Ab (Am (Ab (Aa ?_)))))
    refine pM ?_
    refine p1 ((Bn rfl rfl).cast (congrArg Value.bool (decide_eq_false hne))) ?_
    refine pA ?_
    refine Ac (t_n ?_)
    refine c_f rfl ?_
    refine Ab (Aa ?_)
    refine pM ?_
    refine pA ?_
    refine Ac (t_n ?_)
    refine c_f (rfl) ?_
    refine Ai (b_n (t_n (Ab (Aa ?_))))
    refine pM ?_
    refine pA ?_
    refine Ac (t_n (Ak ?_))
    refine eR1 ?_
    (rw[hq];exact⟨rfl,hCX.done,hX⟩)
   try simp only[dA,dB,dC,dD,dE,dF,dG,Int.not_lt,Int.not_le] at hb6_6
   have hU3:=Sk hU (fun h=>by have:=hbz.2 h;simp_all)
   refine gF 53 ?_
   refine gF 53 ?_
   refine gF 53 ?_
   refine gF 53 ?_
   refine gF 53 ?_
   refine gF 53 ?_
   refine p1 (Aq rfl (by conv=>lhs;whnf)) ?_
   refine Ac (t_n ?_)
   refine c_f rfl ?_
   try have hU3:=Hc hU (hbz.1 hb6_6) (by omega)
   refine Ai (t_n (Ab (Aa ?_)))
   refine pM ?_
   refine p1 (Af rfl) ?_
   refine p1 (Ad Ch sz3 rfl) ?_
   refine p1 (Ae un3 rfl (hb.cell (rfl))) ?_
   refine p1 ((Aw rfl rfl (Ag (by omega) (by omega))).cast (congrArg (Value.int .i64) (by omega:_=((C.seg+1:Nat):Int)))) ?_
   refine Ah Tryz.func49 fn49 fb49 (A3 ((C.seg+1:Nat):Int) _ hg.l) rfl ?_
   rintro v14 w14 ⟨rfl,hE14⟩
   have hX:=hX.ext hE14
   have hCX:=hCX.ext hE14
   have hb:=hb.ext hE14
   have hg:=hg.ext hE14
   refine pA ?_
   refine Ac (t_n (Ab (Aa ?_)))
   refine pM ?_
   refine p1 ((A2 rfl rfl).cast (congrArg Value.bool (decide_eq_true hne))) ?_
   refine pM ?_
   refine gM 69 ?_
   refine p1 (Ap rfl (by conv=>lhs;whnf)) ?_
   refine pM ?_
   refine gF 72 ?_
   refine gF 72 ?_
   refine gF 72 ?_
   refine p1 (Aq rfl (by conv=>lhs;whnf)) ?_
   refine pM ?_
   refine gF 77 ?_
   refine gF 77 ?_
   refine gF 77 ?_
   refine gF 77 ?_
   refine gF 77 ?_
   refine gF 77 ?_
   refine gF 77 ?_
   refine p1 (Aq rfl (by conv=>lhs;whnf)) ?_
   refine Ac (t_n ?_)
   refine c_f rfl ?_
   try have hq:=A5 hne (Oj hU3) rfl
   refine Ai (t_n (Ab (Am (Ab (Aa ?_)))))
   refine pM ?_
   refine p1 ((Bn rfl rfl).cast (congrArg Value.bool (decide_eq_false hne))) ?_
   refine pA ?_
   refine Ac (t_n ?_)
   refine c_f rfl ?_
   refine Ab (Aa ?_)
   refine pM ?_
   refine pA ?_
   refine Ac (t_n ?_)
   refine c_f (rfl) ?_
   refine Ai (b_n (t_n (Ab (Aa ?_))))
   refine pM ?_
   refine pA ?_
   refine Ac (t_n (Ak ?_))
   refine eR1 ?_
   (rw[hq];exact⟨rfl,hCX.done,hX⟩)
  try simp only[dA,dB,dC,dD,dE,dF,dG,Int.not_lt,Int.not_le] at hc31
  have hU:=Aaw (D:=C.D) (seg:=C.seg) (size:=C.size) (step:=false) (by omega)
  refine Ai (t_n (Ab (Ab (Aa ?_))))
  refine pM ?_
  refine p1 ((A2 rfl rfl).cast (congrArg Value.bool (decide_eq_true hne))) ?_
  refine pM ?_
  refine gM 49 ?_
  refine B8 49 rfl rfl ?_
  refine Ah Tryz.func105 fn105 fb105 (Dr g gd r _ _ μ pi nx ni ci _ _ hCX hGd.ok nNew) rfl ?_
  rintro v15 w15 ⟨⟨bz,rfl,hbz⟩,hE15⟩
  have hX:=hX.ext hE15
  have hCX:=hCX.ext hE15
  have hb:=hb.ext hE15
  have hg:=hg.ext hE15
  refine p1 (Ap rfl (by conv=>lhs;whnf)) ?_
  refine p1b (Al (by conv=>lhs;whnf)) (fun hb6_6=>?_) (fun hb6_6=>?_)
  ·try simp only[dA,dB,dC,dD,dE,dF,dG,Int.not_lt,Int.not_le] at hb6_6
   refine gM 53 ?_
   refine Eng.g1 53 rfl rfl (Af rfl) ?_
   refine Eng.g1 53 rfl rfl (Ad Cr sz34 rfl) ?_
   refine Eng.g1 53 rfl rfl (Ae un34 rfl (hb.cell (rfl))) ?_
   refine B8 53 rfl rfl ?_
   have hXs:=hX.size
   refine Ah Tryz.func95 fn95 fb95 (Cu gd _ _ _ hCX.d hGd.ok (Nat.lt_of_le_of_lt hGd.steps (by omega)) hGd.left nNew (by decide)) rfl ?_
   rintro v16 w16 ⟨rfl,hD2,hM2⟩
   have hX:=hX.stepE hM2 (Db hCX)
   have hg:=hg.modS hM2 (fun k hk=>(hCX.sub k hk).elim (hS k) fun q=>Nat.le_trans hgs q)
   have hCX:=hCX.stepD hXs hM2 hD2
   have hb:Blk w16 g (stoV gd C pi ni ci r nx) tSto:=hCX.b
   have hGd:=Co hGd nNew
   refine Eng.g1 53 rfl rfl (A2 rfl rfl) ?_
   refine p1 (Ap rfl (by conv=>lhs;whnf)) ?_
   refine Ac (t_n ?_)
   refine As rfl (fun hc60=>?_) (fun hc60=>?_)
   ·try simp only[dA,dB,dC,dD,dE,dF,dG,Int.not_lt,Int.not_le] at hc60
    have hq:=Cx hne (Nl hU (hbz.1 hb6_6) hc60) hc60
    refine Aa ?_
    refine pA ?_
    refine Ac (t_n (Ab (Aa ?_)))
    refine pM ?_
    refine p1 (Af rfl) ?_
    refine p1 (Ad Ch sz3 rfl) ?_
    refine p1 (Ae un3 rfl (hb.cell (rfl))) ?_
    refine p1 ((Aw rfl rfl (Ag (by omega) (by omega))).cast (congrArg (Value.int .i64) (by omega:_=((C.seg+1:Nat):Int)))) ?_
    refine Ah Tryz.func49 fn49 fb49 (A3 ((C.seg+1:Nat):Int) _ hg.l) rfl ?_
    rintro v17 w17 ⟨rfl,hE17⟩
    have hX:=hX.ext hE17
    have hCX:=hCX.ext hE17
    have hb:=hb.ext hE17
    have hg:=hg.ext hE17
    refine pA ?_
    refine Ac (t_n (Ab (Aa ?_)))
    refine pM ?_
    refine p1 ((A2 rfl rfl).cast (congrArg Value.bool (decide_eq_false (by simp)))) ?_
    refine pM ?_
    refine gF 69 ?_
    refine p1 (Aq rfl (by conv=>lhs;whnf)) ?_
    refine pM ?_
    refine gF 72 ?_
    refine gF 72 ?_
    refine gF 72 ?_
    refine p1 (Aq rfl (by conv=>lhs;whnf)) ?_
    refine pM ?_
    refine gF 77 ?_
    refine gF 77 ?_
    refine gF 77 ?_
    refine gF 77 ?_
    refine gF 77 ?_
    refine gF 77 ?_
    refine gF 77 ?_
    refine p1 (Aq rfl (by conv=>lhs;whnf)) ?_
    refine Ac (t_n ?_)
    refine c_f rfl ?_
    try have hq:=A5 hne (Oj hU3) rfl
    refine Ai (t_n (Ab (Am (Ab (Aa ?_)))))
    refine pM ?_
    refine p1 ((Bn rfl rfl).cast (congrArg Value.bool (decide_eq_true rfl))) ?_
    refine pA ?_
    refine Ac (t_n ?_)
    refine c_t rfl ?_
    refine Aa ?_
    refine pM ?_
    refine p1 (Af rfl) ?_
    refine p1 (Ad Fo sz4 rfl) ?_
    refine Ar rfl (by conv=>lhs;whnf) rfl rfl sz4 hb (by show _<7;omega) ?_
    intro w18 hP18
    have hX:=hX.put hP18 (⟨.inl hsg,by decide⟩)
    have hb:=hP18.blk
    try simp only[List.setIfInBounds_toArray,List.set_cons_zero,List.set_cons_succ] at hb
    have hCY:=CstX.laid (C':={ ({ C with D:=_ }:CS) with dead:=true }) hCX hP18 rfl rfl (hCX.i.one hP18.one (by decide)) (.inl ⟨rfl,rfl⟩)
    refine Ac (b_n (t_n (Ab (Aa ?_))))
    refine pM ?_
    refine pA ?_
    refine Ac (t_n (Ak ?_))
    refine eR1 ?_
    (rw[hq];exact⟨rfl,hCY.done,hX⟩)
   try simp only[dA,dB,dC,dD,dE,dF,dG,Int.not_lt,Int.not_le] at hc60
   try have hU3:=Hc hU (hbz.1 hb6_6) (by omega)
   refine Ai (t_n (Ab (Aa ?_)))
   refine pM ?_
   refine p1 (Af rfl) ?_
   refine p1 (Ad Ch sz3 rfl) ?_
   refine p1 (Ae un3 rfl (hb.cell (rfl))) ?_
   refine p1 ((Aw rfl rfl (Ag (by omega) (by omega))).cast (congrArg (Value.int .i64) (by omega:_=((C.seg+1:Nat):Int)))) ?_
   refine Ah Tryz.func49 fn49 fb49 (A3 ((C.seg+1:Nat):Int) _ hg.l) rfl ?_
   rintro v19 w19 ⟨rfl,hE19⟩
   have hX:=hX.ext hE19
   have hCX:=hCX.ext hE19
   have hb:=hb.ext hE19
   have hg:=hg.ext hE19
   refine pA ?_
   refine Ac (t_n (Ab (Aa ?_)))
   refine pM ?_
   refine p1 ((A2 rfl rfl).cast (congrArg Value.bool (decide_eq_true hne))) ?_
   refine pM ?_
   refine gM 69 ?_
   refine p1 (Ap rfl (by conv=>lhs;whnf)) ?_
   refine pM ?_
   refine gF 72 ?_
   refine gF 72 ?_
   refine gF 72 ?_
   refine p1 (Aq rfl (by conv=>lhs;whnf)) ?_
   refine pM ?_
   refine gF 77 ?_
   refine gF 77 ?_
   refine gF 77 ?_
   refine gF 77 ?_
   refine gF 77 ?_
   refine gF 77 ?_
   refine gF 77 ?_
   refine p1 (Aq rfl (by conv=>lhs;whnf)) ?_
   refine Ac (t_n ?_)
   refine c_f rfl ?_
   try have hq:=A5 hne (Oj hU3) rfl
   refine Ai (t_n (Ab (Am (Ab (Aa ?_)))))
   refine pM ?_
   refine p1 ((Bn rfl rfl).cast (congrArg Value.bool (decide_eq_false hne))) ?_
   refine pA ?_
   refine Ac (t_n ?_)
   refine c_f rfl ?_
   refine Ab (Aa ?_)
   refine pM ?_
   refine pA ?_
   refine Ac (t_n ?_)
   refine c_f (rfl) ?_
   refine Ai (b_n (t_n (Ab (Aa ?_))))
   refine pM ?_
   refine pA ?_
   refine Ac (t_n (Ak ?_))
   refine eR1 ?_
   (rw[hq];exact⟨rfl,hCX.done,hX⟩)
  try simp only[dA,dB,dC,dD,dE,dF,dG,Int.not_lt,Int.not_le] at hb6_6
  have hU3:=Sk hU (fun h=>by have:=hbz.2 h;simp_all)
  refine gF 53 ?_
  refine gF 53 ?_
  refine gF 53 ?_
  refine gF 53 ?_
  refine gF 53 ?_
  refine gF 53 ?_
  refine p1 (Aq rfl (by conv=>lhs;whnf)) ?_
  refine Ac (t_n ?_)
  refine c_f rfl ?_
  try have hU3:=Hc hU (hbz.1 hb6_6) (by omega)
  refine Ai (t_n (Ab (Aa ?_)))
  refine pM ?_
  refine p1 (Af rfl) ?_
  refine p1 (Ad Ch sz3 rfl) ?_
  refine p1 (Ae un3 rfl (hb.cell (rfl))) ?_
  refine p1 ((Aw rfl rfl (Ag (by omega) (by omega))).cast (congrArg (Value.int .i64) (by omega:_=((C.seg+1:Nat):Int)))) ?_
  refine Ah Tryz.func49 fn49 fb49 (A3 ((C.seg+1:Nat):Int) _ hg.l) rfl ?_
  rintro v20 w20 ⟨rfl,hE20⟩
  have hX:=hX.ext hE20
  have hCX:=hCX.ext hE20
  have hb:=hb.ext hE20
  have hg:=hg.ext hE20
  refine pA ?_
  refine Ac (t_n (Ab (Aa ?_)))
  refine pM ?_
  refine p1 ((A2 rfl rfl).cast (congrArg Value.bool (decide_eq_true hne))) ?_
  refine pM ?_
  refine gM 69 ?_
  refine p1 (Ap rfl (by conv=>lhs;whnf)) ?_
  refine pM ?_
  refine gF 72 ?_
  refine gF 72 ?_
  refine gF 72 ?_
  refine p1 (Aq rfl (by conv=>lhs;whnf)) ?_
  refine pM ?_
  refine gF 77 ?_
  refine gF 77 ?_
  refine gF 77 ?_
  refine gF 77 ?_
  refine gF 77 ?_
  refine gF 77 ?_
  refine gF 77 ?_
  refine p1 (Aq rfl (by conv=>lhs;whnf)) ?_
  refine Ac (t_n ?_)
  refine c_f rfl ?_
  try have hq:=A5 hne (Oj hU3) rfl
  refine Ai (t_n (Ab (Am (Ab (Aa ?_)))))
  refine pM ?_
  refine p1 ((Bn rfl rfl).cast (congrArg Value.bool (decide_eq_false hne))) ?_
  refine pA ?_
  refine Ac (t_n ?_)
  refine c_f rfl ?_
  refine Ab (Aa ?_)
  refine pM ?_
  refine pA ?_
  refine Ac (t_n ?_)
  refine c_f (rfl) ?_
  refine Ai (b_n (t_n (Ab (Aa ?_))))
  refine pM ?_
  refine pA ?_
  refine Ac (t_n (Ak ?_))
  refine eR1 ?_
  (rw[hq];exact⟨rfl,hCX.done,hX⟩)
 try simp only[dA,dB,dC,dD,dE,dF,dG,Int.not_lt,Int.not_le] at hc11
 exact absurd hc11 (by simpa using hne)
theorem Gs (g gd r:Nat) (S Sd:Nat→Prop) (μ:Hash→Option R3) (pi nx:Option Addr) (ni ci:Nat) (C:CS) (k:Nat) (w:World) (hCX:CstX S Sd w g gd r μ pi ni ci nx C) (hn:CN C k) (hS:∀ j,S j→6≤j) (hg:Gt w) (hk:k<4611686018427300000) (e:Int) (st:Bool) :
    Ret Tryz.prog 57 [.pointer (some ⟨g,0,none⟩),.int .i64 e,.bool st] w (fun v w'=>v = .int .i64 (undoC C e st).2∧Cst (grow S w w') w' g gd (undoC C e st).1∧ModS S EC w w'):=by
  by_cases he:e=20
  · subst he;exact Sh g gd r S Sd μ pi nx ni ci C k w hCX hn hS hg hk st
  · cases st with
    | true=>exact Nc g gd r S Sd μ pi nx ni ci C k w hCX hn hS hg hk e he
    | false=>exact L2 g gd r S Sd μ pi nx ni ci C k w hCX hn hS hg hk e he
end Go.Proofs.Eng
end
section
set_option maxRecDepth 100000
set_option maxHeartbeats 4000000
namespace Go.Proofs.Eng
open Go.RowKit
open Extern.Stop (cell)
theorem fb103:Tryz.f103.body.isNone=false:=by kernel_rfl
theorem fb52:Tryz.f52.body.isNone=false:=by kernel_rfl
theorem fb53:Tryz.f53.body.isNone=false:=by kernel_rfl
theorem fb54:Tryz.f54.body.isNone=false:=by kernel_rfl
theorem fb55:Tryz.f55.body.isNone=false:=by kernel_rfl
theorem fb56:Tryz.f56.body.isNone=false:=by kernel_rfl
theorem fb57:Tryz.f57.body.isNone=false:=by kernel_rfl
theorem fb59:Tryz.f59.body.isNone=false:=by kernel_rfl
theorem fn103 : ngB Tryz.f103 = false := by kernel_rfl
theorem fn52 : ngB Tryz.f52 = false := by kernel_rfl
theorem fn53 : ngB Tryz.f53 = false := by kernel_rfl
theorem fn54 : ngB Tryz.f54 = false := by kernel_rfl
theorem fn55 : ngB Tryz.f55 = false := by kernel_rfl
theorem fn56 : ngB Tryz.f56 = false := by kernel_rfl
theorem fn57 : ngB Tryz.f57 = false := by kernel_rfl
theorem fn59 : ngB Tryz.f59 = false := by kernel_rfl
theorem zr9:(Tryz.prog.info? 9).map (·.zero)=some (some (.string ByteArray.empty)):=by kernel_rfl
end Go.Proofs.Eng
end
section
set_option maxRecDepth 100000
set_option maxHeartbeats 4000000
namespace Go.Proofs.Eng
open Go.RowKit
open Extern.Stop (cell)
theorem Af6 (p:Option Addr) (n c:Nat) (w:World) :
    Ret Tryz.prog 53 [.slice p n c] w (fun v w'=>v = .bool (decide (1048576<n))∧Ext w w'):=by
 have hX:=Ext.refl w
 refine eN 6 Tryz.func53 ?_
 refine Ab (Aa ?_)
 refine pA (Ac (t_n (Ab (Aa ?_))))
 refine pM ?_
 refine p1 (Aj u23 rfl) ?_
 refine p1 (C0 rfl rfl) ?_
 refine pA (Ac (t_n (Ak ?_)))
 refine eR1 ?_
 exact⟨congrArg Value.bool (decide_eq_decide.2 (by omega)),hX⟩
theorem W4 (xss:List By) (B:Nat) (p:Option Addr) (n c:Nat) (w:World) (hl:Sl (kSl kByte 5) 23 B w p n c xss) :
    Ret Tryz.prog 103 [.slice p n c,.func (.func 53) #[] #[]] w (fun v w'=>(∃ i:Int,v = .int .i64 i∧(0≤i↔∃ x∈xss,1048576<x.length))∧Ext w w'):=by
 have hX:=Ext.refl w
 refine eN 19 Tryz.func103 ?_
 refine Ab (Aa ?_)
 refine pA (Ac (t_n (Ab (Ab (Aa ?_)))))
 refine pM ?_
 refine p1 (Aj u22 rfl) ?_
 refine pM (Ac (t_n (Am ?_)))
 have hWL0:=Ext.refl w
 have hlen:=hl.len
 have hcap:=hl.cap
 have hfit:=hl.fit
 refine Bg (ι:=Nat) [4,5,8,9,10,11,12,13,14,15,16,17,18] (fun k=>[(8,.int .i64 (k:Int))]) (fun k w'=>Ext w w'∧(k≤n∧∀ i,i<k→(xss.getD i []).length≤1048576)) (fun k=>n - k) (0) ⟨rfl,trivial⟩ ⟨Ext.refl _,by omega,fun i hi=>by omega⟩ ?_
 rintro k GL0 w1 ⟨hE1,hk,hL⟩
 have hX:=hX.ext hE1
 have hWL0:=hE1
 refine Ab (Aa ?_)
 refine p1 (Bx rfl rfl) ?_
 refine Ac (t_n (Ab ?_))
 refine As rfl (fun hc9=>?_) (fun hc9=>?_)
 ·refine Ai (t_n (Ab (Am (Ab (Aa ?_)))))
  refine pM (pA (Ac (t_n (Ab ?_))))
  obtain⟨qk,mk,ck,hck,hrow⟩:=(hl.ext hX).slAt k (by omega)
  have hrl:=hrow.len
  refine Aa ?_
  refine pM (pM (pM ?_))
  refine p1 (C5 (i:=k) u22 sz23 rfl rfl ((hl.ext hX).adr J5 (by omega)) (by omega)) ?_
  refine p1 (Ae un23 rfl hck) ?_
  refine Jv (fs:=[]) (cs:=[]) rfl Tryz.func53 fn53 fb53 rfl rfl (Af6 _ _ _ _) ?_
  rintro v2 w2 ⟨rfl,hE2⟩
  have hX:=hX.ext hE2
  have hWL0:=hWL0.ext hE2
  refine Ac (t_n ?_)
  refine As rfl (fun hc16=>?_) (fun hc16=>?_)
  ·have hex:∃ x∈xss,1048576<x.length:=⟨_,Cn (z:=[]) (i:=k) (by omega) rfl,by omega⟩
   refine Ab (Aa ?_)
   refine pM (pA (Ac (t_n (Ak (b_r (t_r (t_r (b_r (t_r ?_)))))))))
   refine eR1 ?_
   exact⟨⟨_,rfl,⟨fun _=>hex,fun _=>by omega⟩⟩,hX⟩
  refine Ai (b_n (t_n (Aa ?_)))
  refine p1 (Aw rfl rfl (Ag (by omega) (by omega))) ?_
  refine pM (Ac ?_)
  refine t_n (aK (k+1) ⟨rfl,trivial⟩ ?_)
  exact⟨⟨hWL0,by omega,fun i hi=>if h:i<k then hL i h else by rw[show i=k from by omega];omega⟩,by((show _<_);omega)⟩
 refine Ba (t_e (t_e (Bu (t_n (Ab (Aa ?_))))))
 refine pA (Ac (t_n (Ak ?_)))
 refine eR1 ?_
 exact⟨⟨_,rfl,⟨fun h=>absurd h (by omega),fun ⟨x,hx,h⟩=>by
   obtain⟨i,hi,e⟩:=List.mem_iff_getElem.1 hx
   have:=hL i (by omega)
   rw[List.getD_eq_getElem?_getD,List.getElem?_eq_getElem hi,Option.getD_some,e] at this
   omega⟩⟩,hX⟩
theorem Qk (xss:List By) (B:Nat) (p:Option Addr) (n c:Nat) (w:World) (hl:Sl (kSl kByte 5) 23 B w p n c xss) :
    Ret Tryz.prog 52 [.slice p n c,.func (.func 53) #[] #[]] w (fun v w'=>v = .bool (decide (∃ x∈xss,1048576<x.length))∧Ext w w'):=by
 have hX:=Ext.refl w
 refine eN 9 Tryz.func52 ?_
 refine Ab (Aa ?_)
 refine pA (Ac (t_n (Ab (Aa ?_))))
 refine pM (pM ?_)
 refine Ah Tryz.func103 fn103 fb103 (W4 xss B _ _ _ _ (hl.ext hX)) rfl ?_
 rintro v1 w1 ⟨⟨i,rfl,hi⟩,hE1⟩
 have hX:=hX.ext hE1
 refine p1 (T0 rfl rfl) ?_
 refine pA (Ac (t_n (Ak ?_)))
 refine eR1 ?_
 exact⟨congrArg Value.bool (decide_eq_decide.2 hi),hX⟩
theorem Af5 (gd:Nat) (S:Nat→Prop) (D:DS) (w:World) (hD:Dsk S w gd D) (hok:DOk D) (hst:D.steps<4611686018427387904) (hle:D.left≤9223372036854775807) (hnm:∀ x∈D.l,A1 x.1=true) (b0 b1 gs:Nat) (cs:Array Value) (nm:ByteArray) (hnz:nm.size≤9223372036854775807) (hb0:Blk w b0 #[.pointer (some ⟨gs,0,none⟩)] 30) (hs:Blk w gs cs 91) (hs0:cs[0]? = some (.pointer (some ⟨gd,0,none⟩))) (hb1:Blk w b1 #[.string nm] 9) (b2 e B:Nat) (p:Option Addr) (n c:Nat) (ys:By) (hb2:Blk w b2 #[.slice p n c] 23) (hl:Sl kByte e B w p n c ys) :
    Ret Tryz.prog 55 [.pointer (some ⟨b0,0,none⟩),.pointer (some ⟨b1,0,none⟩),.pointer (some ⟨b2,0,none⟩)] w (fun v w'=>v = .int .i64 (A4 D nm ys).2∧Dsk (grow S w w') w' gd (A4 D nm ys).1∧ModS S ED w w'):=by
 have hX:=Ext.refl w
 refine eN 11 Tryz.func55 ?_
 refine Ab (Aa ?_)
 refine pA (Ac (t_n (Ab ?_)))
 refine Cp 6 mixed (by kernel_rfl) ?_
 intro w1 hE1
 have hX:=hX.ext hE1
 have hD:=hD.ext hE1
 have hb0:=hb0.ext hE1
 have hb1:=hb1.ext hE1
 have hs:=hs.ext hE1
 have hb2:=hb2.ext hE1
 have hl:=hl.ext hE1
 refine s1 (Ae un30 rfl (hb0.cell (rfl))) ?_
 refine s1 (Af rfl) ?_
 refine s1 (Ad Cr sz34 rfl) ?_
 refine s1 (Ae un34 rfl (hs.cell (hs0))) ?_
 refine s1 (Ae un9 rfl (hb1.cell (rfl))) ?_
 refine s1 (Ae un23 rfl (hb2.cell (rfl))) ?_
 refine Ca ?_
 have hXs:=hX.size
 refine Ah Tryz.func19 fn19 fb19 (I7 gd S D _ hD hok hst hle nm hnz e B _ _ _ _ hl) rfl ?_
 rintro v2 w2 ⟨rfl,hD2,hM2⟩
 refine pA (Ac (t_n (Ak ?_)))
 refine eR1 ?_
 exact⟨rfl,hD2.wide hXs,(ModS.ofExt hX).trans hM2 (fun _ _ h=>h)⟩
theorem Af4 (gd:Nat) (S:Nat→Prop) (D:DS) (w:World) (hD:Dsk S w gd D) (hok:DOk D) (hst:D.steps<4611686018427387904) (hle:D.left≤9223372036854775807) (hnm:∀ x∈D.l,A1 x.1=true) (b0 b1 gs:Nat) (cs:Array Value) (nm:ByteArray) (hnz:nm.size≤9223372036854775807) (hb0:Blk w b0 #[.pointer (some ⟨gs,0,none⟩)] 30) (hs:Blk w gs cs 91) (hs0:cs[0]? = some (.pointer (some ⟨gd,0,none⟩))) (hb1:Blk w b1 #[.string nm] 9) :
    Ret Tryz.prog 56 [.pointer (some ⟨b0,0,none⟩),.pointer (some ⟨b1,0,none⟩)] w (fun v w'=>v = .int .i64 (syncD D nm).2∧Dsk (grow S w w') w' gd (syncD D nm).1∧ModS S ED w w'):=by
 have hX:=Ext.refl w
 refine eN 9 Tryz.func56 ?_
 refine Ab (Aa ?_)
 refine pA (Ac (t_n (Ab ?_)))
 refine Cp 5 mixed (by kernel_rfl) ?_
 intro w1 hE1
 have hX:=hX.ext hE1
 have hD:=hD.ext hE1
 have hb0:=hb0.ext hE1
 have hb1:=hb1.ext hE1
 have hs:=hs.ext hE1
 refine s1 (Ae un30 rfl (hb0.cell (rfl))) ?_
 refine s1 (Af rfl) ?_
 refine s1 (Ad Cr sz34 rfl) ?_
 refine s1 (Ae un34 rfl (hs.cell (hs0))) ?_
 refine s1 (Ae un9 rfl (hb1.cell (rfl))) ?_
 refine Ca ?_
 have hXs:=hX.size
 refine Ah Tryz.func20 fn20 fb20 (Mm gd S D _ hD hok hst hle nm hnz) rfl ?_
 rintro v2 w2 ⟨rfl,hD2,hM2⟩
 refine pA (Ac (t_n (Ak ?_)))
 refine eR1 ?_
 exact⟨rfl,hD2.wide hXs,(ModS.ofExt hX).trans hM2 (fun _ _ h=>h)⟩
theorem Qv (g gd r:Nat) (S Sd:Nat→Prop) (μ:Hash→Option R3) (pi nx:Option Addr) (ni ci:Nat) (C:CS) (k_:Nat) (w:World) (hCX:CstX S Sd w g gd r μ pi ni ci nx C) (hn:CN C k_) (hS:∀ j,S j→6≤j) (hg:Gt w) (hk:k_<4611686018427200000) (xss:List By) (B:Nat) (p:Option Addr) (n c:Nat) (hl:Sl (kSl kByte 5) 23 B w p n c xss) (hBw:B≤w.heap.size) (hn2:n≤100000) (ix:By) (q:Option Addr) (m c2:Nat) (hix:Out S w q m c2 ix) :
    Ret Tryz.prog 14 [.pointer (some ⟨g,0,none⟩),.slice p n c,.slice q m c2] w (fun v w'=>v = .int .i64 (putC C xss ix).2∧Cst (grow S w w') w' g gd (putC C xss ix).1∧ModS S EC w w'):=by
 have hgs:=hg.size
 have hsg:=hCX.sg
 have hGd:=hn.good
 have hhi:=hn.hi
 have hsz:=hn.sz
 obtain⟨Sd,hSd,hCX0⟩:∃ Sd',(∀ j,Sd' j→j<w.heap.size)∧CstX S Sd' w g gd r μ pi ni ci nx C:=⟨_,fun j h=>h.2,hCX.mono fun _ _ h=>h⟩
 have hg0:=hg
 have hb:=hCX0.b
 have hbl:=hb.lt
 have hrl_:=hCX0.m.lt
 have hg6:=hS _ hsg
 have hX:=Ext.refl w
 refine eN 127 Tryz.func14 ?_
 refine Ab (Aa ?_)
 have hz3:=hX.size
 refine Cq (by conv=>lhs;whnf) rfl ?_
 intro w1 g3 hN3
 have hE1:=hN3.ext
 have hX:=hX.ext hE1
 have hb:=hb.ext hE1
 have hB3:=hN3.blk
 have hq3:=hN3.g_eq
 refine pA (Ac (t_n (Ab (Am (Ab (Aa ?_))))))
 refine p1 (Ae un30 rfl (hB3.cell (rfl))) ?_
 refine p1 ((Bb u30 rfl rfl).cast (congrArg _ (decide_eq_false (by simp)))) ?_
 refine pA (Ac (t_n ?_))
 refine c_f (rfl) ?_
 refine Ab (Aa ?_)
 refine p1 (Ae un30 rfl (hB3.cell (rfl))) ?_
 refine p1 (Af rfl) ?_
 refine p1 (Ad Fo sz4 rfl) ?_
 refine p1 (Ae un4 rfl (hb.cell (rfl))) ?_
 refine pA (Ac (t_n ?_))
 refine Ia rfl (fun hc19=>?_) (fun hc19=>?_)
 ·try simp only[dA,dB,dC,dD,dE,dF,dG,Int.not_lt,Int.not_le] at hc19
  have hp:putC C xss ix=(C,20):=by unfold putC;rw[if_pos hc19]
  refine Ab (Aa ?_)
  refine pA (Ac (t_n (Ak (b_r (t_r ?_)))))
  refine eR1 ?_
  (rw[hp];exact⟨rfl,(hCX0.start.ext hX).done,ModS.ofExt hX⟩)
 try simp only[dA,dB,dC,dD,dE,dF,dG,Int.not_lt,Int.not_le] at hc19
 refine Ab ?_
 have hWr5:=Ext.refl w1
 refine F6 (ι:=Unit) [24,25,26,27,28,29,30,31] (fun _=>[(24,.bool (decide (524288<ix.length∨∃ x∈xss,1048576<x.length)))]) (fun _ w'=>Ext w1 w') ?_ ?_
 ·skip
  refine Aa ?_
  refine pM ?_
  refine p1 (Aj u23 rfl) ?_
  refine p1 (C0 rfl rfl) ?_
  refine p1b (Al (by conv=>lhs;whnf)) (fun hb5_3=>?_) (fun hb5_3=>?_)
  ·try simp only[dA,dB,dC,dD,dE,dF,dG,Int.not_lt,Int.not_le] at hb5_3
   refine gF 28 (gF 28 ?_)
   refine p1 (Ap rfl (by conv=>lhs;whnf)) ?_
   refine pA (Ac ?_)
   refine t_n (aK () ⟨congrArg Value.bool (by have hixl:=hix.len;exact(decide_eq_true (.inl (by omega))).symm),trivial⟩ hWr5)
  try simp only[dA,dB,dC,dD,dE,dF,dG,Int.not_lt,Int.not_le] at hb5_3
  refine gM 28 ?_
  refine B8 28 rfl rfl ?_
  refine Ah Tryz.func52 fn52 fb52 (Qk xss B _ _ _ _ (hl.ext hX)) rfl ?_
  rintro v3 w3 ⟨rfl,hE3⟩
  have hWr5:=hWr5.ext hE3
  refine p1 (Aq rfl (by conv=>lhs;whnf)) ?_
  refine pA (Ac ?_)
  refine t_n (aK () ⟨congrArg Value.bool (by have hixl:=hix.len;exact decide_eq_decide.2 ⟨.inr,fun h=>h.resolve_left (by omega)⟩),trivial⟩ hWr5)
 rintro _ Gr5 w2 hE2
 have hX:=hX.ext hE2
 have hb:=hb.ext hE2
 have hB3:=hB3.ext hE2
 refine t_n ?_
 refine As rfl (fun hc24=>?_) (fun hc24=>?_)
 ·try simp only[dA,dB,dC,dD,dE,dF,dG,Int.not_lt,Int.not_le] at hc24
  have hp:putC C xss ix=(C,5):=by unfold putC;rw[if_neg (by rw[hc19];simp),if_pos hc24]
  refine Ab (Aa ?_)
  refine pA (Ac (t_n (Ak (b_r (t_r ?_)))))
  refine eR1 ?_
  (rw[hp];exact⟨rfl,(hCX0.start.ext hX).done,ModS.ofExt hX⟩)
 try simp only[dA,dB,dC,dD,dE,dF,dG,Int.not_lt,Int.not_le] at hc24
 have hpm:=Jq (C:=C) (cs:=xss) (ix:=ix) (by rw[hc19];simp) hc24
 have hle:∀ x∈xss,x.length≤1048576:=fun x hx=>Nat.le_of_not_lt fun h=>hc24 (.inr ⟨x,hx,h⟩)
 have hixl:=hix.len
 have hix5:ix.length≤524288:=Nat.le_of_not_lt fun h=>hc24 (.inl h)
 have hlen:=hl.len
 have hcap:=hl.cap
 have hfit:=hl.fit
 refine Ai (b_n (t_n (Ab (Aa ?_))))
 have hXs:=hX.size
 refine H2 (κ:=Hash) (ν:=R3) ?_
 intro w4 g32 hE4 hK32
 have hX:=hX.ext hE4
 have hb:=hb.ext hE4
 have hB3:=hB3.ext hE4
 have hMf:=hK32 Bf vCh 0 w.heap.size (hXs)
 have hgl0:=hMf.low
 refine pA (Ac (t_n (Ab (Aa ?_))))
 refine pA (Ac (t_n (Ab (Ab (Aa ?_)))))
 refine pM ?_
 refine p1 (Aj u22 rfl) ?_
 refine pM (Ac (t_n (Am ?_)))
 refine Bg (ι:=Nat×Option Addr×Nat×Nat) [8,10,11,12,35,36,37,38,39,40,41,42,43,44,45,46,47,48,49,50,51,52,53,54,55,56,57,58,59,60,61,62,63,64] (fun (k,ql,ml,cl)=>[(8,.slice ql ml cl),(35,.int .i64 (k:Int))]) (fun (k,ql,ml,cl) w'=>Ext w w'∧(k≤n∧(∃ μf,Mp Bf vCh 0 w.heap.size w' g32 μf∧Chs Sd w' μf (Av C.L (xss.take k)))∧Own (kOb w.heap.size) 23 0 w.heap.size w' ql ml cl (Av C.L (xss.take k))∧Blk w' g3 #[.pointer (some ⟨g,0,none⟩)] 30)) (fun (k,ql,ml,cl)=>n - k) ((0,none,0,0)) ⟨rfl,rfl,trivial⟩ ⟨hX,Nat.zero_le _,⟨_,hMf,by rw[List.take_zero];exact Chs.none_ Sd _⟩,by rw[List.take_zero];exact Own.nil _ _ _ _ _,hB3⟩ ?_
 rintro⟨k,ql,ml,cl⟩ GL1 w5 ⟨hE5,hk,⟨μf,hMf,hCf⟩,hLo,hB3⟩
 have hX:=hE5
 have hCX:=hCX0.ext hX
 have hM:=hCX.m
 have hC:=hCX.c
 have hb:=hCX.b
 have hg:=hg0.ext hX
 have hmll:=hLo.len
 have hml:=Pp (xss.take k) C.L
 rw[List.length_take] at hml
 refine Ab (Aa ?_)
 refine p1 (Bx rfl rfl) ?_
 refine Ac (t_n (Ab ?_))
 refine As rfl (fun hc36=>?_) (fun hc36=>?_)
 ·try simp only[dA,dB,dC,dD,dE,dF,dG,Int.not_lt,Int.not_le] at hc36
  refine Ai (t_n (Ab (Am (Ab ?_))))
  obtain⟨qk,mk,ck,hck,hrow0⟩:=hl.slAt k (by omega)
  have hlek:=hle _ (Cn (z:=[]) (xs:=xss) (i:=k) (by omega) rfl)
  have hrl0:=hrow0.len
  refine Aa ?_
  refine p1 (C5 (i:=k) u22 sz23 rfl rfl ((hl.ext hX).adr J5 (by omega)) (by omega)) ?_
  refine p1 (Ae un23 rfl (hX.cell hck)) ?_
  refine pA (Ac (t_n (Ab (Aa ?_))))
  refine pM ?_
  have hXs:=hX.size
  refine Ah Tryz.func34 fn34 fb34 (K6 (xss.getD k []) _ _ _ _ _ (hrow0.ext hX) (by omega) (by omega) hg.r hg.b (by have:=hg.size;omega)) rfl ?_
  rintro v6 w6 ⟨rfl,hE6⟩
  have hX:=hX.ext hE6
  have hCX:=hCX.ext hE6
  have hM:=hM.ext hE6
  have hC:=hC.ext hE6
  have hb:=hb.ext hE6
  have hg:=hg.ext hE6
  have hMf:=hMf.ext hE6
  have hCf:=hCf.ext hE6
  have hLo:=hLo.ext hE6
  have hB3:=hB3.ext hE6
  have hz11:=hX.size
  have hl11_3:=hB3.lt
  refine A6 zr64 ?_
  intro w7 g11 hN11
  have hE7:=hN11.ext
  have hX:=hX.ext hE7
  have hCX:=hCX.ext hE7
  have hM:=hM.ext hE7
  have hC:=hC.ext hE7
  have hb:=hb.ext hE7
  have hg:=hg.ext hE7
  have hMf:=hMf.ext hE7
  have hCf:=hCf.ext hE7
  have hLo:=hLo.ext hE7
  have hB3:=hB3.ext hE7
  have hB11:=hN11.blk
  have hq11:=hN11.g_eq
  refine Az rfl rfl (Cm _) (B4 sz64 _) hB11 (Dl _) ?_
  intro w8 hP8
  have hX:=hX.put hP8 (by omega)
  have hCX:=hCX0.ext hX
  have hM:=(hCX0.ext hX).m
  have hC:=(hCX0.ext hX).c
  have hb:=(hCX0.ext hX).b
  have hg:=hg.put hP8 (by omega)
  have hMf:=hMf.mod (hP8.mod 0 (Nat.zero_le _)) (Nat.zero_le _) (by decide)
  have hCf:=hCf.mod (hP8.mod 0 (Nat.zero_le _)) (Nat.zero_le _) (by decide)
  have hLo:=hLo.mod (hP8.mod 0 (Nat.zero_le _)) (Nat.zero_le _) (by simp[kOb])
  have hB3:=hP8.keep hB3 (by omega)
  have hB11:=hP8.blk
  refine Ac (t_n (Ab ?_))
  refine Du mixed (by kernel_rfl) ?_
  intro w9 hE9
  have hX:=hX.ext hE9
  have hCX:=hCX.ext hE9
  have hM:=hM.ext hE9
  have hC:=hC.ext hE9
  have hb:=hb.ext hE9
  have hg:=hg.ext hE9
  have hMf:=hMf.ext hE9
  have hCf:=hCf.ext hE9
  have hLo:=hLo.ext hE9
  have hB3:=hB3.ext hE9
  have hB11:=hB11.ext hE9
  refine s1 (Ae un30 rfl (hB3.cell (rfl))) ?_
  refine s1 (Af rfl) ?_
  refine s1 (Ad Fp sz88 rfl) ?_
  refine s1 (Ae un88 rfl (hb.cell (rfl))) ?_
  refine s1 (Bh ua64 rfl hB11 (B4 sz64 _)) ?_
  obtain⟨⟨p0,n0,c0⟩,hr0⟩:∃ x:R3,x=(μ (shaF (xss.getD k []))).getD r30:=⟨_,rfl⟩
  obtain⟨hC0a,hC0b⟩:=hC.get (shaF (xss.getD k []))
  rw[← hr0] at hC0a hC0b
  simp only at hC0a hC0b
  refine s1 (((lookC u88 zr23 (Cg u64 u5 sz5) hM (shaF (xss.getD k [])) rfl rfl)).cast (by rw[← hr0];rfl:r3V _=Value.slice p0 n0 c0)) ?_
  refine s1 (D9 u23 rfl rfl) ?_
  refine s1b (Al (by conv=>lhs;whnf)) (fun hb13_7=>?_) (fun hb13_7=>?_)
  ·try simp only[dA,dB,dC,dD,dE,dF,dG,Int.not_lt,Int.not_le] at hb13_7
   refine sg1 48 rfl rfl (Al (by conv=>lhs;whnf)) ?_
   refine sg1 48 rfl rfl (Bh ua64 rfl hB11 (B4 sz64 _)) ?_
   obtain⟨⟨p9,n9,c9⟩,hr9⟩:∃ x:R3,x=(μf (shaF (xss.getD k []))).getD r30:=⟨_,rfl⟩
   obtain⟨hC9a,hC9b⟩:=hCf.get (shaF (xss.getD k []))
   rw[← hr9] at hC9a hC9b
   simp only at hC9a hC9b
   refine sg1 48 rfl rfl (((lookC u88 zr23 (Cg u64 u5 sz5) (hMf.lower (Nat.zero_le _)) (shaF (xss.getD k [])) rfl rfl)).cast (by rw[← hr9];rfl:r3V _=Value.slice p9 n9 c9)) ?_
   refine sg1 48 rfl rfl (D9 u23 rfl rfl) ?_
   refine s1 (Ap rfl (by conv=>lhs;whnf)) ?_
   refine Ca (t_n ?_)
   refine As rfl (fun hc53=>?_) (fun hc53=>?_)
   ·try simp only[dA,dB,dC,dD,dE,dF,dG,Int.not_lt,Int.not_le] at hc53
    have hfn:Av C.L (xss.take (k+1))=Av C.L (xss.take k)++[xss.getD k []]:=by
      rw[Fg (by omega),Iz,if_pos]
      rw[Be,Option.or_eq_none_iff]
      exact⟨hC0a.1 (by simpa using hb13_7),hC9a.1 hc53⟩
    refine Ab (Aa ?_)
    have hXz:=hX.size
    refine Au u23 inf5 rfl (by decide) (fun base hb=>by have h0:base=#[]:=Array.eq_empty_of_size_eq_zero (by simpa using hb);subst h0;rfl) ?_
    intro wJ g54 hN54
    have hE54:=hN54.ext
    have hJ:Own kByte 5 0 w9.heap.size wJ (some ⟨g54,0,none⟩) 0 0 []:=Cw (B0:=w9.heap.size) ([]:List UInt8) hN54 (Nat.le_refl _) (by simp)
    refine pM ?_
    have hrl:=(hrow0.ext hX).len
    refine Qz (d:=kByte) (xss.getD k []) u23 inf5 rfl Bw rfl rfl hJ (C6 u23 ((hrow0.ext hX).ext hE54) (by decide)) hrl (C8 _ _ _) rfl (by omega) (by omega) hE54.size (Nat.zero_le _) (by decide) ?_
    intro p56 c56 w10 hA hM10 hp56 hon56
    rw[List.nil_append] at hA
    have hA:=hA.lower hXz
    have hE10:Ext w9 w10:=hE54.mod hM10 (Nat.le_refl _)
    have hpn:p56≠none:=by rcases hp56 with h | ⟨g,h,_⟩ <;> rw[h] <;> simp
    have hX:=hX.ext hE10
    have hCX:=hCX.ext hE10
    have hM:=hM.ext hE10
    have hC:=hC.ext hE10
    have hb:=hb.ext hE10
    have hg:=hg.ext hE10
    have hMf:=hMf.ext hE10
    have hCf:=hCf.ext hE10
    have hLo:=hLo.ext hE10
    have hB3:=hB3.ext hE10
    have hB11:=hB11.ext hE10
    refine pA (Ac (t_n (Ab (Aa ?_))))
    refine pM ?_
    refine p1 (Bh ua64 rfl hB11 (B4 sz64 _)) ?_
    refine pM ?_
    refine U0 (a:=(shaF (xss.getD k []))) (b:=(p56,0+mk,c56)) u88 (Cg u64 u5 sz5) rfl rfl rfl hMf rfl (Nat.zero_le _) (by decide) ?_
    intro w11 hMf hM11
    have hX:=hX.mod hM11 (Nat.le_refl _)
    have hCX:=hCX0.ext hX
    have hM:=hCX.m
    have hC:=hCX.c
    have hb:=hCX.b
    have hg:=hg0.ext hX
    have hCf:=hCf.mod hM11 (Nat.zero_le _) (by decide)
    have hLo:=hLo.mod hM11 (Nat.zero_le _) (by show tMap∉[23,5];decide)
    have hB3:=hB3.mod hM11 (by decide)
    have hA:=hA.mod hM11 (Nat.zero_le _) (by decide)
    have hFA:=FB.ofOwn (S:=nS Sd) hA (fun j _ hj hs=>by have:=hSd j hs;omega)
    have hCf:=hCf.put (hC9a.1 hc53) (p56,0+mk,c56) hpn hFA
    refine Ac (t_n (Aa ?_))
    refine pM (pM ?_)
    refine Au u22 inf23 rfl (by decide) (fun base hb=>Cj (by rfl) base hb) ?_
    intro w12 g62 hN62
    have hE12:=hN62.ext
    have hX:=hX.ext hE12
    have hCX:=hCX.ext hE12
    have hM:=hM.ext hE12
    have hC:=hC.ext hE12
    have hb:=hb.ext hE12
    have hg:=hg.ext hE12
    have hMf:=hMf.ext hE12
    have hCf:=hCf.ext hE12
    have hLo:=hLo.ext hE12
    have hB3:=hB3.ext hE12
    have hA:=hA.ext hE12
    have hJ:=X5 hN62 hA
    obtain⟨cssJ,hAJ,hsrJ⟩:=Dx u22 hJ Lk
    have hB1:=hX.size
    refine Bv (d:=(kOb _)) ([(xss.getD k [])]) u22 inf23 rfl Lk rfl rfl hLo (hsrJ) rfl (hAJ) (rfl) (by omega) (by omega) (by omega) (by omega) (by simp[kOb]) ?_
    intro p63 c63 w13 hLo hM13
    have hX:=hX.mod hM13 (Nat.le_refl _)
    have hCX:=hCX0.ext hX
    have hM:=(hCX0.ext hX).m
    have hC:=(hCX0.ext hX).c
    have hb:=(hCX0.ext hX).b
    have hg:=hg0.ext hX
    have hMf:=hMf.mod hM13 (Nat.zero_le _) (by decide)
    have hCf:=hCf.mod hM13 (Nat.zero_le _) (by decide)
    have hB3:=hB3.mod hM13 (by decide)
    refine pA (Ac (b_n (t_n (Aa ?_))))
    refine p1 (Aw rfl rfl (Ag (by omega) (by omega))) ?_
    refine pM (Ac ?_)
    exact t_n (aK ((k+1,p63,ml+1,c63)) ⟨rfl,rfl,trivial⟩ ⟨⟨hX,by omega,⟨_,hMf,by rw[hfn];exact hCf⟩,by rw[hfn];exact hLo,hB3⟩,by(dsimp only;omega)⟩)
   try simp only[dA,dB,dC,dD,dE,dF,dG,Int.not_lt,Int.not_le] at hc53
   have hfn:Av C.L (xss.take (k+1))=Av C.L (xss.take k):=by
     rw[Fg (by omega),Iz,if_neg]
     rw[Be,Option.or_eq_none_iff]
     rintro⟨h1,h2⟩
     exact hc53 (hC9a.2 h2)
   refine Ai (b_n (t_n (Aa ?_)))
   refine p1 (Aw rfl rfl (Ag (by omega) (by omega))) ?_
   refine pM (Ac ?_)
   exact t_n (aK ((k+1,ql,ml,cl)) ⟨rfl,rfl,trivial⟩ ⟨⟨hX,by omega,⟨_,hMf,by rw[hfn];exact hCf⟩,by rw[hfn];exact hLo,hB3⟩,by(dsimp only;omega)⟩)
  try simp only[dA,dB,dC,dD,dE,dF,dG,Int.not_lt,Int.not_le] at hb13_7
  refine sg0 48 rfl (by exact .inl rfl) ?_
  refine sg0 48 rfl (by exact .inl rfl) ?_
  obtain⟨⟨p9,n9,c9⟩,hr9⟩:∃ x:R3,x=(μf (shaF (xss.getD k []))).getD r30:=⟨_,rfl⟩
  obtain⟨hC9a,hC9b⟩:=hCf.get (shaF (xss.getD k []))
  rw[← hr9] at hC9a hC9b
  simp only at hC9a hC9b
  refine sg0 48 rfl (by exact .inl rfl) ?_
  refine sg0 48 rfl (by exact .inl rfl) ?_
  refine s1 (Aq rfl (by conv=>lhs;whnf)) ?_
  refine Ca (t_n ?_)
  refine c_f rfl ?_
  have hfn:Av C.L (xss.take (k+1))=Av C.L (xss.take k):=by
    rw[Fg (by omega),Iz,if_neg]
    rw[Be,Option.or_eq_none_iff]
    rintro⟨h1,h2⟩
    (have h3:=hC0a.2 h1;simp_all)
  refine Ai (b_n (t_n (Aa ?_)))
  refine p1 (Aw rfl rfl (Ag (by omega) (by omega))) ?_
  refine pM (Ac ?_)
  exact t_n (aK ((k+1,ql,ml,cl)) ⟨rfl,rfl,trivial⟩ ⟨⟨hX,by omega,⟨_,hMf,by rw[hfn];exact hCf⟩,by rw[hfn];exact hLo,hB3⟩,by(dsimp only;omega)⟩)
 try simp only[dA,dB,dC,dD,dE,dF,dG,Int.not_lt,Int.not_le] at hc36
 have hkk:xss.take k=xss:=List.take_of_length_le (by omega)
 rw[hkk] at hCf hLo
 have hfc:∀ x∈Av C.L xss,x.length≤1048576:=fun x hx=>hle x (Dh xss C.L x hx).2
 have hpf:=Ut hfc
 have hpf2:(putF (Av C.L xss)).2=0:=by rw[hpf]
 have hsl:=K7 hfc
 have hfl:=Pp xss C.L
 have hgl1:=hMf.lt
 have hng:¬ Sd g32:=fun h=>by have:=hSd g32 h;omega
 refine Ba (t_e (t_e (Bu (t_n (Ab ?_)))))
 have hXq:=hX.size
 refine Aa ?_
 refine pM ?_
 refine Ah Tryz.func54 fn54 fb54 (Mv (Av C.L xss) _ _ _ _ _ hLo.sl.obSl (by show (segB (Av C.L xss)).length≤_;have:(Av C.L xss).length * 1048591≤100000 * 1048591:=Nat.mul_le_mul (by omega) (Nat.le_refl _);omega) hg.l.q) rfl ?_
 rintro v14 w14 ⟨⟨qb,mb,cb,rfl,hO⟩,hE14⟩
 have hX:=hX.ext hE14
 have hCX:=hCX.ext hE14
 have hM:=hM.ext hE14
 have hC:=hC.ext hE14
 have hb:=hb.ext hE14
 have hg:=hg.ext hE14
 have hMf:=hMf.ext hE14
 have hCf:=hCf.ext hE14
 have hLo:=hLo.ext hE14
 have hB3:=hB3.ext hE14
 rw[hpf] at hO
 have hO:=hO.lower hXq
 have hOl:(segB (Av C.L xss)).length=mb:=hO.len
 have hmlx:=hLo.len
 refine pM ?_
 refine p1 (Ao rfl rfl) ?_
 refine p1 (Ao rfl rfl) ?_
 have hz13:=hX.size
 have hl13_3:=hB3.lt
 refine A6 zr23 ?_
 intro w15 g13 hN13
 have hE15:=hN13.ext
 have hX:=hX.ext hE15
 have hCX:=hCX.ext hE15
 have hM:=hM.ext hE15
 have hC:=hC.ext hE15
 have hb:=hb.ext hE15
 have hg:=hg.ext hE15
 have hMf:=hMf.ext hE15
 have hCf:=hCf.ext hE15
 have hB3:=hB3.ext hE15
 have hO:=hO.ext hE15
 have hB13:=hN13.blk
 have hq13:=hN13.g_eq
 refine Ar rfl (by conv=>lhs;whnf) rfl rfl sz23 hB13 (by exact Nat.zero_lt_one) ?_
 intro w16 hP16
 have hX:=hX.put hP16 (by omega)
 have hCX:=hCX0.ext hX
 have hM:=(hCX0.ext hX).m
 have hC:=(hCX0.ext hX).c
 have hb:=(hCX0.ext hX).b
 have hg:=hg.put hP16 (by omega)
 have hMf:=hMf.mod (hP16.mod 0 (Nat.zero_le _)) (Nat.zero_le _) (by decide)
 have hCf:=hCf.mod (hP16.mod 0 (Nat.zero_le _)) (Nat.zero_le _) (by decide)
 have hB3:=hP16.keep hB3 (by omega)
 have hO:=hO.mod (hP16.mod 0 (Nat.zero_le _)) (Nat.zero_le _) (by decide)
 have hB13:=hP16.blk
 try simp only[List.setIfInBounds_toArray,List.set_cons_zero,List.set_cons_succ] at hB13
 refine pA (Ac (t_n (Ab (Aa ?_))))
 refine p1 (Ae un30 rfl (hB3.cell (rfl))) ?_
 refine p1 (Af rfl) ?_
 refine p1 (Ad Ch sz3 rfl) ?_
 refine p1 (Ae un3 rfl (hb.cell (rfl))) ?_
 refine Ah Tryz.func49 fn49 fb49 (A3 (C.seg:Int) _ hg.l) rfl ?_
 rintro v17 w17 ⟨rfl,hE17⟩
 have hX:=hX.ext hE17
 have hCX:=hCX.ext hE17
 have hM:=hM.ext hE17
 have hC:=hC.ext hE17
 have hb:=hb.ext hE17
 have hg:=hg.ext hE17
 have hMf:=hMf.ext hE17
 have hCf:=hCf.ext hE17
 have hB3:=hB3.ext hE17
 have hO:=hO.ext hE17
 have hB13:=hB13.ext hE17
 have hz15:=hX.size
 have hl15_3:=hB3.lt
 have hl15_13:=hB13.lt
 refine A6 zr9 ?_
 intro w18 g15 hN15
 have hE18:=hN15.ext
 have hX:=hX.ext hE18
 have hCX:=hCX.ext hE18
 have hM:=hM.ext hE18
 have hC:=hC.ext hE18
 have hb:=hb.ext hE18
 have hg:=hg.ext hE18
 have hMf:=hMf.ext hE18
 have hCf:=hCf.ext hE18
 have hB3:=hB3.ext hE18
 have hO:=hO.ext hE18
 have hB13:=hB13.ext hE18
 have hB15:=hN15.blk
 have hq15:=hN15.g_eq
 refine Ar rfl (by conv=>lhs;whnf) rfl rfl sz9 hB15 (by exact Nat.zero_lt_one) ?_
 intro w19 hP19
 have hX:=hX.put hP19 (by omega)
 have hCX:=hCX0.ext hX
 have hM:=(hCX0.ext hX).m
 have hC:=(hCX0.ext hX).c
 have hb:=(hCX0.ext hX).b
 have hg:=hg.put hP19 (by omega)
 have hMf:=hMf.mod (hP19.mod 0 (Nat.zero_le _)) (Nat.zero_le _) (by decide)
 have hCf:=hCf.mod (hP19.mod 0 (Nat.zero_le _)) (Nat.zero_le _) (by decide)
 have hB3:=hP19.keep hB3 (by omega)
 have hO:=hO.mod (hP19.mod 0 (Nat.zero_le _)) (Nat.zero_le _) (by decide)
 have hB13:=hP19.keep hB13 (by omega)
 have hB15:=hP19.blk
 try simp only[List.setIfInBounds_toArray,List.set_cons_zero,List.set_cons_succ] at hB15
 refine Ac (t_n (Ab (Ab (Aa ?_))))
 refine pM ?_
 refine p1 (Aj u22 rfl) ?_
 refine p1 (C0 rfl rfl) ?_
 refine Ac (t_n ?_)
 refine As rfl (fun hc77=>?_) (fun hc77=>?_)
 ·try simp only[dA,dB,dC,dD,dE,dF,dG,Int.not_lt,Int.not_le] at hc77
  have hlne:Av C.L xss≠[]:=fun e=>by rw[e] at hmlx;simp at hmlx;omega
  have hr1:=L6 (C:=C) hlne
  refine Aa ?_
  refine p1 (Bi (fs:=[]) (cs:=[.pointer (some ⟨g3,0,none⟩),.pointer (some ⟨g15,0,none⟩),.pointer (some ⟨g13,0,none⟩)]) rfl rfl) ?_
  refine p1 (Bi (fs:=[]) (cs:=[.pointer (some ⟨g3,0,none⟩),.pointer (some ⟨g15,0,none⟩)]) rfl rfl) ?_
  refine Au u149 inf95 rfl (by decide) (fun base hb=>Gc [fcv (55,[.pointer (some ⟨g3,0,none⟩),.pointer (some ⟨g15,0,none⟩),.pointer (some ⟨g13,0,none⟩)]),fcv (56,[.pointer (some ⟨g3,0,none⟩),.pointer (some ⟨g15,0,none⟩)])] (by intro v hv';simp only[List.mem_cons,List.not_mem_nil,or_false] at hv';rcases hv' with rfl | rfl <;> rfl) base hb) ?_
  intro w20 g80 hN80
  have hE20:=hN80.ext
  have hX:=hX.ext hE20
  have hCX:=hCX.ext hE20
  have hb:=hb.ext hE20
  have hg:=hg.ext hE20
  have hMf:=hMf.ext hE20
  have hCf:=hCf.ext hE20
  have hB3:=hB3.ext hE20
  have hO:=hO.ext hE20
  have hB13:=hB13.ext hE20
  have hB15:=hB15.ext hE20
  have hS80:Sl kFn 95 0 w20 (some ⟨g80,0,none⟩) 2 2 [(55,[.pointer (some ⟨g3,0,none⟩),.pointer (some ⟨g15,0,none⟩),.pointer (some ⟨g13,0,none⟩)]),(56,[.pointer (some ⟨g3,0,none⟩),.pointer (some ⟨g15,0,none⟩)])]:=(Cw (B0:=0) ([(55,[.pointer (some ⟨g3,0,none⟩),.pointer (some ⟨g15,0,none⟩),.pointer (some ⟨g13,0,none⟩)]),(56,[.pointer (some ⟨g3,0,none⟩),.pointer (some ⟨g15,0,none⟩)])]:List Clo) hN80 (Nat.zero_le _) (by simp)).sl
  have hD:=hCX.d
  have hOu:=X3 (S:=Sd) hO hSd
  have hXs:=hX.size
  refine Ah Tryz.func45 fn45 fb45 (Lz [(55,[.pointer (some ⟨g3,0,none⟩),.pointer (some ⟨g15,0,none⟩),.pointer (some ⟨g13,0,none⟩)]),(56,[.pointer (some ⟨g3,0,none⟩),.pointer (some ⟨g15,0,none⟩)])] [fun D=>A4 D (nSeg C.seg) (segB (Av C.L xss)),fun D=>syncD D (nSeg C.seg)] (fun i=>k_+i) gd Sd C.D _ _ _ _ hD (hGd) hS80 rfl (fun i hi=>?_)) rfl ?_
  · rcases i with _ | _ | i
    · exact⟨Tryz.f55,Tryz.func55,fn55,fb55,fun Di w1 hDi m hgi=>(Af5 gd _ Di w1 hDi hgi.ok (Nat.lt_of_le_of_lt hgi.steps (by show _+_<_;omega)) hgi.left hgi.names g3 g15 g _ (nSeg C.seg) (Ci _) (hB3.modS m (.inr (by decide))) (hb.modS m (.inr (by decide))) rfl (hB15.modS m (.inr (by decide))) g13 _ _ _ _ _ _ (hB13.modS m (.inr (by decide))) (hOu.modS m).sl).dg (hgi.append _ _)⟩
    · exact⟨Tryz.f56,Tryz.func56,fn56,fb56,fun Di w1 hDi m hgi=>(Af4 gd _ Di w1 hDi hgi.ok (Nat.lt_of_le_of_lt hgi.steps (by show _+_<_;omega)) hgi.left hgi.names g3 g15 g _ (nSeg C.seg) (Ci _) (hB3.modS m (.inr (by decide))) (hb.modS m (.inr (by decide))) rfl (hB15.modS m (.inr (by decide)))).dg (hgi.sync _)⟩
    · exact absurd hi (by omega)
  rintro v21 w21 ⟨rfl,hD2,hM2⟩
  have hXe:=hX
  have hgl:=hMf.lt
  have hX:=(ModS.ofExt (S:=S) (E:=EC) hXe).stepE hM2 (Db hCX0.start)
  have hCX:=(hCX0.start.ext hXe).stepD hXs hM2 hD2
  have hb:Blk _ g (stoV gd C pi ni ci r nx) tSto:=hCX.b
  have hg:=hg.modS hM2 (fun j hj=>hS j (hCX0.sub j hj))
  have hB3:=hB3.modS hM2 (.inr (by decide))
  have hB13:=hB13.modS hM2 (.inr (by decide))
  have hMf:=(hMf.lower (Nat.zero_le _)).turn hM2 hng rfl
  have hCf:=hCf.turn hM2
  have hng:¬ grow Sd w20 w21 g32:=fun h=>hng (G1 h hgl)
  have hgl:=hMf.lt
  have hGd:Good (runD [fun D=>A4 D (nSeg C.seg) (segB (Av C.L xss)),fun D=>syncD D (nSeg C.seg)] C.D).1 (k_+2):=(hGd.append _ _).andD (fun D h=>(h.sync _).andD (fun D h=>h) (Nat.le_refl _)) (by omega)
  refine pA (Ac (t_n (Ab (Ab (Aa ?_)))))
  refine pM ?_
  refine p1 (Bn rfl rfl) ?_
  refine Ac (t_n ?_)
  refine As rfl (fun hc83=>?_) (fun hc83=>?_)
  ·try simp only[dA,dB,dC,dD,dE,dF,dG,Int.not_lt,Int.not_le] at hc83
   have hpr:=Er (f:=fun D=>writeM D ⟨C.seg,C.size+(segB (Av C.L xss)).length,ix⟩) (r:=put1 C (Av C.L xss)) (by rw[hr1];try omega)
   have hput:putR C (Av C.L xss) ix=writeM (put1 C (Av C.L xss)).1 ⟨C.seg,C.size+mb,ix⟩:=by rw[← hOl];exact hpr
   rw[hr1] at hput
   refine Cp 17 mixed (by kernel_rfl) ?_
   intro w22 hE22
   have hX:=hX.ext hE22
   have hCX:=hCX.ext hE22
   have hb:=hb.ext hE22
   have hg:=hg.ext hE22
   have hB3:=hB3.ext hE22
   have hB13:=hB13.ext hE22
   have hMf:=hMf.ext hE22
   have hCf:=hCf.ext hE22
   refine s1 (Ae un30 rfl (hB3.cell (rfl))) ?_
   refine s1 (Af rfl) ?_
   refine s1 (Ad Cr sz34 rfl) ?_
   refine s1 (Ae un34 rfl (hb.cell (rfl))) ?_
   refine s1 (Ae un30 rfl (hB3.cell (rfl))) ?_
   refine s1 (Af rfl) ?_
   refine s1 (Ad Ch sz3 rfl) ?_
   refine s1 (Ae un3 rfl (hb.cell (rfl))) ?_
   refine s1 (Ae un30 rfl (hB3.cell (rfl))) ?_
   refine s1 (Af rfl) ?_
   refine s1 (Ad D6 sz3 rfl) ?_
   refine s1 (Ae un3 rfl (hb.cell (rfl))) ?_
   refine s1 (Ae un23 rfl (hB13.cell (rfl))) ?_
   refine s1 (Aj u23 rfl) ?_
   refine s1 ((Aw rfl rfl (Ag (by omega) (by omega))).cast (congrArg (Value.int .i64) (by omega:_=((C.size+mb:Nat):Int)))) ?_
   refine s1 (Al (by conv=>lhs;whnf)) ?_
   refine s1 (N9 pl99 rfl rfl rfl rfl rfl rfl) ?_
   refine Ca ?_
   have hXs:=hX.size
   have hgl:=hMf.lt
   have hix2:=(hix.modS hX).sl5
   refine Ah Tryz.func51 fn51 fb51 (Ge gd _ _ _ hCX.d hGd.ok (Nat.lt_of_le_of_lt hGd.steps (by omega)) hGd.left hGd.names C.seg (C.size+mb) ix 0 _ _ _ _ hix2 hg.l.q) rfl ?_
   rintro v23 w23 ⟨rfl,hD2,hM2⟩
   have hmz:=hM2.size
   have hMf:=(hMf.lower (Nat.zero_le _)).turn hM2 hng rfl
   have hng:¬ grow _ w22 w23 g32:=fun h=>hng (G1 h hgl)
   have hgl:=hMf.lt
   have hX:=hX.stepE hM2 (Db hCX)
   have hCf:=hCf.turn hM2
   have hg:=hg.modS hM2 (fun j hj=>(hCX.sub j hj).elim (hS j) fun q=>Nat.le_trans hgs q)
   have hCX:=hCX.stepD hXs hM2 hD2
   have hb:Blk w23 g (stoV gd C pi ni ci r nx) tSto:=hCX.b
   have hGd:=hGd.writeM ⟨C.seg,C.size+mb,ix⟩
   have hB3:=hB3.modS hM2 (.inr (by decide))
   have hB13:=hB13.modS hM2 (.inr (by decide))
   refine pA (Ac (t_n (Ab (Ab (Aa ?_)))))
   refine pM ?_
   refine p1 (A2 rfl rfl) ?_
   refine Ac (t_n ?_)
   refine As rfl (fun hc103=>?_) (fun hc103=>?_)
   ·try simp only[dA,dB,dC,dD,dE,dF,dG,Int.not_lt,Int.not_le] at hc103
    refine Ab (Aa ?_)
    refine p1 (Ae un30 rfl (hB3.cell (rfl))) ?_
    refine pM ?_
    have hXs:=hX.size
    refine Ah Tryz.func57 fn57 fb57 (Gs g gd r (opn S w) _ μ pi nx ni ci _ (k_+6) _ hCX ⟨hGd.mono (by omega),hn.hi,hn.sz,hn.ix,hn.nx,hn.ln,hn.cl⟩ (fun j hj=>hj.elim (hS j) (fun q=>Nat.le_trans hgs q)) hg (by omega) _ false) rfl ?_
    rintro v24 w24 ⟨rfl,hCU,hMU⟩
    have hX:=hX.trans hMU (fun j hj h=>h.resolve_right (by omega))
    refine pA (Ac (t_n (Ak (t_r ?_))))
    refine eR1 ?_
    (rw[hpm,hput,if_pos hc103];exact⟨rfl,hCU.mono (fun j hj h=>h.elim (fun a=>a.imp id fun b=>⟨b,hj⟩) (fun ⟨a,_⟩ => .inr ⟨by omega,hj⟩)),hX⟩)
   try simp only[dA,dB,dC,dD,dE,dF,dG,Int.not_lt,Int.not_le] at hc103
   refine Ai (t_n (Ab ?_))
   refine Cp 9 mixed (by kernel_rfl) ?_
   intro w25 hE25
   have hX:=hX.ext hE25
   have hCX:=hCX.ext hE25
   have hb:=hb.ext hE25
   have hB3:=hB3.ext hE25
   have hB13:=hB13.ext hE25
   have hMf:=hMf.ext hE25
   have hCf:=hCf.ext hE25
   refine s1 (Ae un30 rfl (hB3.cell (rfl))) ?_
   refine s1 (Af rfl) ?_
   refine s1 (Ad D6 sz3 rfl) ?_
   refine s1 (Ae un3 rfl (hb.cell (rfl))) ?_
   refine s1 (Ae un23 rfl (hB13.cell (rfl))) ?_
   refine s1 (Aj u23 rfl) ?_
   refine s1 ((Aw rfl rfl (Ag (by omega) (by omega))).cast (congrArg (Value.int .i64) (by omega:_=((C.size+mb:Nat):Int)))) ?_
   refine s1 (Af rfl) ?_
   refine s1 (Ad D6 sz3 rfl) ?_
   refine Ca ?_
   refine Ar rfl (by conv=>lhs;whnf) rfl rfl sz3 hb (by show _<7;omega) ?_
   intro w26 hP26
   have hX:=hX.put hP26 (⟨.inl hsg,by decide⟩)
   have hb:=hP26.blk
   try simp only[List.setIfInBounds_toArray,List.set_cons_zero,List.set_cons_succ] at hb
   have hB3:=hP26.keep hB3 (by omega)
   have hB13:=hP26.keep hB13 (by omega)
   have hMf:=hMf.mod (hP26.mod 0 (Nat.zero_le _)) (Nat.zero_le _) (by decide)
   have hCf:=hCf.mod (hP26.mod 0 (Nat.zero_le _)) (Nat.zero_le _) (by decide)
   have hCX:=hCX.setSize (z:=C.size+mb) hP26
   have hb:=hCX.b
   refine Ac (t_n (Ab ?_))
   refine B7 (fun _ w2=>Blk w2 g3 #[.pointer (some ⟨g,0,none⟩)] 30) mixed ?_
   intro w27 hE27
   have hX:=hX.ext hE27
   have hb:=hb.ext hE27
   have hB3:=hB3.ext hE27
   have hB13:=hB13.ext hE27
   have hMf:=hMf.ext hE27
   have hCf:=hCf.ext hE27
   have hCX:=hCX.ext hE27
   have hSr27:(fun _ w2=>Blk w2 g3 #[.pointer (some ⟨g,0,none⟩)] 30) w27 w27:=hB3
   refine hT 0 rfl hSr27 (fun wS hSS=>by(have hB3:=hSS;exact(Ae un30 rfl (hB3.cell (rfl))))) ?_
   refine hT 1 rfl hSr27 (fun wS hSS=>by(exact(Al (by conv=>lhs;whnf)))) ?_
   refine h1L 2 (fun Q2 hQ2=>?_)
   have hCX:=hCX.mono (fun _ _ h=>h)
   have hCf:=hCf.narrowD
   refine Ah Tryz.func58 fn58 fb58 (Bz ix _ _ _ _ _ _ (hix.modS hX).sl (by omega)) rfl ?_
   rintro v28 w28 ⟨⟨q8,c8,rfl,hI8⟩,hE28⟩
   have hX:=hX.ext hE28
   have hb:=hb.ext hE28
   have hB3:=hB3.ext hE28
   have hB13:=hB13.ext hE28
   have hMf:=hMf.ext hE28
   have hCf:=hCf.ext hE28
   have hCX:=hCX.ext hE28
   have hSr27:=hSr27.ext hE28
   have hF8:=hCX.newRow hI8
   refine An hQ2 ⟨hSr27,?_⟩
   refine hT 3 rfl hSr27 (fun wS hSS=>by(exact(Af rfl))) ?_
   refine hT 4 rfl hSr27 (fun wS hSS=>by(exact(Ad Kr sz23 rfl))) ?_
   refine h1L 5 (fun Q5 hQ5=>?_)
   refine Ar rfl (by conv=>lhs;whnf) rfl rfl sz23 hb (by show _<7;omega) ?_
   intro w29 hP29
   have hX:=hX.put hP29 (⟨.inl hsg,by decide⟩)
   have hb:=hP29.blk
   try simp only[List.setIfInBounds_toArray,List.set_cons_zero,List.set_cons_succ] at hb
   have hB3:=hP29.keep hB3 (by omega)
   have hB13:=hP29.keep hB13 (by omega)
   have hMf:=hMf.mod (hP29.mod 0 (Nat.zero_le _)) (Nat.zero_le _) (by decide)
   have hCf:=hCf.mod (hP29.mod 0 (Nat.zero_le _)) (Nat.zero_le _) (by decide)
   have hSr27:=hP29.keep hSr27 (by omega)
   have hF8:=hF8.one hP29.one (by decide)
   have hCX:=hCX.setIndex hP29 hF8
   have hb:=hCX.b
   refine An hQ5 ⟨hSr27,?_⟩
   refine Bm (by kernel_rfl) ?_
   refine t_n (Ab (Aa ?_))
   refine p1 (Ae un30 rfl (hB3.cell (rfl))) ?_
   refine p1 (Af rfl) ?_
   refine p1 (Ad Fp sz88 rfl) ?_
   refine p1 (Ae un88 rfl (hb.cell (rfl))) ?_
   refine pM ?_
   refine Ah Tryz.func59 fn59 fb59 (J0 r g32 (Av C.L xss).length μ μf _ hCX.m (hMf.lower (Nat.zero_le _)) (by omega) (Gy hCf)) rfl ?_
   rintro v30 w30 ⟨hMn,hMT⟩
   have hX:=hX.trans (hMT.wideT (E':=EC) (by decide)) (fun j hj h=>by rw[show j=r from h];exact hCX0.sr)
   have hCX:=hCX.copied hMT hMn ((hCX.c.mapT hMT).both (hCf.mapT hMT) (fun x hx=>(Dh xss C.L x hx).1))
   refine Ac (t_n (Ab (Aa ?_)))
   refine pA (Ac (t_n (Ak ?_)))
   refine eR1 ?_
   (rw[hpm,hput,if_neg hc103,hOl];exact⟨rfl,hCX.done,hX⟩)
  try simp only[dA,dB,dC,dD,dE,dF,dG,Int.not_lt,Int.not_le] at hc83
  have hput:putR C (Av C.L xss) ix=put1 C (Av C.L xss):=Kb (by rw[hr1];(intro h;exact hc83 h))
  rw[hr1] at hput
  refine Ai (t_n (Ab (Ab (Aa ?_))))
  refine pM ?_
  refine p1 (A2 rfl rfl) ?_
  refine Ac (t_n ?_)
  refine As rfl (fun hc103=>?_) (fun hc103=>?_)
  ·try simp only[dA,dB,dC,dD,dE,dF,dG,Int.not_lt,Int.not_le] at hc103
   refine Ab (Aa ?_)
   refine p1 (Ae un30 rfl (hB3.cell (rfl))) ?_
   refine pM ?_
   have hXs:=hX.size
   refine Ah Tryz.func57 fn57 fb57 (Gs g gd r (opn S w) _ μ pi nx ni ci _ (k_+6) _ hCX ⟨hGd.mono (by omega),hn.hi,hn.sz,hn.ix,hn.nx,hn.ln,hn.cl⟩ (fun j hj=>hj.elim (hS j) (fun q=>Nat.le_trans hgs q)) hg (by omega) _ false) rfl ?_
   rintro v31 w31 ⟨rfl,hCU,hMU⟩
   have hX:=hX.trans hMU (fun j hj h=>h.resolve_right (by omega))
   refine pA (Ac (t_n (Ak (t_r ?_))))
   refine eR1 ?_
   (rw[hpm,hput,if_pos hc103];exact⟨rfl,hCU.mono (fun j hj h=>h.elim (fun a=>a.imp id fun b=>⟨b,hj⟩) (fun ⟨a,_⟩ => .inr ⟨by omega,hj⟩)),hX⟩)
  try simp only[dA,dB,dC,dD,dE,dF,dG,Int.not_lt,Int.not_le] at hc103
  refine Ai (t_n (Ab ?_))
  refine Cp 9 mixed (by kernel_rfl) ?_
  intro w32 hE32
  have hX:=hX.ext hE32
  have hCX:=hCX.ext hE32
  have hb:=hb.ext hE32
  have hB3:=hB3.ext hE32
  have hB13:=hB13.ext hE32
  have hMf:=hMf.ext hE32
  have hCf:=hCf.ext hE32
  refine s1 (Ae un30 rfl (hB3.cell (rfl))) ?_
  refine s1 (Af rfl) ?_
  refine s1 (Ad D6 sz3 rfl) ?_
  refine s1 (Ae un3 rfl (hb.cell (rfl))) ?_
  refine s1 (Ae un23 rfl (hB13.cell (rfl))) ?_
  refine s1 (Aj u23 rfl) ?_
  refine s1 ((Aw rfl rfl (Ag (by omega) (by omega))).cast (congrArg (Value.int .i64) (by omega:_=((C.size+mb:Nat):Int)))) ?_
  refine s1 (Af rfl) ?_
  refine s1 (Ad D6 sz3 rfl) ?_
  refine Ca ?_
  refine Ar rfl (by conv=>lhs;whnf) rfl rfl sz3 hb (by show _<7;omega) ?_
  intro w33 hP33
  have hX:=hX.put hP33 (⟨.inl hsg,by decide⟩)
  have hb:=hP33.blk
  try simp only[List.setIfInBounds_toArray,List.set_cons_zero,List.set_cons_succ] at hb
  have hB3:=hP33.keep hB3 (by omega)
  have hB13:=hP33.keep hB13 (by omega)
  have hMf:=hMf.mod (hP33.mod 0 (Nat.zero_le _)) (Nat.zero_le _) (by decide)
  have hCf:=hCf.mod (hP33.mod 0 (Nat.zero_le _)) (Nat.zero_le _) (by decide)
  have hCX:=hCX.setSize (z:=C.size+mb) hP33
  have hb:=hCX.b
  refine Ac (t_n (Ab ?_))
  refine B7 (fun _ w2=>Blk w2 g3 #[.pointer (some ⟨g,0,none⟩)] 30) mixed ?_
  intro w34 hE34
  have hX:=hX.ext hE34
  have hb:=hb.ext hE34
  have hB3:=hB3.ext hE34
  have hB13:=hB13.ext hE34
  have hMf:=hMf.ext hE34
  have hCf:=hCf.ext hE34
  have hCX:=hCX.ext hE34
  have hSr27:(fun _ w2=>Blk w2 g3 #[.pointer (some ⟨g,0,none⟩)] 30) w34 w34:=hB3
  refine hT 0 rfl hSr27 (fun wS hSS=>by(have hB3:=hSS;exact(Ae un30 rfl (hB3.cell (rfl))))) ?_
  refine hT 1 rfl hSr27 (fun wS hSS=>by(exact(Al (by conv=>lhs;whnf)))) ?_
  refine h1L 2 (fun Q2 hQ2=>?_)
  have hCX:=hCX.mono (fun _ _ h=>h)
  have hCf:=hCf.narrowD
  refine Ah Tryz.func58 fn58 fb58 (Bz ix _ _ _ _ _ _ (hix.modS hX).sl (by omega)) rfl ?_
  rintro v35 w35 ⟨⟨q8,c8,rfl,hI8⟩,hE35⟩
  have hX:=hX.ext hE35
  have hb:=hb.ext hE35
  have hB3:=hB3.ext hE35
  have hB13:=hB13.ext hE35
  have hMf:=hMf.ext hE35
  have hCf:=hCf.ext hE35
  have hCX:=hCX.ext hE35
  have hSr27:=hSr27.ext hE35
  have hF8:=hCX.newRow hI8
  refine An hQ2 ⟨hSr27,?_⟩
  refine hT 3 rfl hSr27 (fun wS hSS=>by(exact(Af rfl))) ?_
  refine hT 4 rfl hSr27 (fun wS hSS=>by(exact(Ad Kr sz23 rfl))) ?_
  refine h1L 5 (fun Q5 hQ5=>?_)
  refine Ar rfl (by conv=>lhs;whnf) rfl rfl sz23 hb (by show _<7;omega) ?_
  intro w36 hP36
  have hX:=hX.put hP36 (⟨.inl hsg,by decide⟩)
  have hb:=hP36.blk
  try simp only[List.setIfInBounds_toArray,List.set_cons_zero,List.set_cons_succ] at hb
  have hB3:=hP36.keep hB3 (by omega)
  have hB13:=hP36.keep hB13 (by omega)
  have hMf:=hMf.mod (hP36.mod 0 (Nat.zero_le _)) (Nat.zero_le _) (by decide)
  have hCf:=hCf.mod (hP36.mod 0 (Nat.zero_le _)) (Nat.zero_le _) (by decide)
  have hSr27:=hP36.keep hSr27 (by omega)
  have hF8:=hF8.one hP36.one (by decide)
  have hCX:=hCX.setIndex hP36 hF8
  have hb:=hCX.b
  refine An hQ5 ⟨hSr27,?_⟩
  refine Bm (by kernel_rfl) ?_
  refine t_n (Ab (Aa ?_))
  refine p1 (Ae un30 rfl (hB3.cell (rfl))) ?_
  refine p1 (Af rfl) ?_
  refine p1 (Ad Fp sz88 rfl) ?_
  refine p1 (Ae un88 rfl (hb.cell (rfl))) ?_
  refine pM ?_
  refine Ah Tryz.func59 fn59 fb59 (J0 r g32 (Av C.L xss).length μ μf _ hCX.m (hMf.lower (Nat.zero_le _)) (by omega) (Gy hCf)) rfl ?_
  rintro v37 w37 ⟨hMn,hMT⟩
  have hX:=hX.trans (hMT.wideT (E':=EC) (by decide)) (fun j hj h=>by rw[show j=r from h];exact hCX0.sr)
  have hCX:=hCX.copied hMT hMn ((hCX.c.mapT hMT).both (hCf.mapT hMT) (fun x hx=>(Dh xss C.L x hx).1))
  refine Ac (t_n (Ab (Aa ?_)))
  refine pA (Ac (t_n (Ak ?_)))
  refine eR1 ?_
  (rw[hpm,hput,if_neg hc103,hOl];exact⟨rfl,hCX.done,hX⟩)
 try simp only[dA,dB,dC,dD,dE,dF,dG,Int.not_lt,Int.not_le] at hc77
 have hlnil:Av C.L xss=[]:=List.length_eq_zero_iff.1 (by omega)
 have hr1:=O1 (C:=C) hlnil
 have hXe:=hX
 have hCX:=hCX0.start.ext hXe
 have hX:=ModS.ofExt (S:=S) (E:=EC) hXe
 have hgl:=hMf.lt
 have hGd:=hGd.mono (by omega:k_≤k_+2)
 refine Ai (t_n (Ab (Ab (Aa ?_))))
 refine pM ?_
 refine p1 (Bn rfl rfl) ?_
 refine Ac (t_n ?_)
 refine As rfl (fun hc83=>?_) (fun hc83=>?_)
 ·try simp only[dA,dB,dC,dD,dE,dF,dG,Int.not_lt,Int.not_le] at hc83
  have hpr:=Er (f:=fun D=>writeM D ⟨C.seg,C.size+(segB (Av C.L xss)).length,ix⟩) (r:=put1 C (Av C.L xss)) (by rw[hr1];try omega)
  have hput:putR C (Av C.L xss) ix=writeM (put1 C (Av C.L xss)).1 ⟨C.seg,C.size+mb,ix⟩:=by rw[← hOl];exact hpr
  rw[hr1] at hput
  refine Cp 17 mixed (by kernel_rfl) ?_
  intro w38 hE38
  have hX:=hX.ext hE38
  have hCX:=hCX.ext hE38
  have hb:=hb.ext hE38
  have hg:=hg.ext hE38
  have hMf:=hMf.ext hE38
  have hCf:=hCf.ext hE38
  have hB3:=hB3.ext hE38
  have hB13:=hB13.ext hE38
  refine s1 (Ae un30 rfl (hB3.cell (rfl))) ?_
  refine s1 (Af rfl) ?_
  refine s1 (Ad Cr sz34 rfl) ?_
  refine s1 (Ae un34 rfl (hb.cell (rfl))) ?_
  refine s1 (Ae un30 rfl (hB3.cell (rfl))) ?_
  refine s1 (Af rfl) ?_
  refine s1 (Ad Ch sz3 rfl) ?_
  refine s1 (Ae un3 rfl (hb.cell (rfl))) ?_
  refine s1 (Ae un30 rfl (hB3.cell (rfl))) ?_
  refine s1 (Af rfl) ?_
  refine s1 (Ad D6 sz3 rfl) ?_
  refine s1 (Ae un3 rfl (hb.cell (rfl))) ?_
  refine s1 (Ae un23 rfl (hB13.cell (rfl))) ?_
  refine s1 (Aj u23 rfl) ?_
  refine s1 ((Aw rfl rfl (Ag (by omega) (by omega))).cast (congrArg (Value.int .i64) (by omega:_=((C.size+mb:Nat):Int)))) ?_
  refine s1 (Al (by conv=>lhs;whnf)) ?_
  refine s1 (N9 pl99 rfl rfl rfl rfl rfl rfl) ?_
  refine Ca ?_
  have hXs:=hX.size
  have hgl:=hMf.lt
  have hix2:=(hix.modS hX).sl5
  refine Ah Tryz.func51 fn51 fb51 (Ge gd _ _ _ hCX.d hGd.ok (Nat.lt_of_le_of_lt hGd.steps (by omega)) hGd.left hGd.names C.seg (C.size+mb) ix 0 _ _ _ _ hix2 hg.l.q) rfl ?_
  rintro v39 w39 ⟨rfl,hD2,hM2⟩
  have hmz:=hM2.size
  have hMf:=(hMf.lower (Nat.zero_le _)).turn hM2 hng rfl
  have hng:¬ grow _ w38 w39 g32:=fun h=>hng (G1 h hgl)
  have hgl:=hMf.lt
  have hX:=hX.stepE hM2 (Db hCX)
  have hCf:=hCf.turn hM2
  have hg:=hg.modS hM2 (fun j hj=>(hCX.sub j hj).elim (hS j) fun q=>Nat.le_trans hgs q)
  have hCX:=hCX.stepD hXs hM2 hD2
  have hb:Blk w39 g (stoV gd C pi ni ci r nx) tSto:=hCX.b
  have hGd:=hGd.writeM ⟨C.seg,C.size+mb,ix⟩
  have hB3:=hB3.modS hM2 (.inr (by decide))
  have hB13:=hB13.modS hM2 (.inr (by decide))
  refine pA (Ac (t_n (Ab (Ab (Aa ?_)))))
  refine pM ?_
  refine p1 (A2 rfl rfl) ?_
  refine Ac (t_n ?_)
  refine As rfl (fun hc103=>?_) (fun hc103=>?_)
  ·try simp only[dA,dB,dC,dD,dE,dF,dG,Int.not_lt,Int.not_le] at hc103
   refine Ab (Aa ?_)
   refine p1 (Ae un30 rfl (hB3.cell (rfl))) ?_
   refine pM ?_
   have hXs:=hX.size
   refine Ah Tryz.func57 fn57 fb57 (Gs g gd r (opn S w) _ μ pi nx ni ci _ (k_+6) _ hCX ⟨hGd.mono (by omega),hn.hi,hn.sz,hn.ix,hn.nx,hn.ln,hn.cl⟩ (fun j hj=>hj.elim (hS j) (fun q=>Nat.le_trans hgs q)) hg (by omega) _ false) rfl ?_
   rintro v40 w40 ⟨rfl,hCU,hMU⟩
   have hX:=hX.trans hMU (fun j hj h=>h.resolve_right (by omega))
   refine pA (Ac (t_n (Ak (t_r ?_))))
   refine eR1 ?_
   (rw[hpm,hput,if_pos hc103];exact⟨rfl,hCU.mono (fun j hj h=>h.elim (fun a=>a.imp id fun b=>⟨b,hj⟩) (fun ⟨a,_⟩ => .inr ⟨by omega,hj⟩)),hX⟩)
  try simp only[dA,dB,dC,dD,dE,dF,dG,Int.not_lt,Int.not_le] at hc103
  refine Ai (t_n (Ab ?_))
  refine Cp 9 mixed (by kernel_rfl) ?_
  intro w41 hE41
  have hX:=hX.ext hE41
  have hCX:=hCX.ext hE41
  have hb:=hb.ext hE41
  have hB3:=hB3.ext hE41
  have hB13:=hB13.ext hE41
  have hMf:=hMf.ext hE41
  have hCf:=hCf.ext hE41
  refine s1 (Ae un30 rfl (hB3.cell (rfl))) ?_
  refine s1 (Af rfl) ?_
  refine s1 (Ad D6 sz3 rfl) ?_
  refine s1 (Ae un3 rfl (hb.cell (rfl))) ?_
  refine s1 (Ae un23 rfl (hB13.cell (rfl))) ?_
  refine s1 (Aj u23 rfl) ?_
  refine s1 ((Aw rfl rfl (Ag (by omega) (by omega))).cast (congrArg (Value.int .i64) (by omega:_=((C.size+mb:Nat):Int)))) ?_
  refine s1 (Af rfl) ?_
  refine s1 (Ad D6 sz3 rfl) ?_
  refine Ca ?_
  refine Ar rfl (by conv=>lhs;whnf) rfl rfl sz3 hb (by show _<7;omega) ?_
  intro w42 hP42
  have hX:=hX.put hP42 (⟨.inl hsg,by decide⟩)
  have hb:=hP42.blk
  try simp only[List.setIfInBounds_toArray,List.set_cons_zero,List.set_cons_succ] at hb
  have hB3:=hP42.keep hB3 (by omega)
  have hB13:=hP42.keep hB13 (by omega)
  have hMf:=hMf.mod (hP42.mod 0 (Nat.zero_le _)) (Nat.zero_le _) (by decide)
  have hCf:=hCf.mod (hP42.mod 0 (Nat.zero_le _)) (Nat.zero_le _) (by decide)
  have hCX:=hCX.setSize (z:=C.size+mb) hP42
  have hb:=hCX.b
  refine Ac (t_n (Ab ?_))
  refine B7 (fun _ w2=>Blk w2 g3 #[.pointer (some ⟨g,0,none⟩)] 30) mixed ?_
  intro w43 hE43
  have hX:=hX.ext hE43
  have hb:=hb.ext hE43
  have hB3:=hB3.ext hE43
  have hB13:=hB13.ext hE43
  have hMf:=hMf.ext hE43
  have hCf:=hCf.ext hE43
  have hCX:=hCX.ext hE43
  have hSr27:(fun _ w2=>Blk w2 g3 #[.pointer (some ⟨g,0,none⟩)] 30) w43 w43:=hB3
  refine hT 0 rfl hSr27 (fun wS hSS=>by(have hB3:=hSS;exact(Ae un30 rfl (hB3.cell (rfl))))) ?_
  refine hT 1 rfl hSr27 (fun wS hSS=>by(exact(Al (by conv=>lhs;whnf)))) ?_
  refine h1L 2 (fun Q2 hQ2=>?_)
  have hCX:=hCX.mono (fun _ _ h=>h)
  have hCf:=hCf.narrowD
  refine Ah Tryz.func58 fn58 fb58 (Bz ix _ _ _ _ _ _ (hix.modS hX).sl (by omega)) rfl ?_
  rintro v44 w44 ⟨⟨q8,c8,rfl,hI8⟩,hE44⟩
  have hX:=hX.ext hE44
  have hb:=hb.ext hE44
  have hB3:=hB3.ext hE44
  have hB13:=hB13.ext hE44
  have hMf:=hMf.ext hE44
  have hCf:=hCf.ext hE44
  have hCX:=hCX.ext hE44
  have hSr27:=hSr27.ext hE44
  have hF8:=hCX.newRow hI8
  refine An hQ2 ⟨hSr27,?_⟩
  refine hT 3 rfl hSr27 (fun wS hSS=>by(exact(Af rfl))) ?_
  refine hT 4 rfl hSr27 (fun wS hSS=>by(exact(Ad Kr sz23 rfl))) ?_
  refine h1L 5 (fun Q5 hQ5=>?_)
  refine Ar rfl (by conv=>lhs;whnf) rfl rfl sz23 hb (by show _<7;omega) ?_
  intro w45 hP45
  have hX:=hX.put hP45 (⟨.inl hsg,by decide⟩)
  have hb:=hP45.blk
  try simp only[List.setIfInBounds_toArray,List.set_cons_zero,List.set_cons_succ] at hb
  have hB3:=hP45.keep hB3 (by omega)
  have hB13:=hP45.keep hB13 (by omega)
  have hMf:=hMf.mod (hP45.mod 0 (Nat.zero_le _)) (Nat.zero_le _) (by decide)
  have hCf:=hCf.mod (hP45.mod 0 (Nat.zero_le _)) (Nat.zero_le _) (by decide)
  have hSr27:=hP45.keep hSr27 (by omega)
  have hF8:=hF8.one hP45.one (by decide)
  have hCX:=hCX.setIndex hP45 hF8
  have hb:=hCX.b
  refine An hQ5 ⟨hSr27,?_⟩
  refine Bm (by kernel_rfl) ?_
  refine t_n (Ab (Aa ?_))
  refine p1 (Ae un30 rfl (hB3.cell (rfl))) ?_
  refine p1 (Af rfl) ?_
  refine p1 (Ad Fp sz88 rfl) ?_
  refine p1 (Ae un88 rfl (hb.cell (rfl))) ?_
  refine pM ?_
  refine Ah Tryz.func59 fn59 fb59 (J0 r g32 (Av C.L xss).length μ μf _ hCX.m (hMf.lower (Nat.zero_le _)) (by omega) (Gy hCf)) rfl ?_
  rintro v46 w46 ⟨hMn,hMT⟩
  have hX:=hX.trans (hMT.wideT (E':=EC) (by decide)) (fun j hj h=>by rw[show j=r from h];exact hCX0.sr)
  have hCX:=hCX.copied hMT hMn ((hCX.c.mapT hMT).both (hCf.mapT hMT) (fun x hx=>(Dh xss C.L x hx).1))
  refine Ac (t_n (Ab (Aa ?_)))
  refine pA (Ac (t_n (Ak ?_)))
  refine eR1 ?_
  (rw[hpm,hput,if_neg hc103,hOl];exact⟨rfl,hCX.done,hX⟩)
 try simp only[dA,dB,dC,dD,dE,dF,dG,Int.not_lt,Int.not_le] at hc83
 have hput:putR C (Av C.L xss) ix=put1 C (Av C.L xss):=Kb (by rw[hr1];exact absurd hpf2 hc83)
 rw[hr1] at hput
 refine Ai (t_n (Ab (Ab (Aa ?_))))
 refine pM ?_
 refine p1 (A2 rfl rfl) ?_
 refine Ac (t_n ?_)
 refine As rfl (fun hc103=>?_) (fun hc103=>?_)
 ·try simp only[dA,dB,dC,dD,dE,dF,dG,Int.not_lt,Int.not_le] at hc103
  refine Ab (Aa ?_)
  refine p1 (Ae un30 rfl (hB3.cell (rfl))) ?_
  refine pM ?_
  have hXs:=hX.size
  refine Ah Tryz.func57 fn57 fb57 (Gs g gd r (opn S w) _ μ pi nx ni ci _ (k_+6) _ hCX ⟨hGd.mono (by omega),hn.hi,hn.sz,hn.ix,hn.nx,hn.ln,hn.cl⟩ (fun j hj=>hj.elim (hS j) (fun q=>Nat.le_trans hgs q)) hg (by omega) _ false) rfl ?_
  rintro v47 w47 ⟨rfl,hCU,hMU⟩
  have hX:=hX.trans hMU (fun j hj h=>h.resolve_right (by omega))
  refine pA (Ac (t_n (Ak (t_r ?_))))
  refine eR1 ?_
  exact absurd hpf2 hc83
 try simp only[dA,dB,dC,dD,dE,dF,dG,Int.not_lt,Int.not_le] at hc103
 refine Ai (t_n (Ab ?_))
 refine Cp 9 mixed (by kernel_rfl) ?_
 intro w48 hE48
 have hX:=hX.ext hE48
 have hCX:=hCX.ext hE48
 have hb:=hb.ext hE48
 have hMf:=hMf.ext hE48
 have hCf:=hCf.ext hE48
 have hB3:=hB3.ext hE48
 have hB13:=hB13.ext hE48
 have hB15:=hB15.ext hE48
 refine s1 (Ae un30 rfl (hB3.cell (rfl))) ?_
 refine s1 (Af rfl) ?_
 refine s1 (Ad D6 sz3 rfl) ?_
 refine s1 (Ae un3 rfl (hb.cell (rfl))) ?_
 refine s1 (Ae un23 rfl (hB13.cell (rfl))) ?_
 refine s1 (Aj u23 rfl) ?_
 refine s1 ((Aw rfl rfl (Ag (by omega) (by omega))).cast (congrArg (Value.int .i64) (by omega:_=((C.size+mb:Nat):Int)))) ?_
 refine s1 (Af rfl) ?_
 refine s1 (Ad D6 sz3 rfl) ?_
 refine Ca ?_
 refine Ar rfl (by conv=>lhs;whnf) rfl rfl sz3 hb (by show _<7;omega) ?_
 intro w49 hP49
 have hX:=hX.put hP49 (⟨.inl hsg,by decide⟩)
 have hb:=hP49.blk
 try simp only[List.setIfInBounds_toArray,List.set_cons_zero,List.set_cons_succ] at hb
 have hMf:=hMf.mod (hP49.mod 0 (Nat.zero_le _)) (Nat.zero_le _) (by decide)
 have hCf:=hCf.mod (hP49.mod 0 (Nat.zero_le _)) (Nat.zero_le _) (by decide)
 have hB3:=hP49.keep hB3 (by omega)
 have hB13:=hP49.keep hB13 (by omega)
 have hB15:=hP49.keep hB15 (by omega)
 have hCX:=hCX.setSize (z:=C.size+mb) hP49
 have hb:=hCX.b
 refine Ac (t_n (Ab ?_))
 refine B7 (fun _ w2=>Blk w2 g3 #[.pointer (some ⟨g,0,none⟩)] 30) mixed ?_
 intro w50 hE50
 have hX:=hX.ext hE50
 have hb:=hb.ext hE50
 have hMf:=hMf.ext hE50
 have hCf:=hCf.ext hE50
 have hB3:=hB3.ext hE50
 have hB13:=hB13.ext hE50
 have hB15:=hB15.ext hE50
 have hCX:=hCX.ext hE50
 have hSr27:(fun _ w2=>Blk w2 g3 #[.pointer (some ⟨g,0,none⟩)] 30) w50 w50:=hB3
 refine hT 0 rfl hSr27 (fun wS hSS=>by(have hB3:=hSS;exact(Ae un30 rfl (hB3.cell (rfl))))) ?_
 refine hT 1 rfl hSr27 (fun wS hSS=>by(exact(Al (by conv=>lhs;whnf)))) ?_
 refine h1L 2 (fun Q2 hQ2=>?_)
 have hCX:=hCX.mono (fun _ _ h=>h)
 have hCf:=hCf.narrowD
 refine Ah Tryz.func58 fn58 fb58 (Bz ix _ _ _ _ _ _ (hix.modS hX).sl (by omega)) rfl ?_
 rintro v51 w51 ⟨⟨q8,c8,rfl,hI8⟩,hE51⟩
 have hX:=hX.ext hE51
 have hb:=hb.ext hE51
 have hMf:=hMf.ext hE51
 have hCf:=hCf.ext hE51
 have hB3:=hB3.ext hE51
 have hB13:=hB13.ext hE51
 have hB15:=hB15.ext hE51
 have hCX:=hCX.ext hE51
 have hSr27:=hSr27.ext hE51
 have hF8:=hCX.newRow hI8
 refine An hQ2 ⟨hSr27,?_⟩
 refine hT 3 rfl hSr27 (fun wS hSS=>by(exact(Af rfl))) ?_
 refine hT 4 rfl hSr27 (fun wS hSS=>by(exact(Ad Kr sz23 rfl))) ?_
 refine h1L 5 (fun Q5 hQ5=>?_)
 refine Ar rfl (by conv=>lhs;whnf) rfl rfl sz23 hb (by show _<7;omega) ?_
 intro w52 hP52
 have hX:=hX.put hP52 (⟨.inl hsg,by decide⟩)
 have hb:=hP52.blk
 try simp only[List.setIfInBounds_toArray,List.set_cons_zero,List.set_cons_succ] at hb
 have hMf:=hMf.mod (hP52.mod 0 (Nat.zero_le _)) (Nat.zero_le _) (by decide)
 have hCf:=hCf.mod (hP52.mod 0 (Nat.zero_le _)) (Nat.zero_le _) (by decide)
 have hB3:=hP52.keep hB3 (by omega)
 have hB13:=hP52.keep hB13 (by omega)
 have hB15:=hP52.keep hB15 (by omega)
 have hSr27:=hP52.keep hSr27 (by omega)
 have hF8:=hF8.one hP52.one (by decide)
 have hCX:=hCX.setIndex hP52 hF8
 have hb:=hCX.b
 refine An hQ5 ⟨hSr27,?_⟩
 refine Bm (by kernel_rfl) ?_
 refine t_n (Ab (Aa ?_))
 refine p1 (Ae un30 rfl (hB3.cell (rfl))) ?_
 refine p1 (Af rfl) ?_
 refine p1 (Ad Fp sz88 rfl) ?_
 refine p1 (Ae un88 rfl (hb.cell (rfl))) ?_
 refine pM ?_
 refine Ah Tryz.func59 fn59 fb59 (J0 r g32 (Av C.L xss).length μ μf _ hCX.m (hMf.lower (Nat.zero_le _)) (by omega) (Gy hCf)) rfl ?_
 rintro v53 w53 ⟨hMn,hMT⟩
 have hX:=hX.trans (hMT.wideT (E':=EC) (by decide)) (fun j hj h=>by rw[show j=r from h];exact hCX0.sr)
 have hCX:=hCX.copied hMT hMn ((hCX.c.mapT hMT).both (hCf.mapT hMT) (fun x hx=>(Dh xss C.L x hx).1))
 refine Ac (t_n (Ab (Aa ?_)))
 refine pA (Ac (t_n (Ak ?_)))
 refine eR1 ?_
 exact absurd hpf2 hc83
end Go.Proofs.Eng
end
section
namespace Go.Proofs.Eng
open Go.RowKit
def A0 (L:List By) (l:List Hash):List By:=l.map fun h=>(findF L h).getD []
def stepS (C:CS) (live:List Hash):CS×Bool×Int :=
  let nm:=nSeg (C.seg+1)
  match C.next with
  | none =>
    let r:=Bk C.D nm
    ({ C with D:=r.1,next:=if r.2=0 then some ([],0) else none },false,r.2)
  | some (got, z) =>
    if srt (sel live false (srt got))≠[] then
      let r:=Bj C.D nm
      ({ C with D:=r.1,next:=if r.2=0 then none else some (got,z) },false,r.2)
    else if srt (sel (srt got) false live)≠[] then
      let left:=(srt (sel (srt got) false live)).take 4
      let r:=A4 C.D nm (segB (A0 C.L left))
      ({ C with D:=r.1,next:=if r.2=0 then some (got++left,z+(segB (A0 C.L left)).length) else some (got,z) },false,r.2)
    else
      let r:=andD (syncD C.D nm) fun D=>andD (writeM D ⟨C.seg+1,z,C.index⟩) fun D=>Bj D (nSeg C.seg)
      if r.2≠0 then ({ C with D:=r.1 },false,r.2)
      else ({ C with D:=r.1,seg:=C.seg+1,size:=z,L:=C.L.filter (fun c=>decide (shaF c∈got)),next:=none },true,0)
def stepF (C:CS) (live:List Hash):CS×Bool×Int :=
  if C.dead=true then (C,false,20)
  else if ∃ h∈live,findF C.L h=none then (C,false,22)
  else if 999999≤C.seg then (C,false,21)
  else
    let r:=stepS C (srt live)
    if r.2.2≠0 then ((undoC r.1 r.2.2 true).1,false,(undoC r.1 r.2.2 true).2) else r
end Go.Proofs.Eng
end
section
namespace Go.Proofs.Eng
open Go.RowKit
open Extern.Stop (cell)
open Go.ChangeMaps (setBlock)
section
variable {κ ν : Type} [DecidableEq κ] {P : Program} {ops : Array Oper} {Q : Exit → Act → World → Prop} {rest : List Oper} {n : Nat} {f : Nat → Value} {w w' : World}
variable {ty0 : TypeId} {pos : String} {aft : Array Edge} {dst : Nat} {v u : Value} {x y z : Operand} {T K e : TypeId} {dst' : Option Nat} {gd : Option (Nat × Bool)}
variable {kk : κ → Value} {d : VK ν} {B B0 : Nat} {r : Nat} {μ : κ → Option ν}
structure RgW (kk:κ→Value) (d:VK ν) (B B0:Nat) (w:World) (r it:Nat) (μ:κ→Option ν) (vs:List κ):Prop where
  low:B0≤it
  nd:vs.Nodup
  sub:∀ k∈vs,μ k≠none
  ex:∃ es clock m since seen c0,MapIs kk d B w r es clock m∧Tells m μ∧w.heap[it]? = some (.mapIter (some r) since seen c0)∧(∀ e∈es.toList,e.born<since)∧since≤c0∧since≤clock ∧
    (∀ (i:Nat) (e:MapEntry) (p:κ×ν),es.toList[i]? = some e→m[i]? = some p→(e.born∈seen↔p.1∈vs))
theorem Rg.weak {it:Nat} {vs:List κ} (h:Rg kk d B B0 w r it μ vs):RgW kk d B B0 w r it μ vs:=by
  obtain⟨es,clock,m,since,seen,c0,h1,h2,h3,h4,h5,h6,h7,_⟩:=h.ex
  exact⟨h.low,h.nd,h.sub,es,clock,m,since,seen,c0,h1,h2,h3,h4,h5,h6,h7⟩
namespace RgW
variable {vs : List κ} {it : Nat}
theorem keep (h:RgW kk d B B0 w r it μ vs) (hb:r<w.heap.size→w'.heap[r]? = w.heap[r]?) (hi:it<w.heap.size→w'.heap[it]? = w.heap[it]?) (hs:Same B d.E w w'):RgW kk d B B0 w' r it μ vs:=by
  obtain⟨es,clock,m,since,seen,c0,hm,ht,h1,h2⟩:=h.ex
  exact⟨h.low,h.nd,h.sub,es,clock,m,since,seen,c0,hm.keep (hb hm.lt) hs,ht,(hi (Array.getElem?_eq_some_iff.1 h1).1).trans h1,h2⟩
theorem ext (h:RgW kk d B B0 w r it μ vs) (e:Ext w w'):RgW kk d B B0 w' r it μ vs:=h.keep (fun hl=>e.old r hl) (fun hl=>e.old it hl) (e.same _ _)
theorem mod (h:RgW kk d B B0 w r it μ vs) {B':Nat} {t:TypeId} (m:Mod B' t w w') (hB:B≤B') (ht:t∉tMap :: tIter :: d.E):RgW kk d B B0 w' r it μ vs:=by
  obtain⟨es,clock,l,since,seen,c0,hm,hT,h1,h2⟩:=h.ex
  have hi:ty w it=some tIter:=by unfold Eng.ty;rw[h1]
  refine h.keep (fun hl=>m.old r hl (.inr ?_)) (fun hl=>m.old it hl (.inr ?_)) (m.same hB fun hc=>ht (by simp[hc]))
  · rw[hm.ty];intro e;injection e with e;exact ht (by simp[e])
  · rw[hi];intro e;injection e with e;exact ht (by simp[e])
theorem mp (h:RgW kk d B B0 w r it μ vs) (B1:Nat) (hr:B1≤r):Mp kk d B B1 w r μ:=by
  obtain⟨es,clock,m,since,seen,c0,hm,ht,_⟩:=h.ex
  exact⟨hr,es,clock,m,hm,ht⟩
theorem congr (h:RgW kk d B B0 w r it μ vs) {μ':κ→Option ν} {us:List κ} (hμ:∀ k,μ k=μ' k) (hv:vs=us):RgW kk d B B0 w r it μ' us:=by
  have:μ=μ':=funext hμ
  subst this hv;exact h
end RgW
theorem Ado {it:Nat} {vs:List κ} (hx:ev n f x = .pointer (some ⟨it,0,none⟩)) (hR:RgW kk d B B0 w r it μ vs) (hBB:B≤B0) (hE:tIter∉d.E)
    (kf:(∀ a,μ a≠none→a∈vs)→Lst P ops Q rest (fr n (upd f dst (.tuple #[.bool false]))) w)
    (kt:∀ w' a b v,a∉vs→μ a=some b→Rg kk d B B0 w' r it μ (vs++[a])→Mod B0 tIter w w'→Lst P ops Q rest (fr n (upd f dst (.tuple #[.bool true,kk a,v]))) w') :
    Lst P ops Q (⟨some dst,.next x false,ty0,pos,aft,none⟩ :: rest) (fr n f) w:=by
  obtain⟨es,clock,m,since,seen,c0,hm,ht,hi,hold,hsc,hsc',hseen⟩:=hR.ex
  have hti:ty w it=some tIter:=by unfold Eng.ty;rw[hi]
  rcases run_next_at (P:=P) w ty0 it r since c0 seen es clock hi hm.blk hold hsc with ⟨h0,hr⟩ | ⟨e',he',w1,hw1,hr⟩
  · refine l1 (w' := w) (v := .tuple #[.bool false]) ?_ (kf fun a ha => ?_)
    · simp only[execOp,hx,Sem.run_bind,hr,Result.andThen_ok];rfl
    · obtain ⟨i, hi'⟩ := List.mem_iff_getElem?.1 ((ht.key a).2 ha)
      rw[List.getElem?_map] at hi'
      obtain⟨p,hp,hpa⟩:=Option.map_eq_some_iff.1 hi'
      have hlt:i<es.toList.length:=by rw[hm.ents.length];exact(List.getElem?_eq_some_iff.1 hp).1
      have hei:es.toList[i]? = some es.toList[i]:=List.getElem?_eq_getElem hlt
      rw[← hpa,← hseen i _ p hei hp]
      have hL:leftOf es seen=#[]:=Array.eq_empty_of_size_eq_zero h0
      unfold leftOf at hL
      rw[Array.filter_eq_empty_iff] at hL
      have:=hL es.toList[i] (by rw[← Array.mem_toList_iff];exact List.getElem_mem _)
      simpa using this
  · have hmem : e' ∈ es.toList ∧ ¬ e'.born ∈ seen := by
      unfold leftOf at he'
      simp at he'
      exact⟨by simpa using he'.1,he'.2⟩
    obtain⟨i,hei⟩:=List.mem_iff_getElem?.1 hmem.1
    obtain⟨p,hp,hkey,hval⟩:=hm.ents.get hei
    have hnv:p.1∉vs:=fun hc=>hmem.2 ((hseen i e' p hei hp).2 hc)
    have hμ:μ p.1=some p.2:=(ht _ _).1 (List.mem_of_getElem? hp)
    have hmod:Mod B0 tIter w (setBlock w1 it (.mapIter (some r) since (seen.push e'.born) clock)):=E7 hw1 hi hti (fun x hx=>by unfold Eng.ty;rw[hx]) hR.low
    have hne:r≠it:=fun q=>by subst q;have:=hm.blk.symm.trans hi;simp at this
    have hheap:w1.heap=w.heap:=by rcases hw1 with rfl | rfl <;> rfl
    have hblk':(setBlock w1 it (.mapIter (some r) since (seen.push e'.born) clock)).heap[r]? = w.heap[r]? := by
      show (w1.heap.setIfInBounds it _)[r]? = _
      rw[hheap,Array.getElem?_setIfInBounds_ne (fun q=>hne q.symm)]
    have hit':(setBlock w1 it (.mapIter (some r) since (seen.push e'.born) clock)).heap[it]? = some (.mapIter (some r) since (seen.push e'.born) clock):=by
      show (w1.heap.setIfInBounds it _)[it]? = _
      rw[hheap]
      simp[(Array.getElem?_eq_some_iff.1 hi).1]
    have hs:=hmod.same (B':=B) (E:=d.E) hBB hE
    have hm':=hm.keep hblk' hs
    refine l1 (w':=setBlock w1 it (.mapIter (some r) since (seen.push e'.born) clock)) (v := .tuple #[.bool true,kk p.1,e'.val]) ?_
      (kt _ p.1 p.2 e'.val hnv hμ ⟨hR.low,?_,?_,es,clock,m,since,seen.push e'.born,clock,hm',ht,hit',hold,hsc',hsc',?_,?_⟩ hmod)
    · rw [← hkey]
      simp only[execOp,hx,Sem.run_bind,hr,Result.andThen_ok];rfl
    · exact List.nodup_append.2 ⟨hR.nd,by simp,by simp only[List.mem_singleton];rintro a ha b rfl rfl;exact hnv ha⟩
    · intro a ha
      rcases List.mem_append.1 ha with ha | ha
      · exact hR.sub a ha
      · simp only[List.mem_singleton] at ha;subst ha;rw[hμ];simp
    · intro j e2 p2 hj1 hj2
      rw[Array.mem_push,hseen j e2 p2 hj1 hj2,List.mem_append,List.mem_singleton]
      refine or_congr Iff.rfl ⟨fun q=>?_,fun q=>?_⟩
      · have h3 : (es.toList.map (·.born))[j]? = some e'.born := by rw [List.getElem?_map, hj1]; simp [q]
        have h4:(es.toList.map (·.born))[i]? = some e'.born:=by rw[List.getElem?_map,hei];rfl
        have:j=i:=L8 hm.bnd h3 h4
        subst this
        rw[hp] at hj2;injection hj2 with hj2;rw[hj2]
      · have : j = i := Fj hm.nd hj2 hp q
        subst this
        rw[hei] at hj1;injection hj1 with hj1;rw[hj1]
    · intro a ha
      rw[List.getLast?_append] at ha
      simp at ha
      subst ha
      exact⟨rfl,i,e',p.2,seen,hei,hp,rfl⟩
theorem Zi {a:κ} {tk:TypeId} {it:Nat} {vs:List κ} (hT:P.underlying T=some (.map K e)) (hK:KeyOk P K kk) (hx:ev n f x = .map (some r)) (hy:ev n f y=kk a) (hR:RgW kk d 0 B0 w r it μ vs) (hd:d.E=[])
    (k:∀ w',RgW kk d 0 B0 w' r it (mset μ a none) (vs.filter fun k=>decide (k≠a))→One tMap r w w'→Lst P ops Q rest (fr n f) w'):Lst P ops Q (⟨none,.call ⟨.builtin .delete,#[x,y],#[T,tk]⟩,ty0,pos,aft,none⟩ :: rest) (fr n f) w:=by
  obtain⟨es,clock,m,since,seen,c0,hm,ht,hi,hold,hsc,hsc',hseen⟩:=hR.ex
  have hnr:it≠r:=fun q=>by subst q;have:=hm.blk.symm.trans hi;simp at this
  have hself:∀ o,(setBlock w r o).heap[r]? = some o:=fun o=>by show (w.heap.setIfInBounds r o)[r]? = _;simp[hm.lt]
  have hne:∀ o k,k≠r→(setBlock w r o).heap[k]? = w.heap[k]? := fun o k hk=>by show (w.heap.setIfInBounds r o)[k]? = _;rw[Array.getElem?_setIfInBounds_ne (fun e=>hk e.symm)]
  have hone:∀ es' clock',One tMap r w (setBlock w r (.map es' clock')):=fun es' clock' =>
    One.ofMod (E7 (B:=0) (t:=tMap) (.inl rfl) hm.blk hm.ty (fun x hx=>by unfold Eng.ty;rw[hx]) (Nat.zero_le _)) hm.ty (hne _)
  have hsame:∀ w2,Same 0 d.E w w2:=fun w2 k _ ho=>ho.elim (fun h=>absurd h (Nat.not_lt_zero _)) fun ⟨u,hu,_⟩=>by rw[hd] at hu;simp at hu
  have hsub0:∀ k'∈vs.filter (fun k=>decide (k≠a)),mset μ a none k'≠none:=fun k' hk=>by
    obtain⟨g1,g2⟩:=List.mem_filter.1 hk
    unfold mset;rw[if_neg (of_decide_eq_true g2)];exact hR.sub k' g1
  rcases hK.find w a es.toList _ hm.ents.keys with ⟨h1,h2⟩ | ⟨i,e',h1,h2,h3⟩
  · have hμ : μ a = none := by
      cases hμ:μ a with
      | none=>rfl
      | some b=>exact absurd ((ht.key a).2 (by rw[hμ];simp)) h1
    have hfl:(vs.filter fun k=>decide (k≠a))=vs:=List.filter_eq_self.2 fun k hk=>decide_eq_true fun e=>hR.sub k hk (by rw[e];exact hμ)
    have hms:mset μ a none=μ:=by funext k;unfold mset;split <;> simp_all
    refine l1n (w':=setBlock w r (.map es clock)) (v := .tuple #[]) ?_ (k _ (by rw[hfl,hms];exact hR.keep (fun _=>(hself _).trans hm.blk.symm) (fun _=>hne _ _ hnr) (hsame _)) (hone _ _))
    simp only[execOp,resolve,invoke,builtin,Sem.run_bind,Sem.run_pure,Result.andThen_ok,List.map_toArray,List.map_cons,List.map_nil,hx,hy]
    simp[Builtin.delete_,run_underlying hT,MapKept.run_getObj_map hm.blk,hK.check,h2,Sem.run_bind,MapKept.run_setObj_map _ hm.blk,setBlock]
  · obtain ⟨p, hp, hk, hvv⟩ := hm.ents.get h1
    have hpa:p.1=a:=by
      rw[List.getElem?_map,hp] at h2
      simpa using h2
    have hil:i<es.toList.length:=(List.getElem?_eq_some_iff.1 h1).1
    have her:(es.eraseIdxIfInBounds i).toList=es.toList.eraseIdx i:=by
      unfold Array.eraseIdxIfInBounds
      rw[dif_pos (by simpa using hil)]
      exact Array.toList_eraseIdx
    have hsub:(es.toList.eraseIdx i).Sublist es.toList:=List.eraseIdx_sublist _ _
    have hlm:m.length=es.toList.length:=hm.ents.length.symm
    refine l1n (w':=setBlock w r (.map (es.eraseIdxIfInBounds i) clock)) (v := .tuple #[]) ?_ (k _ ⟨hR.low,hR.nd.filter _,hsub0,_,clock,m.eraseIdx i,since,seen,c0,⟨hself _,?_,?_,?_,?_⟩,fun k' v'=>?_,(hne _ _ hnr).trans hi,fun e0 he0=>?_,hsc,hsc',fun j e2 p2 hj1 hj2=>?_⟩ (hone _ _))
    · simp only [execOp, resolve, invoke, builtin, Sem.run_bind, Sem.run_pure, Result.andThen_ok, List.map_toArray, List.map_cons, List.map_nil, hx, hy]
      simp[Builtin.delete_,run_underlying hT,MapKept.run_getObj_map hm.blk,hK.check,h3,Sem.run_bind,MapKept.run_setObj_map _ hm.blk,setBlock]
    · rw[her];exact(hm.ents.imp fun _ _=>d.keep (hsame _)).erase i
    · exact((List.eraseIdx_sublist m i).map _).nodup hm.nd
    · rw[her];exact(hsub.map _).nodup hm.bnd
    · intro e0 he0;rw[her] at he0;exact hm.bl e0 (hsub.subset he0)
    · unfold mset
      rw[List.mem_eraseIdx_iff_getElem?]
      by_cases hk':k'=a
      · subst hk'
        rw[if_pos rfl]
        constructor
        · rintro ⟨j, hne, hj⟩
          exact absurd (Fj hm.nd hj hp (by rw[hpa])) hne
        · intro hc;cases hc
      · rw [if_neg hk', ← ht k' v', List.mem_iff_getElem?]
        constructor
        · rintro⟨j,_,hj⟩;exact⟨j,hj⟩
        · rintro ⟨j, hj⟩
          exact⟨j,fun q=>by subst q;rw[hp] at hj;injection hj with hj;rw[hj] at hpa;exact hk' hpa,hj⟩
    · rw[her] at he0;exact hold e0 (hsub.subset he0)
    · rw [her, List.getElem?_eraseIdx] at hj1
      rw[List.getElem?_eraseIdx] at hj2
      have hpn:p2.1≠a:=fun q=>by
        split at hj2
        · rename_i hji
          have:=Fj hm.nd hj2 hp (by rw[hpa,q])
          omega
        · rename_i hji
          have:=Fj hm.nd hj2 hp (by rw[hpa,q])
          omega
      rw[List.mem_filter]
      split at hj1
      · rename_i hji
        rw[if_pos hji] at hj2
        rw[hseen j e2 p2 hj1 hj2]
        exact⟨fun h=>⟨h,decide_eq_true hpn⟩,fun h=>h.1⟩
      · rename_i hji
        rw[if_neg hji] at hj2
        rw[hseen _ e2 p2 hj1 hj2]
        exact⟨fun h=>⟨h,decide_eq_true hpn⟩,fun h=>h.1⟩
end
section
variable {S Sd : Nat → Prop} {w w' : World} {g gd r gn rn z : Nat} {got : List Hash} {μ : Hash → Option R3} {pi nx : Option Addr} {ni ci : Nat} {C : CS}
theorem Ab5:gotS []=fun _=>none:=by funext h;unfold gotS;simp
theorem Ru (got:List Hash) (x:Hash):mset (gotS got) x (some true)=gotS (got++[x]):=by
  funext k;unfold mset gotS
  by_cases e:k=x
  · rw[if_pos e,if_pos (by simp[e])]
  · rw[if_neg e];simp[e]
theorem CstX.setNext (h:CstX S Sd w g gd r μ pi ni ci nx C) (p:Put w w' g (stoV gd C pi ni ci r (some ⟨gn,0,none⟩)) tSto) (hB:Blk w gn #[.map (some rn),.int .i64 (z:Int)] tNxt) (hM:Mp Bf vBool 0 0 w rn (gotS got)) (h1:S gn) (h2:S rn) (h3:¬ Sd rn) (h4:rn≠r) :
    CstX S Sd w' g gd r μ pi ni ci (some ⟨gn,0,none⟩) { C with next:=some (got,z) } :=
  ⟨h.sub,h.d.modT (p.mod 0 (Nat.zero_le _)) (by decide),p.blk,h.m.mod (p.mod 0 (Nat.zero_le _)) (Nat.zero_le _) (by decide),h.c.one p.one (by decide),h.i.one p.one (by decide),h.sg,h.sr,h.nr,
    gn,rn,rfl,hB.one p.one (by decide),hM.mod (p.mod 0 (Nat.zero_le _)) (Nat.zero_le _) (by decide),h1,h2,h3,h4⟩
theorem CstX.gotAdd {x:Hash} (h:CstX S Sd w g gd r μ pi ni ci (some ⟨gn,0,none⟩) { C with next:=some (got,z) }) (m:One tMap rn w w') (hB:Blk w gn #[.map (some rn),.int .i64 (z:Int)] tNxt) (hM:Mp Bf vBool 0 0 w' rn (mset (gotS got) x (some true))) (h1:S gn) (h2:S rn) (h3:¬ Sd rn) (h4:rn≠r) :
    CstX S Sd w' g gd r μ pi ni ci (some ⟨gn,0,none⟩) { C with next:=some (got++[x],z) } :=
  ⟨h.sub,h.d.oneF m h3 (by decide),h.b.one m (by decide),h.m.other m h4.symm rfl,h.c.one m (by decide),h.i.one m (by decide),h.sg,h.sr,h.nr,
    gn,rn,rfl,hB.one m (by decide),by rw[← Ru];exact hM,h1,h2,h3,h4⟩
theorem CstX.nextZ {z':Nat} (h:CstX S Sd w g gd r μ pi ni ci (some ⟨gn,0,none⟩) { C with next:=some (got,z) }) (p:Put w w' gn #[.map (some rn),.int .i64 (z':Int)] tNxt) (hM:Mp Bf vBool 0 0 w rn (gotS got)) (h1:S gn) (h2:S rn) (h3:¬ Sd rn) (h4:rn≠r) :
    CstX S Sd w' g gd r μ pi ni ci (some ⟨gn,0,none⟩) { C with next:=some (got,z') } :=
  ⟨h.sub,h.d.modT (p.mod 0 (Nat.zero_le _)) (by decide),h.b.one p.one (by decide),h.m.mod (p.mod 0 (Nat.zero_le _)) (Nat.zero_le _) (by decide),h.c.one p.one (by decide),h.i.one p.one (by decide),h.sg,h.sr,h.nr,
    gn,rn,rfl,p.blk,hM.mod (p.mod 0 (Nat.zero_le _)) (Nat.zero_le _) (by decide),h1,h2,h3,h4⟩
end
theorem FB.same5 {S:Nat→Prop} {B:Nat} {E:List TypeId} {w w':World} {p:Option Addr} {n c:Nat} {x:By} (h:FB S w p n c x) (hs:Same B E w w') (h5:(5:TypeId)∈E):FB S w' p n c x:=h.keep fun g hg hl=>hs g hl (.inr ⟨5,h5,h.tyOf hg⟩)
def kFb (S:Nat→Prop):Kind By where
  sz:=1
  E:=[5]
  K:=fun _ w x cs=>∃ p n c,cs=[.slice p n c]∧FB S w p n c x
  len:=by rintro _ _ _ _ ⟨p,n,c,rfl,_⟩;rfl
  one:=by
    rintro _ _ _ _ ⟨p,n,c,rfl,_⟩ v hv
    simp only[List.mem_singleton] at hv
    subst hv;rfl
  keep:=fun hs ⟨p,n,c,h1,h2⟩=>⟨p,n,c,h1,h2.same5 hs (by simp)⟩
  mono:=fun _ h=>h
theorem Yb {S:Nat→Prop}:0<(kFb S).sz:=Nat.one_pos
section
variable {S : Nat → Prop} {w w' : World} {g B : Nat} {p : Option Addr} {n c : Nat} {e : TypeId}
theorem Acf {x:By} (hN:New w w' g #[.slice p n c] e) (h:FB S w' p n c x):Sl (kFb S) e 0 w' (some ⟨g,0,none⟩) 1 1 [x] :=
  (Own.made (kFb S) e 0 0 hN [x] [[.slice p n c]] 1 1 rfl ⟨⟨_,_,_,rfl,h⟩,trivial⟩ (Nat.zero_le _) (by omega) (by omega) (by rfl) (by rfl)).sl
theorem Sl.fbSl {xs:List By} (h:Sl (kFb S) e 0 w p n c xs):Sl (kSl kByte 5) e 0 w p n c xs:=h.imp (Nat.le_refl _) fun x cs ⟨p,n,c,h1,h2⟩=>⟨p,n,c,h1,h2.sl⟩
end
theorem Tp (L:List By) {l:List Hash} {k:Nat} (h:k<l.length):A0 L (l.take (k+1))=A0 L (l.take k)++[(findF L (l.getD k default)).getD []]:=by
  unfold A0
  rw[List.take_succ_eq_append_getElem h,List.map_append,List.getD_eq_getElem?_getD,List.getElem?_eq_getElem h];rfl
theorem Xk {C:CS} {k:Nat} (hn:CN C k) (l:List Hash):∀ x∈A0 C.L l,x.length≤1048576:=fun x hx=>by
  obtain⟨h,_,rfl⟩:=List.mem_map.1 hx
  cases e:findF C.L h with
  | none=>simp
  | some c=>exact hn.cl c (Do e).2
theorem Jb (L:List By) (l:List Hash):(A0 L l).length=l.length:=by simp[A0]
def En (C:CS) (got:List Hash) (z:Nat) (nm:ByteArray) (left:List Hash):CS×Int :=
  ({ C with D:=(A4 C.D nm (segB (A0 C.L left))).1,next:=if (A4 C.D nm (segB (A0 C.L left))).2=0 then some (got++left,z+(segB (A0 C.L left)).length) else some (got,z) },(A4 C.D nm (segB (A0 C.L left))).2)
theorem ModS.modIn {S:Nat→Prop} {E:List TypeId} {a b c:World} {B:Nat} {t:TypeId} (h:ModS S E a b) (m:Mod B t b c) (hS:∀ k,B≤k→S k) (ht:t∈E):ModS S E a c :=
  h.trans (S':=S) ⟨m.size,fun k hk ho=>m.old k hk (ho.imp (fun hn=>Nat.lt_of_not_le fun hb=>hn (hS k hb)) fun hE=>hE t ht),m.tys,m.drawn,m.os,m.tape,m.output⟩ fun _ _ h=>h
theorem Rr {l:List Hash} {k:Nat} (h:k<l.length):l.take (k+1)=l.take k++[l.getD k default]:=by
  rw[List.take_succ_eq_append_getElem h,List.getD_eq_getElem?_getD,List.getElem?_eq_getElem h];rfl
theorem CstX.nx0 {S Sd:Nat→Prop} {w:World} {g gd r:Nat} {μ:Hash→Option R3} {pi nx:Option Addr} {ni ci:Nat} {C:CS} {D:DS} {got:List Hash} {z:Nat} (h:CstX S Sd w g gd r μ pi ni ci nx { C with D:=D }) (hn:C.next=some (got,z)):CstX S Sd w g gd r μ pi ni ci nx { C with D:=D,next:=some (got,z) }:=by
  rw[← hn];exact h
section
variable {S Sd : Nat → Prop} {w w' : World} {g gd r : Nat} {μ : Hash → Option R3} {pi nx : Option Addr} {ni ci : Nat} {C : CS}
theorem CstX.pruned {got:List Hash} (h:CstX S Sd w g gd r μ pi ni ci nx C) (m:ModS (fun j=>j=r) [tMap] w w') (hM:Mp Bf vCh 0 0 w' r (fun k=>if k∈got then μ k else none)) :
    CstX S Sd w' g gd r (fun k=>if k∈got then μ k else none) pi ni ci nx { C with L:=C.L.filter fun c=>decide (shaF c∈got) } :=
  h.copied m hM (by have:=(h.c.mapT m).del (fun k=>decide (k∈got));simpa using this)
theorem CstX.setSeg {n:Nat} (h:CstX S Sd w g gd r μ pi ni ci nx C) (p:Put w w' g (stoV gd { C with seg:=n } pi ni ci r nx) tSto):CstX S Sd w' g gd r μ pi ni ci nx { C with seg:=n } :=
  h.laid (C':={ C with seg:=n }) p rfl rfl (h.i.one p.one (by decide)) (.inl ⟨rfl,rfl⟩)
theorem CstX.setNil (h:CstX S Sd w g gd r μ pi ni ci nx C) (p:Put w w' g (stoV gd C pi ni ci r none) tSto):CstX S Sd w' g gd r μ pi ni ci none { C with next:=none } :=
  h.laid (C':={ C with next:=none }) p rfl rfl (h.i.one p.one (by decide)) (.inr ⟨rfl,rfl⟩)
end
section
variable {C : CS} {live got : List Hash} {z : Nat}
theorem Gu (h:C.next=none):stepS C live=({ C with D:=(Bk C.D (nSeg (C.seg+1))).1,next:=if (Bk C.D (nSeg (C.seg+1))).2=0 then some ([],0) else none },false,(Bk C.D (nSeg (C.seg+1))).2):=by
  unfold stepS;rw[h]
theorem Hj (h:C.next=some (got,z)) (h1:srt (sel live false (srt got))≠[]):stepS C live=({ C with D:=(Bj C.D (nSeg (C.seg+1))).1,next:=if (Bj C.D (nSeg (C.seg+1))).2=0 then none else some (got,z) },false,(Bj C.D (nSeg (C.seg+1))).2):=by
  unfold stepS;rw[h];simp only[];rw[if_pos h1]
theorem G4 (h:C.next=some (got,z)) (h1:srt (sel live false (srt got))=[]) (h2:srt (sel (srt got) false live)≠[]):stepS C live=((En C got z (nSeg (C.seg+1)) ((srt (sel (srt got) false live)).take 4)).1,false,(En C got z (nSeg (C.seg+1)) ((srt (sel (srt got) false live)).take 4)).2):=by
  unfold stepS En;rw[h];simp only[];rw[if_neg (fun q=>q h1),if_pos h2]
def lastOps (C:CS) (z:Nat):List (DS→DS×Int):=[fun D=>syncD D (nSeg (C.seg+1)),fun D=>writeM D ⟨C.seg+1,z,C.index⟩,fun D=>Bj D (nSeg C.seg)]
theorem Fh (h:C.next=some (got,z)) (h1:srt (sel live false (srt got))=[]) (h2:srt (sel (srt got) false live)=[]):stepS C live=if (runD (lastOps C z) C.D).2≠0 then ({ C with D:=(runD (lastOps C z) C.D).1 },false,(runD (lastOps C z) C.D).2) else
    ({ C with D:=(runD (lastOps C z) C.D).1,seg:=C.seg+1,size:=z,L:=C.L.filter (fun c=>decide (shaF c∈got)),next:=none },true,0):=by
  unfold stepS;rw[h];simp only[];rw[if_neg (fun q=>q h1),if_neg (fun q=>q h2)]
  simp only[lastOps,runD,Ep]
theorem Pk {L:List By} (hg:∀ h∈got,findF L h≠none):∀ vs:List Hash,vs.Nodup→(∀ z∈vs,gotS got z≠none)→vs.length≤L.length:=fun vs h1 h2=>by
  have:=Fz h1 (ks:=L.map shaF) fun z hz=>by
    have h3:=h2 z hz
    unfold gotS at h3
    have h4:z∈got:=Classical.byContradiction fun hc=>h3 (if_neg hc)
    obtain⟨c,hc⟩:=Option.ne_none_iff_exists'.1 (hg z h4)
    obtain⟨e,hm⟩:=Do hc
    exact List.mem_map.2 ⟨c,hm,e⟩
  rwa [List.length_map] at this
theorem Ad6 {xs:List Hash} (hx:∀ z,z∈xs↔gotS got z≠none):srt xs=srt got :=
  Om (Fy xs) fun z=>by
    rw[mem_srt,hx]
    unfold gotS
    by_cases e:z∈got <;> simp[e]
theorem Aar {l:List Hash} {m:Nat} (h:l.length=m):l.take (min 4 m)=l.take 4:=by
  rcases Nat.le_total 4 m with h1 | h1
  · rw[Nat.min_eq_left h1]
  · rw[Nat.min_eq_right h1,List.take_of_length_le (by omega),List.take_of_length_le (by omega)]
end
theorem Oi {C:CS} {live:List Hash} (hd:¬ C.dead=true) (h2:∀ h∈live,findF C.L h≠none) (h3:¬ 999999≤C.seg):stepF C live=if (stepS C (srt live)).2.2≠0 then ((undoC (stepS C (srt live)).1 (stepS C (srt live)).2.2 true).1,false,(undoC (stepS C (srt live)).1 (stepS C (srt live)).2.2 true).2) else stepS C (srt live):=by
  unfold stepF
  rw[if_neg hd,if_neg (fun ⟨h,a,b⟩=>h2 h a b),if_neg h3]
end Go.Proofs.Eng
end
section
set_option maxRecDepth 100000
set_option maxHeartbeats 4000000
namespace Go.Proofs.Eng
open Go.RowKit
open Extern.Stop (cell)
theorem fb11:Tryz.f11.body.isNone=false:=by kernel_rfl
theorem fb12:Tryz.f12.body.isNone=false:=by kernel_rfl
theorem fb13:Tryz.f13.body.isNone=false:=by kernel_rfl
theorem fb14:Tryz.f14.body.isNone=false:=by kernel_rfl
theorem fb15:Tryz.f15.body.isNone=false:=by kernel_rfl
theorem fb28:Tryz.f28.body.isNone=false:=by kernel_rfl
theorem fb29:Tryz.f29.body.isNone=false:=by kernel_rfl
theorem fb30:Tryz.f30.body.isNone=false:=by kernel_rfl
theorem fb31:Tryz.f31.body.isNone=false:=by kernel_rfl
theorem fn11 : ngB Tryz.f11 = false := by kernel_rfl
theorem fn12 : ngB Tryz.f12 = false := by kernel_rfl
theorem fn13 : ngB Tryz.f13 = false := by kernel_rfl
theorem fn14 : ngB Tryz.f14 = false := by kernel_rfl
theorem fn15 : ngB Tryz.f15 = false := by kernel_rfl
theorem fn28 : ngB Tryz.f28 = false := by kernel_rfl
theorem fn29 : ngB Tryz.f29 = false := by kernel_rfl
theorem fn30 : ngB Tryz.f30 = false := by kernel_rfl
theorem fn31 : ngB Tryz.f31 = false := by kernel_rfl
end Go.Proofs.Eng
end
section
set_option maxRecDepth 100000
set_option maxHeartbeats 4000000
namespace Go.Proofs.Eng
open Go.RowKit
open Extern.Stop (cell)
theorem fb41:Tryz.f41.body.isNone=false:=by kernel_rfl
theorem fn41 : ngB Tryz.f41 = false := by kernel_rfl
theorem Mi:Bc Tryz.prog 26 2=some (23,2):=by kernel_rfl
theorem sz26:(Tryz.prog.info? 26).map (·.size)=some 6:=by kernel_rfl
theorem u27:Tryz.prog.underlying 27=some (.slice 26):=by kernel_rfl
end Go.Proofs.Eng
end
section
set_option maxRecDepth 100000
set_option maxHeartbeats 4000000
namespace Go.Proofs.Eng
open Go.RowKit
open Extern.Stop (cell)
theorem fb10:Tryz.f10.body.isNone=false:=by kernel_rfl
theorem fb16:Tryz.f16.body.isNone=false:=by kernel_rfl
theorem fb9:Tryz.f9.body.isNone=false:=by kernel_rfl
theorem fn10 : ngB Tryz.f10 = false := by kernel_rfl
theorem fn16 : ngB Tryz.f16 = false := by kernel_rfl
theorem fn9 : ngB Tryz.f9 = false := by kernel_rfl
end Go.Proofs.Eng
end
section
set_option maxRecDepth 100000
set_option maxHeartbeats 4000000
namespace Go.Proofs.Eng
open Go.RowKit
open Extern.Stop (cell)
theorem Tg:Bc Tryz.prog 166 0=some (164,0):=by kernel_rfl
theorem Lq:Bc Tryz.prog 166 1=some (3,1):=by kernel_rfl
theorem sz164:(Tryz.prog.info? 164).map (·.size)=some 1:=by kernel_rfl
theorem un89:(Tryz.prog.underlying 89).map TypeDesc.isRow=some false:=by kernel_rfl
end Go.Proofs.Eng
end
section
set_option maxRecDepth 100000
set_option maxHeartbeats 4000000
namespace Go.Proofs.Eng
open Go.RowKit
open Extern.Stop (cell)
theorem Uc (g gd r:Nat) (S Sd:Nat→Prop) (μ:Hash→Option R3) (pi nx:Option Addr) (ni ci:Nat) (C:CS) (k_:Nat) (w:World) (hCX:CstX S Sd w g gd r μ pi ni ci nx C) (hn:CN C k_) (hS:∀ j,S j→6≤j) (hg:Gt w) (hk:k_<4611686018427200000) (got:List Hash) (z:Nat) (hnx:C.next=some (got,z)) (left:List Hash) (p:Option Addr) (n c:Nat) (hl:Sl kHash 64 0 w p n c left) (hle:n≤4) (nm:ByteArray) (hnm:nm.size≤9223372036854775807) :
    Ret Tryz.prog 118 [.pointer (some ⟨g,0,none⟩),.slice p n c,.string nm] w (fun v w'=>v = .int .i64 (En C got z nm left).2∧Cst (grow S w w') w' g gd (En C got z nm left).1∧ModS S EC w w'):=by
 have hgs:=hg.size
 have hsg:=hCX.sg
 have hGd:=hn.good
 have hhi:=hn.hi
 have hsz:=hn.sz
 have hCX0:=hCX.start
 have hg0:=hg
 have hb:=hCX0.b
 have hbl:=hb.lt
 have hrl_:=hCX0.m.lt
 have hg6:=hS _ hsg
 have hX:=Ext.refl w
 refine eN 74 Tryz.func118 ?_
 refine Ab (Aa ?_)
 refine pA (Ac (t_n (Ab (Aa ?_))))
 refine pA (Ac (t_n (Ab (Ab (Aa ?_)))))
 refine pM ?_
 refine p1 (Aj u54 rfl) ?_
 refine pM (Ac (t_n (Am ?_)))
 have hln:=hl.len
 have hlc:=hl.cap
 have hlf:=hl.fit
 refine Bg (ι:=Nat×Option Addr×Nat×Nat) [7,9,16,17,18,19,20,21,22,23,24,25,26,27,28,29] (fun (k,ql,ml,cl)=>[(7,.slice ql ml cl),(16,.int .i64 (k:Int))]) (fun (k,ql,ml,cl) w'=>Ext w w'∧(k≤n∧Own (kFb (nS Sd)) 23 0 w.heap.size w' ql ml cl (A0 C.L (left.take k)))) (fun (k,ql,ml,cl)=>n - k) ((0,none,0,0)) ⟨rfl,rfl,trivial⟩ ⟨hX,Nat.zero_le _,by rw[List.take_zero];exact Own.nil _ _ _ _ _⟩ ?_
 rintro⟨k,ql,ml,cl⟩ GL0 w1 ⟨hE1,hk,hLo⟩
 have hX:=hE1
 have hCX:=hCX0.ext hX
 have hM:=hCX.m
 have hC:=hCX.c
 have hb:=hCX.b
 have hg:=hg0.ext hX
 have hmll:=hLo.len
 rw[Jb,List.length_take] at hmll
 refine Ab (Aa ?_)
 refine p1 (Bx rfl rfl) ?_
 refine Ac (t_n (Ab ?_))
 refine As rfl (fun hc17=>?_) (fun hc17=>?_)
 ·refine Ai (t_n (Ab (Am (Ab (Aa ?_)))))
  refine p1 (Fd u54 sz64 rfl rfl ((hl.ext hX).adr Cb (by omega)) (by omega) (by omega)) ?_
  refine p1 (C9 ua64 rfl (G0 sz64 _) ((hl.ext hX).hashAt (k:Int) (by omega) (by omega))) ?_
  have hz9:=hX.size
  refine A6 zr64 ?_
  intro w2 g9 hN9
  have hE2:=hN9.ext
  have hX:=hX.ext hE2
  have hCX:=hCX.ext hE2
  have hM:=hM.ext hE2
  have hC:=hC.ext hE2
  have hb:=hb.ext hE2
  have hg:=hg.ext hE2
  have hLo:=hLo.ext hE2
  have hB9:=hN9.blk
  have hq9:=hN9.g_eq
  refine Az rfl rfl (Cm _) (B4 sz64 _) hB9 (Dl _) ?_
  intro w3 hP3
  have hX:=hX.put hP3 (by omega)
  have hCX:=hCX0.ext hX
  have hM:=(hCX0.ext hX).m
  have hC:=(hCX0.ext hX).c
  have hb:=(hCX0.ext hX).b
  have hg:=hg.put hP3 (by omega)
  have hLo:=hLo.mod (hP3.mod 0 (Nat.zero_le _)) (Nat.zero_le _) (by simp[kFb])
  have hB9:=hP3.blk
  refine Ac (t_n ?_)
  refine B7 (fun w1 w2=>ModS (fun j=>w.heap.size≤j) [23] w1 w2) mixed ?_
  intro w4 hE4
  have hX:=hX.ext hE4
  have hCX:=hCX.ext hE4
  have hM:=hM.ext hE4
  have hC:=hC.ext hE4
  have hb:=hb.ext hE4
  have hg:=hg.ext hE4
  have hLo:=hLo.ext hE4
  have hB9:=hB9.ext hE4
  have hSr5:(fun w1 w2=>ModS (fun j=>w.heap.size≤j) [23] w1 w2) w4 w4:=ModS.refl _ _ _
  refine hT 0 rfl hSr5 (fun wS hSS=>by(exact(Al (by conv=>lhs;whnf)))) ?_
  refine hT 1 rfl hSr5 (fun wS hSS=>by(exact(Al (by conv=>lhs;whnf)))) ?_
  refine hT 2 rfl hSr5 (fun wS hSS=>by(exact(Af rfl))) ?_
  refine hT 3 rfl hSr5 (fun wS hSS=>by(exact(Ad Fp sz88 rfl))) ?_
  refine hT 4 rfl hSr5 (fun wS hSS=>by(have hb:=hb.modS hSS (.inr (by decide));have hB9:=hB9.modS hSS (.inr (by decide));have hM:=hM.turn hSS (fun h=>by have:w.heap.size≤r:=h;omega) rfl;exact(Ae un88 rfl (hb.cell (rfl))))) ?_
  refine hT 5 rfl hSr5 (fun wS hSS=>by(have hb:=hb.modS hSS (.inr (by decide));have hB9:=hB9.modS hSS (.inr (by decide));have hM:=hM.turn hSS (fun h=>by have:w.heap.size≤r:=h;omega) rfl;exact(Bh ua64 rfl hB9 (B4 sz64 _)))) ?_
  obtain⟨⟨p0,n0,c0⟩,hr0⟩:∃ x:R3,x=(μ (left.getD k default)).getD r30:=⟨_,rfl⟩
  obtain⟨hC0a,hC0b⟩:=hC.get (left.getD k default)
  rw[← hr0] at hC0a hC0b
  simp only at hC0a hC0b
  refine hT 6 rfl hSr5 (fun wS hSS=>by(have hb:=hb.modS hSS (.inr (by decide));have hB9:=hB9.modS hSS (.inr (by decide));have hM:=hM.turn hSS (fun h=>by have:w.heap.size≤r:=h;omega) rfl;exact(((lookC u88 zr23 (Cg u64 u5 sz5) hM (left.getD k default) rfl rfl)).cast (by rw[← hr0];rfl:r3V _=Value.slice p0 n0 c0)))) ?_
  refine h1L 7 (fun Q7 hQ7=>?_)
  refine Au u22 inf23 rfl (by decide) (fun base hb=>Cj (by rfl) base hb) ?_
  intro w5 g27 hN27
  have hE5:=hN27.ext
  have hX:=hX.ext hE5
  have hCX:=hCX.ext hE5
  have hM:=hM.ext hE5
  have hC:=hC.ext hE5
  have hb:=hb.ext hE5
  have hg:=hg.ext hE5
  have hLo:=hLo.ext hE5
  have hSr5:=hSr5.ext hE5
  have hJ:=Acf hN27 (hC0b.ext hE5)
  refine An hQ7 ⟨hSr5,?_⟩
  refine h1L 8 (fun Q8 hQ8=>?_)
  obtain⟨cssJ,hAJ,hsrJ⟩:=Dx u22 hJ Yb
  have hB1:=hX.size
  refine Bv (d:=(kFb (nS Sd))) ([(findF C.L (left.getD k default)).getD []]) u22 inf23 rfl Yb rfl rfl hLo (hsrJ) rfl (hAJ) (rfl) (by omega) (by omega) (by omega) (by omega) (by simp[kFb]) ?_
  intro p28 c28 w6 hLo hM6
  have hX:=hX.mod hM6 (Nat.le_refl _)
  have hCX:=hCX0.ext hX
  have hM:=(hCX0.ext hX).m
  have hC:=(hCX0.ext hX).c
  have hb:=(hCX0.ext hX).b
  have hg:=hg0.ext hX
  have hSr5:=hSr5.modIn hM6 (fun _ h=>h) (by simp)
  refine An hQ8 ⟨hSr5,?_⟩
  refine hT 9 rfl hSr5 (fun wS hSS=>by(exact(Ax (by conv=>lhs;whnf)))) ?_
  refine Bm (by kernel_rfl) ?_
  refine b_n (t_n (Aa ?_))
  refine p1 (Aw rfl rfl (Ag (by omega) (by omega))) ?_
  refine pM (Ac ?_)
  refine t_n (aK ((k+1,p28,ml+1,c28)) ⟨rfl,rfl,trivial⟩ ?_)
  exact⟨⟨hX,by omega,by rw[Tp _ (by omega)];exact hLo⟩,by(dsimp only;omega)⟩
 refine Ba (t_e (t_e (Bu (t_n (Ab ?_)))))
 have hkk:left.take k=left:=List.take_of_length_le (by omega)
 rw[hkk] at hLo
 have hcl:=Xk hn left
 have hpf:=Ut hcl
 have hpf2:(putF (A0 C.L left)).2=0:=by rw[hpf]
 have hsl:=K7 hcl
 have hchl:=Jb C.L left
 have hXq:=hX.size
 refine Aa ?_
 refine pM ?_
 refine Ah Tryz.func54 fn54 fb54 (Mv (A0 C.L left) _ _ _ _ _ hLo.sl.fbSl (by show (segB (A0 C.L left)).length≤_;omega) hg.l.q) rfl ?_
 rintro v7 w7 ⟨⟨qb,mb,cb,rfl,hO⟩,hE7⟩
 have hX:=hX.ext hE7
 have hCX:=hCX.ext hE7
 have hb:=hb.ext hE7
 have hg:=hg.ext hE7
 rw[hpf2]
 rw[hpf] at hO
 dsimp only at hO
 have hO:=hO.lower hXq
 have hOl:(segB (A0 C.L left)).length=mb:=hO.len
 refine pM ?_
 refine p1 (Ao rfl rfl) ?_
 refine p1 (Ao rfl rfl) ?_
 refine pA (pA (Ac (t_n (Ab (Ab (Aa ?_))))))
 refine pM ?_
 refine p1 ((Bn rfl rfl).cast (congrArg Value.bool (decide_eq_true (rfl)))) ?_
 refine Ac (t_n ?_)
 refine c_t (rfl) ?_
 have hXe:=hX
 have hX:=ModS.ofExt (S:=S) (E:=EC) hXe
 refine Aa ?_
 refine pM ?_
 refine p1 (Af rfl) ?_
 refine p1 (Ad Cr sz34 rfl) ?_
 refine p1 (Ae un34 rfl (hb.cell (rfl))) ?_
 refine pM (pM ?_)
 have hXs:=hX.size
 refine Ah Tryz.func19 fn19 fb19 (I7 gd _ _ _ hCX.d hGd.ok (Nat.lt_of_le_of_lt hGd.steps (by omega)) hGd.left nm hnm 5 _ _ _ _ _ hO.sl) rfl ?_
 rintro v8 w8 ⟨rfl,hD2,hM2⟩
 have hX:=hX.stepE hM2 (Db hCX)
 have hg:=hg.modS hM2 (fun k hk=>(hCX.sub k hk).elim (hS k) fun q=>Nat.le_trans hgs q)
 have hCX:=hCX.stepD hXs hM2 hD2
 have hb:Blk w8 g (stoV gd C pi ni ci r nx) tSto:=hCX.b
 have hGd:=G7 hGd nm (segB (A0 C.L left))
 refine pA (Ac (t_n (Ab (Ab (Aa ?_)))))
 refine pM ?_
 refine p1 (A2 rfl rfl) ?_
 refine Ac (t_n ?_)
 refine As rfl (fun hc45=>?_) (fun hc45=>?_)
 ·have hbr:En C got z nm left=({ C with D:=(A4 C.D nm (segB (A0 C.L left))).1,next:=C.next },(A4 C.D nm (segB (A0 C.L left))).2):=by unfold En;rw[if_neg hc45,hnx]
  refine Ab (Aa ?_)
  refine pM (pA (Ac (t_n (Ak (t_r ?_)))))
  refine eR1 ?_
  first
    | (rw[hbr];exact⟨rfl,hCX.done,hX⟩)
 have he0:(A4 C.D nm (segB (A0 C.L left))).2=0:=by omega
 have hbr:En C got z nm left=({ C with D:=(A4 C.D nm (segB (A0 C.L left))).1,next:=some (got++left,z+mb) },0):=by unfold En;rw[if_pos he0,hOl,he0]
 have hn3:Nxt (opn S w) _ _ r nx (some (got,z)):=hnx ▸ hCX.n
 obtain⟨gn,rn,hnp,hBn,hMn,hgnS,hrnS,hrnD,hrnr⟩:=hn3
 subst hnp
 have hzb:=hn.nx got z hnx
 have hCX:=hCX.nx0 hnx
 rw[show got=got++left.take 0 by simp] at hCX hMn
 obtain⟨D1,hD1⟩:∃ d,d=(A4 C.D nm (segB (A0 C.L left))).1:=⟨_,rfl⟩
 rw[← hD1] at hCX hbr
 refine Ai (t_n (Ab (Ab (Aa ?_))))
 refine pM ?_
 refine p1 (Aj u54 rfl) ?_
 refine pM (Ac (t_n (Am ?_)))
 refine Bg (ι:=Nat) [13,49,50,51,52,53,54,55,56,57,58,59,60,61] (fun j=>[(49,.int .i64 (j:Int))]) (fun j w'=>ModS S EC w w'∧(j≤n∧(∃ Sd2,CstX (opn S w) Sd2 w' g gd r μ pi ni ci (some ⟨gn,0,none⟩) { C with D:=D1,next:=some (got++left.take j,z) }∧¬ Sd2 rn)∧Blk w' gn #[.map (some rn),.int .i64 (z:Int)] tNxt∧Mp Bf vBool 0 0 w' rn (gotS (got++left.take j))∧Gt w')) (fun j=>n - j) (0) ⟨rfl,trivial⟩ ⟨hX,Nat.zero_le _,⟨_,hCX,hrnD⟩,hBn,hMn,hg⟩ ?_
 rintro j GL2 w9 ⟨hE9,hj,⟨Sd2,hCX,hrnD⟩,hBn,hMn,hg⟩
 have hX:=hE9
 have hb:Blk w9 g (stoV gd C pi ni ci r (some ⟨gn,0,none⟩)) tSto:=hCX.b
 have hCXr:=hCX
 have hBnr:=hBn
 have hMnr:=hMn
 have hXa:=Ext.refl w9
 have hlz:=hl.modS hX (fun _ _=>Nat.zero_le _) (by decide)
 refine Ab (Aa ?_)
 refine p1 (Bx rfl rfl) ?_
 refine Ac (t_n (Ab ?_))
 refine As rfl (fun hc50=>?_) (fun hc50=>?_)
 ·refine Ai (t_n (Ab (Am (Ab (Aa ?_)))))
  refine p1 (Fd u54 sz64 rfl rfl (hlz.adr Cb (by omega)) (by omega) (by omega)) ?_
  refine p1 (C9 ua64 rfl (G0 sz64 _) (hlz.hashAt (j:Int) (by omega) (by omega))) ?_
  have hz13:=hX.size
  refine A6 zr64 ?_
  intro w10 g13 hN13
  have hE10:=hN13.ext
  have hX:=hX.ext hE10
  have hCX:=hCX.ext hE10
  have hBn:=hBn.ext hE10
  have hMn:=hMn.ext hE10
  have hg:=hg.ext hE10
  have hb:=hb.ext hE10
  have hXa:=hXa.ext hE10
  have hB13:=hN13.blk
  have hq13:=hN13.g_eq
  refine Az rfl rfl (Cm _) (B4 sz64 _) hB13 (Dl _) ?_
  intro w11 hP11
  have hX:=hX.new hP11 (by omega)
  have hCX:=hCXr.ext (hXa.put hP11 (by omega))
  have hBn:=hBnr.ext (hXa.put hP11 (by omega))
  have hMn:=hMnr.ext (hXa.put hP11 (by omega))
  have hg:=hg.put hP11 (by omega)
  have hb:=hP11.keep hb (by omega)
  have hB13:=hP11.blk
  refine Ac (t_n ?_)
  refine B7 (fun w1 w2=>ModS (fun j=>j=rn) [tMap] w1 w2) mixed ?_
  intro w12 hE12
  have hX:=hX.ext hE12
  have hCX:=hCX.ext hE12
  have hBn:=hBn.ext hE12
  have hMn:=hMn.ext hE12
  have hg:=hg.ext hE12
  have hb:=hb.ext hE12
  have hB13:=hB13.ext hE12
  have hSr15:(fun w1 w2=>ModS (fun j=>j=rn) [tMap] w1 w2) w12 w12:=ModS.refl _ _ _
  refine hT 0 rfl hSr15 (fun wS hSS=>by(exact(Al (by conv=>lhs;whnf)))) ?_
  refine hT 1 rfl hSr15 (fun wS hSS=>by(exact(Af rfl))) ?_
  refine hT 2 rfl hSr15 (fun wS hSS=>by(exact(Ad Dn sz89 rfl))) ?_
  refine hT 3 rfl hSr15 (fun wS hSS=>by(have hb:=hb.modS hSS (.inr (by decide));have hBn:=hBn.modS hSS (.inr (by decide));have hB13:=hB13.modS hSS (.inr (by decide));exact(Ae un89 rfl (hb.cell (rfl))))) ?_
  refine hT 4 rfl hSr15 (fun wS hSS=>by(exact(Af rfl))) ?_
  refine hT 5 rfl hSr15 (fun wS hSS=>by(exact(Ad Tg sz164 rfl))) ?_
  refine hT 6 rfl hSr15 (fun wS hSS=>by(have hb:=hb.modS hSS (.inr (by decide));have hBn:=hBn.modS hSS (.inr (by decide));have hB13:=hB13.modS hSS (.inr (by decide));exact(Ae un164 rfl (hBn.cell (rfl))))) ?_
  refine hT 7 rfl hSr15 (fun wS hSS=>by(have hb:=hb.modS hSS (.inr (by decide));have hBn:=hBn.modS hSS (.inr (by decide));have hB13:=hB13.modS hSS (.inr (by decide));exact(Bh ua64 rfl hB13 (B4 sz64 _)))) ?_
  refine h1L 8 (fun Q8 hQ8=>?_)
  have hMt13:=hMn.tyOf
  refine Ej (a:=(left.getD j default)) (b:=true) u164 (Cg u64 u5 sz5) rfl rfl rfl hMn rfl (Nat.zero_le _) (by decide) ?_
  intro w13 hMn hMm13 hne13
  have hO113:=One.ofMod hMm13 hMt13 hne13
  have hSr15:=hSr15.trans hO113.mods (fun _ _ h=>h)
  have hX:=hX.one hO113 ⟨hrnS,by decide⟩
  have hCX:=hCX.gotAdd (C:={ C with D:=D1 }) hO113 hBn hMn hgnS hrnS hrnD hrnr
  have hBn:=hBn.one hO113 (by decide)
  have hg:=hg.one hO113 (hrnS.elim (hS rn) fun q=>Nat.le_trans hgs q)
  rw[Ru] at hMn
  refine An hQ8 ⟨hSr15,?_⟩
  refine Bm (by kernel_rfl) ?_
  refine b_n (t_n (Aa ?_))
  refine p1 (Aw rfl rfl (Ag (by omega) (by omega))) ?_
  refine pM (Ac ?_)
  refine t_n (aK (j+1) ⟨rfl,trivial⟩ ?_)
  exact⟨⟨hX,by omega,⟨_,by rw[Rr (by omega),← List.append_assoc];exact hCX,hrnD⟩,hBn,by rw[Rr (by omega),← List.append_assoc];exact hMn,hg⟩,by((show _<_);omega)⟩
 refine Ba (t_e (t_e (Bu (t_n (Ab ?_)))))
 have hjj:left.take j=left:=List.take_of_length_le (by omega)
 rw[hjj] at hCX hMn
 have hb:=hCX.b
 refine Aa ?_
 refine pM ?_
 refine p1 (Af rfl) ?_
 refine p1 (Ad Dn sz89 rfl) ?_
 refine p1 (Ae un89 rfl (hb.cell (rfl))) ?_
 refine p1 (Af rfl) ?_
 refine p1 (Ad Lq sz3 rfl) ?_
 refine p1 (Ae un3 rfl (hBn.cell (rfl))) ?_
 refine pM ?_
 refine p1 (Aj u23 rfl) ?_
 refine p1 ((Aw rfl rfl (Ag (by omega) (by omega))).cast (congrArg (Value.int .i64) (by omega:_=((z+mb:Nat):Int)))) ?_
 refine p1 (Af rfl) ?_
 refine p1 (Ad Lq sz3 rfl) ?_
 refine Ar rfl (by conv=>lhs;whnf) rfl rfl sz3 hBn (by show _<2;omega) ?_
 intro w14 hP14
 have hX:=hX.put hP14 (⟨hgnS,by decide⟩)
 have hBn:=hP14.blk
 try simp only[List.setIfInBounds_toArray,List.set_cons_zero,List.set_cons_succ] at hBn
 have hCX:=hCX.nextZ (C:={ C with D:=D1 }) (z':=z+mb) hP14 hMn hgnS hrnS hrnD hrnr
 refine Ac (t_n (Ab (Aa ?_)))
 refine pA (Ac (t_n (Ak ?_)))
 refine eR1 ?_
 first
   | (rw[hbr];exact⟨rfl,hCX.done,hX⟩)
end Go.Proofs.Eng
end
section
set_option maxRecDepth 100000
set_option maxHeartbeats 4000000
namespace Go.Proofs.Eng
open Go.RowKit
open Extern.Stop (cell)
theorem fb123:Tryz.f123.body.isNone=false:=by kernel_rfl
theorem fn123 : ngB Tryz.f123 = false := by kernel_rfl
end Go.Proofs.Eng
end
section
set_option maxRecDepth 100000
set_option maxHeartbeats 4000000
namespace Go.Proofs.Eng
open Go.RowKit
open Extern.Stop (cell)
theorem Ae3 (gd:Nat) (S:Nat→Prop) (D:DS) (w:World) (hD:Dsk S w gd D) (hok:DOk D) (hst:D.steps<4611686018427387904) (hle:D.left≤9223372036854775807) (hnm:∀ x∈D.l,A1 x.1=true) (b0 b1 gs:Nat) (cs:Array Value) (nm:ByteArray) (hnz:nm.size≤9223372036854775807) (hb0:Blk w b0 #[.pointer (some ⟨gs,0,none⟩)] 30) (hs:Blk w gs cs 91) (hs0:cs[0]? = some (.pointer (some ⟨gd,0,none⟩))) (hb1:Blk w b1 #[.string nm] 9) :
    Ret Tryz.prog 119 [.pointer (some ⟨b0,0,none⟩),.pointer (some ⟨b1,0,none⟩)] w (fun v w'=>v = .int .i64 (syncD D nm).2∧Dsk (grow S w w') w' gd (syncD D nm).1∧ModS S ED w w'):=by
 have hX:=Ext.refl w
 refine eN 9 Tryz.func119 ?_
 refine Ab (Aa ?_)
 refine pA (Ac (t_n (Ab ?_)))
 refine Cp 5 mixed (by kernel_rfl) ?_
 intro w1 hE1
 have hX:=hX.ext hE1
 have hD:=hD.ext hE1
 have hb0:=hb0.ext hE1
 have hb1:=hb1.ext hE1
 have hs:=hs.ext hE1
 refine s1 (Ae un30 rfl (hb0.cell (rfl))) ?_
 refine s1 (Af rfl) ?_
 refine s1 (Ad Cr sz34 rfl) ?_
 refine s1 (Ae un34 rfl (hs.cell (hs0))) ?_
 refine s1 (Ae un9 rfl (hb1.cell (rfl))) ?_
 refine Ca ?_
 have hXs:=hX.size
 refine Ah Tryz.func20 fn20 fb20 (Mm gd S D _ hD hok hst hle nm hnz) rfl ?_
 rintro v2 w2 ⟨rfl,hD2,hM2⟩
 refine pA (Ac (t_n (Ak ?_)))
 refine eR1 ?_
 exact⟨rfl,hD2.wide hXs,(ModS.ofExt hX).trans hM2 (fun _ _ h=>h)⟩
theorem Ae2 (gd:Nat) (S:Nat→Prop) (D:DS) (w:World) (hD:Dsk S w gd D) (hok:DOk D) (hst:D.steps<4611686018427380000) (hle:D.left≤9223372036854775807) (hnm:∀ x∈D.l,A1 x.1=true) (b0 gs:Nat) (cs:Array Value) (sg:Nat) (hb0:Blk w b0 #[.pointer (some ⟨gs,0,none⟩)] 30) (hs:Blk w gs cs 91) (hs0:cs[0]? = some (.pointer (some ⟨gd,0,none⟩))) (hs1:cs[1]? = some (.int .i64 (sg:Int))) (hsg:sg≤999999) (pi:Option Addr) (ni ci gn z B:Nat) (m:Value) (ix:By) (hs3:cs[3]? = some (.slice pi ni ci)) (hs5:cs[5]? = some (.pointer (some ⟨gn,0,none⟩))) (hn:Blk w gn #[m,.int .i64 (z:Int)] 166) (hl:Sl kByte 5 B w pi ni ci ix) (hq:Qt w) :
    Ret Tryz.prog 120 [.pointer (some ⟨b0,0,none⟩)] w (fun v w'=>v = .int .i64 (writeM D ⟨sg+1,z,ix⟩).2∧Dsk (grow S w w') w' gd (writeM D ⟨sg+1,z,ix⟩).1∧ModS S ED w w'):=by
 have hX:=Ext.refl w
 refine eN 24 Tryz.func120 ?_
 refine Ab (Aa ?_)
 refine pA (Ac (t_n (Ab ?_)))
 refine Cp 21 mixed (by kernel_rfl) ?_
 intro w1 hE1
 have hX:=hX.ext hE1
 have hD:=hD.ext hE1
 have hb0:=hb0.ext hE1
 have hs:=hs.ext hE1
 have hn:=hn.ext hE1
 have hl:=hl.ext hE1
 refine s1 (Ae un30 rfl (hb0.cell (rfl))) ?_
 refine s1 (Af rfl) ?_
 refine s1 (Ad Cr sz34 rfl) ?_
 refine s1 (Ae un34 rfl (hs.cell (hs0))) ?_
 refine s1 (Ae un30 rfl (hb0.cell (rfl))) ?_
 refine s1 (Af rfl) ?_
 refine s1 (Ad Ch sz3 rfl) ?_
 refine s1 (Ae un3 rfl (hs.cell (hs1))) ?_
 refine s1 ((Aw rfl rfl (Ag (by omega) (by omega))).cast (congrArg (Value.int .i64) (by omega:_=((sg+1:Nat):Int)))) ?_
 refine s1 (Ae un30 rfl (hb0.cell (rfl))) ?_
 refine s1 (Af rfl) ?_
 refine s1 (Ad Dn sz89 rfl) ?_
 refine s1 (Ae un89 rfl (hs.cell (hs5))) ?_
 refine s1 (Af rfl) ?_
 refine s1 (Ad Lq sz3 rfl) ?_
 refine s1 (Ae un3 rfl (hn.cell (rfl))) ?_
 refine s1 (Ae un30 rfl (hb0.cell (rfl))) ?_
 refine s1 (Af rfl) ?_
 refine s1 (Ad Kr sz23 rfl) ?_
 refine s1 (Ae un23 rfl (hs.cell (hs3))) ?_
 refine s1 (N9 pl99 rfl rfl rfl rfl rfl rfl) ?_
 refine Ca ?_
 have hXs:=hX.size
 refine Ah Tryz.func51 fn51 fb51 (Ge gd S D _ hD hok hst hle hnm (sg+1) z ix 5 B _ _ _ hl (hq.ext hX)) rfl ?_
 rintro v2 w2 ⟨rfl,hD2,hM2⟩
 refine pA (Ac (t_n (Ak ?_)))
 refine eR1 ?_
 exact⟨rfl,hD2.wide hXs,(ModS.ofExt hX).trans hM2 (fun _ _ h=>h)⟩
theorem Ae1 (gd:Nat) (S:Nat→Prop) (D:DS) (w:World) (hD:Dsk S w gd D) (hok:DOk D) (hst:D.steps<4611686018427387904) (hle:D.left≤9223372036854775807) (hnm:∀ x∈D.l,A1 x.1=true) (b0 gs:Nat) (cs:Array Value) (sg:Nat) (hb0:Blk w b0 #[.pointer (some ⟨gs,0,none⟩)] 30) (hs:Blk w gs cs 91) (hs0:cs[0]? = some (.pointer (some ⟨gd,0,none⟩))) (hs1:cs[1]? = some (.int .i64 (sg:Int))) (hg:Gt w) :
    Ret Tryz.prog 121 [.pointer (some ⟨b0,0,none⟩)] w (fun v w'=>v = .int .i64 (Bj D (nSeg sg)).2∧Dsk (grow S w w') w' gd (Bj D (nSeg sg)).1∧ModS S ED w w'):=by
 have hX:=Ext.refl w
 refine eN 12 Tryz.func121 ?_
 refine Ab (Aa ?_)
 refine pA (Ac (t_n (Ab ?_)))
 refine B7 (fun w1 w2=>ModS (fun _=>True) ED w1 w2) mixed ?_
 intro w1 hE1
 have hX:=hX.ext hE1
 have hD:=hD.ext hE1
 have hb0:=hb0.ext hE1
 have hs:=hs.ext hE1
 have hSr1:(fun w1 w2=>ModS (fun _=>True) ED w1 w2) w1 w1:=ModS.refl _ _ _
 refine hT 0 rfl hSr1 (fun wS hSS=>by(have hb0:=hb0.modS hSS (.inr (by decide));have hs:=hs.modS hSS (.inr (by decide));exact(Ae un30 rfl (hb0.cell (rfl))))) ?_
 refine hT 1 rfl hSr1 (fun wS hSS=>by(exact(Af rfl))) ?_
 refine hT 2 rfl hSr1 (fun wS hSS=>by(exact(Ad Cr sz34 rfl))) ?_
 refine hT 3 rfl hSr1 (fun wS hSS=>by(have hb0:=hb0.modS hSS (.inr (by decide));have hs:=hs.modS hSS (.inr (by decide));exact(Ae un34 rfl (hs.cell (hs0))))) ?_
 refine hT 4 rfl hSr1 (fun wS hSS=>by(have hb0:=hb0.modS hSS (.inr (by decide));have hs:=hs.modS hSS (.inr (by decide));exact(Ae un30 rfl (hb0.cell (rfl))))) ?_
 refine hT 5 rfl hSr1 (fun wS hSS=>by(exact(Af rfl))) ?_
 refine hT 6 rfl hSr1 (fun wS hSS=>by(exact(Ad Ch sz3 rfl))) ?_
 refine hT 7 rfl hSr1 (fun wS hSS=>by(have hb0:=hb0.modS hSS (.inr (by decide));have hs:=hs.modS hSS (.inr (by decide));exact(Ae un3 rfl (hs.cell (hs1))))) ?_
 refine h1L 8 (fun Q8 hQ8=>?_)
 refine Ah Tryz.func49 fn49 fb49 (A3 (sg:Int) _ (hg.ext hX).l) rfl ?_
 rintro v2 w2 ⟨rfl,hE2⟩
 have hX:=hX.ext hE2
 have hD:=hD.ext hE2
 have hSr1:=hSr1.ext hE2
 refine An hQ8 ⟨hSr1,?_⟩
 refine h1L 9 (fun Q9 hQ9=>?_)
 have hXs:=hX.size
 refine Ah Tryz.func95 fn95 fb95 (Cu gd S D _ hD hok hst hle (nSeg sg) (Ci _)) rfl ?_
 rintro v3 w3 ⟨rfl,hD2,hM2⟩
 have hSr1:=hSr1.trans (hM2.mono fun _ _ _=>trivial) (fun _ _ h=>h)
 refine An hQ9 ⟨hSr1,?_⟩
 refine hT 10 rfl hSr1 (fun wS hSS=>by(exact(Ax (by conv=>lhs;whnf)))) ?_
 refine Bm (by kernel_rfl) ?_
 refine t_n (Ak ?_)
 refine eR1 ?_
 exact⟨rfl,hD2.wide hXs,(ModS.ofExt hX).trans hM2 (fun _ _ h=>h)⟩
theorem Ad8 (got:List Hash) (h:Hash):(gotS got h).getD false=decide (h∈got):=by
  unfold gotS
  by_cases e:h∈got
  · rw[if_pos e,decide_eq_true e];rfl
  · rw[if_neg e,decide_eq_false e];rfl
theorem Ad7 (got:List Hash) (h:Hash):(!decide (h∈got))=decide (h∉got):=by
  by_cases e:h∈got <;> simp[e]
def dmS (μ:Hash→Option R3) (got vs:List Hash):Hash→Option R3:=fun k=>if k∈vs∧k∉got then none else μ k
def dmL (got vs:List Hash):List Hash:=vs.filter fun k=>decide (k∈got)
theorem Afq (μ:Hash→Option R3) (got:List Hash):dmS μ got []=μ:=by funext k;unfold dmS;simp
theorem Afp {μ:Hash→Option R3} {got vs:List Hash} {a:Hash} (h:a∉got):∀ k,mset (dmS μ got vs) a none k=dmS μ got (vs++[a]) k:=fun k=>by
  unfold mset dmS
  by_cases e:k=a
  · rw[if_pos e,if_pos ⟨by simp[e],by rw[e];exact h⟩]
  · rw[if_neg e];simp[e]
theorem Agd {μ:Hash→Option R3} {got vs:List Hash} {a:Hash} (h:a∈got):∀ k,dmS μ got vs k=dmS μ got (vs++[a]) k:=fun k=>by
  unfold dmS
  by_cases e:k=a
  · rw[if_neg (by rw[e];exact fun q=>q.2 h),if_neg (by rw[e];exact fun q=>q.2 h)]
  · simp[e]
theorem Aed {got vs:List Hash} {a:Hash} (h:a∉got):(dmL got vs++[a]).filter (fun k=>decide (k≠a))=dmL got (vs++[a]):=by
  unfold dmL
  rw[List.filter_append,List.filter_append,List.filter_filter]
  simp only[List.filter_cons,List.filter_nil,decide_eq_false h,Bool.false_eq_true,if_false,ne_eq,not_true_eq_false,decide_false,List.append_nil]
  refine List.filter_congr fun x _=>?_
  by_cases e:x=a
  · subst e;simp[h]
  · simp[e]
theorem Afr {μ:Hash→Option R3} {got vs:List Hash} {a:Hash} {b:R3} (h:dmS μ got vs a=some b) (hn:a∉dmL got vs) (hv:vs.Nodup) (hs:∀ z∈vs,μ z≠none):(vs++[a]).Nodup∧∀ z∈vs++[a],μ z≠none:=by
  unfold dmS at h
  split at h
  · cases h
  · rename_i hc
    have hav:a∉vs:=fun hv=>hn (List.mem_filter.2 ⟨hv,decide_eq_true (Classical.byContradiction fun hg=>hc ⟨hv,hg⟩)⟩)
    refine⟨List.nodup_append.2 ⟨hv,by simp,by simp only[List.mem_singleton];rintro x hx y rfl rfl;exact hav hx⟩,fun z hz=>?_⟩
    rcases List.mem_append.1 hz with hz | hz
    · exact hs z hz
    · rw[List.mem_singleton.1 hz,h];simp
theorem Afs {μ:Hash→Option R3} {got vs:List Hash} (h:∀ a,dmS μ got vs a≠none→a∈dmL got vs) (k:Hash):dmS μ got vs k=if k∈got then μ k else none:=by
  by_cases hg:k∈got
  · rw[if_pos hg];unfold dmS;rw[if_neg fun q=>q.2 hg]
  · rw [if_neg hg]
    exact Classical.byContradiction fun hc=>hg (of_decide_eq_true (List.mem_filter.1 (h k hc)).2)
theorem Afo {got vs:List Hash} {a:Hash} (h:a∈got):dmL got vs++[a]=dmL got (vs++[a]):=by unfold dmL;rw[List.filter_append];simp[h]
theorem Ae0 (b0 gs gn rn:Nat) (cs:Array Value) (zv:Value) (got:List Hash) (h:Hash) (p:Option Addr) (n c:Nat) (w:World) (hb0:Blk w b0 #[.pointer (some ⟨gs,0,none⟩)] 30) (hs:Blk w gs cs 91) (hs5:cs[5]? = some (.pointer (some ⟨gn,0,none⟩))) (hn:Blk w gn #[.map (some rn),zv] 166) (hM:Mp Bf vBool 0 0 w rn (gotS got)) :
    Ret Tryz.prog 123 [.agg (hv h),.slice p n c,.pointer (some ⟨b0,0,none⟩)] w (fun v w'=>v = .bool (decide (h∉got))∧Ext w w'):=by
 have hX:=Ext.refl w
 refine eN 16 Tryz.func123 ?_
 refine Ab (Aa ?_)
 refine Em (by conv=>lhs;whnf) ?_
 intro w1 g3 hN3
 have hE1:=hN3.ext
 have hX:=hX.ext hE1
 have hb0:=hb0.ext hE1
 have hs:=hs.ext hE1
 have hn:=hn.ext hE1
 have hM:=hM.ext hE1
 have hB3:=hN3.blk
 refine pA (Ac (t_n (Ab ?_)))
 refine Du mixed (by kernel_rfl) ?_
 intro w2 hE2
 have hX:=hX.ext hE2
 have hb0:=hb0.ext hE2
 have hs:=hs.ext hE2
 have hn:=hn.ext hE2
 have hM:=hM.ext hE2
 have hB3:=hB3.ext hE2
 refine s1 (Ae un30 rfl (hb0.cell (rfl))) ?_
 refine s1 (Af rfl) ?_
 refine s1 (Ad Dn sz89 rfl) ?_
 refine s1 (Ae un89 rfl (hs.cell (hs5))) ?_
 refine s1 (Af rfl) ?_
 refine s1 (Ad Tg sz164 rfl) ?_
 refine s1 (Ae un164 rfl (hn.cell (rfl))) ?_
 refine s1 (Bh ua64 rfl hB3 (B4 sz64 _)) ?_
 refine s1 ((Kd (a:=h) u164 zr4 (Cg u64 u5 sz5) rfl rfl hM).cast (congrArg Value.bool (Ad8 got h))) ?_
 refine s1 ((Fc rfl).cast (congrArg Value.bool (Ad7 got h))) ?_
 refine s1 (Ax (by conv=>lhs;whnf)) ?_
 refine Ca (t_n (Ak ?_))
 refine eR1 ?_
 exact⟨rfl,hX⟩
theorem S5 (r N0 b0 gs gn rn:Nat) (μ:Hash→Option R3) (cs:Array Value) (zv:Value) (got:List Hash) (w:World) (hM:Mp Bf vCh 0 0 w r μ) (hks:∀ vs:List Hash,vs.Nodup→(∀ z∈vs,μ z≠none)→vs.length≤N0) (hB3x:Blk w b0 #[.pointer (some ⟨gs,0,none⟩)] 30) (hs:Blk w gs cs 91) (hs5:cs[5]? = some (.pointer (some ⟨gn,0,none⟩))) (hn:Blk w gn #[.map (some rn),zv] 166) (hMn:Mp Bf vBool 0 0 w rn (gotS got)) (hne:rn≠r) :
    Ret Tryz.prog 122 [.map (some r),.func (.func 123) #[] #[.pointer (some ⟨b0,0,none⟩)]] w (fun v w'=>Mp Bf vCh 0 0 w' r (fun k=>if k∈got then μ k else none)∧ModS (fun j=>j=r) [tMap] w w'):=by
 have hX:=ModS.refl (fun j=>j=r) [tMap] w
 refine eN 19 Tryz.func122 ?_
 refine Ab (Aa ?_)
 refine pM ?_
 have hXs:=hX.size
 refine Ju u88 rfl hM ?_
 intro w1 it7 hE1 hit7 hK7
 have hX:=hX.ext hE1
 have hM:=hM.ext hE1
 have hB3x:=hB3x.ext hE1
 have hs:=hs.ext hE1
 have hn:=hn.ext hE1
 have hMn:=hMn.ext hE1
 have hR:=(hK7 w.heap.size hXs).weak
 refine Ac (t_n (Am ?_))
 refine Bg (ι:=List Hash) [4,5,8,9,10,11,12,13,14,15,16,17,18] (fun vs=>[]) (fun vs w'=>ModS (fun j=>j=r) [tMap] w w'∧(RgW Bf vCh 0 w.heap.size w' r it7 (dmS μ got vs) (dmL got vs)∧vs.Nodup∧(∀ z∈vs,μ z≠none)∧Blk w' b0 #[.pointer (some ⟨gs,0,none⟩)] 30∧Blk w' gs cs 91∧Blk w' gn #[.map (some rn),zv] 166∧Mp Bf vBool 0 0 w' rn (gotS got))) (fun vs=>N0 - vs.length) ([]) trivial ⟨hX,⟨by rw[Afq];exact hR,List.nodup_nil,(fun z hz=>by cases hz),hB3x,hs,hn,hMn⟩⟩ ?_
 rintro vs GL0 w2 ⟨hE2,hR,hvn,hvs,hB3x,hs,hn,hMn⟩
 have hX:=hE2
 have hvl:=hks vs hvn hvs
 refine Ab (Aa ?_)
 refine Ado rfl hR (Nat.zero_le _) (by decide) (fun hdone8=>?_) (fun w3 a8 b8 v8 hna8 hmu8 hR hM3=>?_)
 ·skip
  refine p1 (Ao rfl rfl) ?_
  refine Ac (t_n (Ab ?_))
  refine c_f rfl ?_
  have hM:=(hR.mp 0 (Nat.zero_le _)).congr (μ':=fun k=>if k∈got then μ k else none) (fun k=>Afs (fun a h=>hdone8 a h) k)
  refine Ba (t_e (t_e (Bu ?_)))
  refine end0n rfl ?_
  exact⟨hM,hX⟩
 skip
 have hX:=hX.mod hM3 (Nat.le_refl _)
 have hB3x:=hB3x.mod hM3 (by decide)
 have hs:=hs.mod hM3 (by decide)
 have hn:=hn.mod hM3 (by decide)
 have hMn:=hMn.mod hM3 (Nat.zero_le _) (by decide)
 have hRs:=hR
 have hR:=hR.weak
 obtain⟨hvn2,hvs2⟩:=Afr hmu8 hna8 hvn hvs
 have hvl2:=hks _ hvn2 hvs2
 simp only[List.length_append,List.length_cons,List.length_nil] at hvl2
 refine p1 (Ao rfl rfl) ?_
 refine Ac (t_n (Ab ?_))
 refine c_t rfl ?_
 refine Ai (t_n (Am (Ab ?_)))
 obtain⟨b8,v8,hb8,hv8,hen8⟩:=hRs.entry
 have hv8:v8=r3V b8:=hv8
 subst hv8
 refine Aa ?_
 refine p1 (hen8 rfl) ?_
 refine p1 (Ao rfl rfl) ?_
 refine p1 (Ao rfl rfl) ?_
 have hz4:=hX.size
 refine A6 zr64 ?_
 intro w4 g4 hN4
 have hE4:=hN4.ext
 have hX:=hX.ext hE4
 have hB3x:=hB3x.ext hE4
 have hs:=hs.ext hE4
 have hn:=hn.ext hE4
 have hMn:=hMn.ext hE4
 have hR:=hR.ext hE4
 have hB4:=hN4.blk
 have hq4:=hN4.g_eq
 refine Az rfl rfl (Cm _) (B4 sz64 _) hB4 (Dl _) ?_
 intro w5 hP5
 have hX:=hX.new hP5 (by omega)
 have hB3x:=hB3x.one hP5.one (by decide)
 have hs:=hs.one hP5.one (by decide)
 have hn:=hn.one hP5.one (by decide)
 have hMn:=hMn.mod (hP5.mod 0 (Nat.zero_le _)) (Nat.zero_le _) (by decide)
 have hR:=hR.mod (hP5.mod 0 (Nat.zero_le _)) (Nat.zero_le _) (by decide)
 have hB4:=hP5.blk
 refine pA (Ac (t_n (Ab (Aa ?_))))
 refine pM ?_
 refine p1 (Bh ua64 rfl hB4 (B4 sz64 _)) ?_
 refine pM ?_
 refine Jv (fs:=[]) (cs:=[.pointer (some ⟨b0,0,none⟩)]) rfl Tryz.func123 fn123 fb123 rfl rfl (Ae0 b0 gs gn rn cs zv got a8 _ _ _ _ hB3x hs hs5 hn hMn) ?_
 rintro v6 w6 ⟨rfl,hE6⟩
 have hX:=hX.ext hE6
 have hB3x:=hB3x.ext hE6
 have hs:=hs.ext hE6
 have hn:=hn.ext hE6
 have hMn:=hMn.ext hE6
 have hR:=hR.ext hE6
 have hB4:=hB4.ext hE6
 refine Ac (t_n ?_)
 refine As rfl (fun hc16=>?_) (fun hc16=>?_)
 ·refine Aa ?_
  refine pM ?_
  refine p1 (Bh ua64 rfl hB4 (B4 sz64 _)) ?_
  refine Zi (a:=a8) u88 (Cg u64 u5 sz5) rfl rfl hR rfl ?_
  intro w7 hR hO17
  have hX:=hX.one hO17 ⟨.inl rfl,by simp⟩
  have hR:=hR.congr (Afp (by simpa using hc16)) (Aed (by simpa using hc16))
  have hB3x:=hB3x.modS (hO17.mods) (.inr (by decide))
  have hs:=hs.modS (hO17.mods) (.inr (by decide))
  have hn:=hn.modS (hO17.mods) (.inr (by decide))
  have hMn:=hMn.other hO17 hne rfl
  refine Ac (b_n ?_)
  refine t_n (aK (vs++[a8]) trivial ?_)
  exact⟨⟨hX,⟨hR,hvn2,hvs2,hB3x,hs,hn,hMn⟩⟩,by show N0 - (vs++[a8]).length<N0 - vs.length;simp only[List.length_append,List.length_cons,List.length_nil];omega⟩
 have hR:=hR.congr (Agd (by simpa using hc16)) (Afo (by simpa using hc16))
 refine Ai (b_n ?_)
 refine t_n (aK (vs++[a8]) trivial ?_)
 exact⟨⟨hX,⟨hR,hvn2,hvs2,hB3x,hs,hn,hMn⟩⟩,by show N0 - (vs++[a8]).length<N0 - vs.length;simp only[List.length_append,List.length_cons,List.length_nil];omega⟩
end Go.Proofs.Eng
end
section
set_option maxRecDepth 100000
set_option maxHeartbeats 4000000
namespace Go.Proofs.Eng
open Go.RowKit
open Extern.Stop (cell)
theorem fb116:Tryz.f116.body.isNone=false:=by kernel_rfl
theorem fb117:Tryz.f117.body.isNone=false:=by kernel_rfl
theorem fb118:Tryz.f118.body.isNone=false:=by kernel_rfl
theorem fb119:Tryz.f119.body.isNone=false:=by kernel_rfl
theorem fb120:Tryz.f120.body.isNone=false:=by kernel_rfl
theorem fb121:Tryz.f121.body.isNone=false:=by kernel_rfl
theorem fb122:Tryz.f122.body.isNone=false:=by kernel_rfl
theorem fn116 : ngB Tryz.f116 = false := by kernel_rfl
theorem fn117 : ngB Tryz.f117 = false := by kernel_rfl
theorem fn118 : ngB Tryz.f118 = false := by kernel_rfl
theorem fn119 : ngB Tryz.f119 = false := by kernel_rfl
theorem fn120 : ngB Tryz.f120 = false := by kernel_rfl
theorem fn121 : ngB Tryz.f121 = false := by kernel_rfl
theorem fn122 : ngB Tryz.f122 = false := by kernel_rfl
theorem pl166:Da Tryz.prog 166=some (.agg #[.map none,.int .i64 0],[(0,1),(1,1)]):=by kernel_rfl
theorem u89:Tryz.prog.underlying 89=some (.pointer 166):=by kernel_rfl
end Go.Proofs.Eng
end
section
set_option maxRecDepth 100000
set_option maxHeartbeats 4000000
namespace Go.Proofs.Eng
open Go.RowKit
open Extern.Stop (cell)
theorem Y3 (g gd r:Nat) (S Sd:Nat→Prop) (μ:Hash→Option R3) (pi nx:Option Addr) (ni ci:Nat) (C:CS) (k:Nat) (w:World) (hCX:CstX S Sd w g gd r μ pi ni ci nx C) (hn:CN C k) (hS:∀ j,S j→6≤j) (hg:Gt w) (hk:k<4611686018427100000) (hnn:C.next=none) (live:List Hash) (p:Option Addr) (n c:Nat) :
    Ret Tryz.prog 78 [.pointer (some ⟨g,0,none⟩),.slice p n c,.string (nSeg (C.seg+1))] w (fun v w'=>v = .tuple #[.bool (stepS C live).2.1,.int .i64 (stepS C live).2.2]∧Cst (grow S w w') w' g gd (stepS C live).1∧ModS S EC w w'):=by
 have hgs:=hg.size
 have hsg:=hCX.sg
 have hGd:=hn.good
 have hhi:=hn.hi
 have hsz:=hn.sz
 have hCX:=hCX.start
 have hb:=hCX.b
 have hbl:=hb.lt
 have hn0:Nxt (opn S w) Sd w r nx none:=hnn ▸ hCX.n
 have hn0:nx=none:=hn0
 subst hn0
 have hX:=ModS.refl S EC w
 refine eN 109 Tryz.func78 ?_
 refine Ab (Aa ?_)
 have hz3:=hX.size
 refine Cq (by conv=>lhs;whnf) rfl ?_
 intro w1 g3 hN3
 have hE1:=hN3.ext
 have hX:=hX.ext hE1
 have hCX:=hCX.ext hE1
 have hb:=hb.ext hE1
 have hB3:=hN3.blk
 have hq3:=hN3.g_eq
 have hz5:=hX.size
 have hl5_3:=hB3.lt
 refine Cq (by conv=>lhs;whnf) rfl ?_
 intro w2 g5 hN5
 have hE2:=hN5.ext
 have hX:=hX.ext hE2
 have hCX:=hCX.ext hE2
 have hb:=hb.ext hE2
 have hB3:=hB3.ext hE2
 have hB5:=hN5.blk
 have hq5:=hN5.g_eq
 refine pA (pA (Ac (t_n (Ab (Ab (Aa ?_))))))
 refine p1 (Ae un30 rfl (hB3.cell (rfl))) ?_
 refine p1 (Af rfl) ?_
 refine p1 (Ad Dn sz89 rfl) ?_
 refine p1 (Ae un89 rfl (hb.cell (rfl))) ?_
 refine p1 ((Bb u89 rfl rfl).cast (congrArg Value.bool (decide_eq_true (rfl)))) ?_
 refine Ac (t_n ?_)
 refine c_t (rfl) ?_
 refine Ab ?_
 refine B7 (fun w1 w2=>ModS (fun _=>True) ED w1 w2) mixed ?_
 intro w3 hE3
 have hX:=hX.ext hE3
 have hCX:=hCX.ext hE3
 have hb:=hb.ext hE3
 have hB3:=hB3.ext hE3
 have hB5:=hB5.ext hE3
 have hSr2:(fun w1 w2=>ModS (fun _=>True) ED w1 w2) w3 w3:=ModS.refl (fun _=>True) ED _
 refine hT 0 rfl hSr2 (fun wS hSS=>by(have hb:=hb.modS hSS (.inr (by decide));have hB3:=hB3.modS hSS (.inr (by decide));have hB5:=hB5.modS hSS (.inr (by decide));exact(Ae un30 rfl (hB3.cell (rfl))))) ?_
 refine hT 1 rfl hSr2 (fun wS hSS=>by(exact(Af rfl))) ?_
 refine hT 2 rfl hSr2 (fun wS hSS=>by(exact(Ad Cr sz34 rfl))) ?_
 refine hT 3 rfl hSr2 (fun wS hSS=>by(have hb:=hb.modS hSS (.inr (by decide));have hB3:=hB3.modS hSS (.inr (by decide));have hB5:=hB5.modS hSS (.inr (by decide));exact(Ae un34 rfl (hb.cell (rfl))))) ?_
 refine hT 4 rfl hSr2 (fun wS hSS=>by(have hb:=hb.modS hSS (.inr (by decide));have hB3:=hB3.modS hSS (.inr (by decide));have hB5:=hB5.modS hSS (.inr (by decide));exact(Ae un9 rfl (hB5.cell (rfl))))) ?_
 refine h1L 5 (fun Q5 hQ5=>?_)
 have hXs:=hX.size
 refine Ah Tryz.func18 fn18 fb18 (I6 gd _ _ _ hCX.d hGd.ok (Nat.lt_of_le_of_lt hGd.steps (by omega)) hGd.left (nSeg (C.seg+1)) (Ci _)) rfl ?_
 rintro v4 w4 ⟨rfl,hD2,hM2⟩
 have hX:=hX.stepE hM2 (Db hCX)
 have hCX:=hCX.stepD hXs hM2 hD2
 have hb:Blk w4 g (stoV gd C pi ni ci r none) tSto:=hCX.b
 have hGd:=G6 hGd (nSeg (C.seg+1))
 have hSr2:=hSr2.trans (hM2.mono fun _ _ _=>trivial) (fun _ _ h=>h)
 have hB3:=hB3.modS hM2 (.inr (by decide))
 have hB5:=hB5.modS hM2 (.inr (by decide))
 refine An hQ5 ⟨hSr2,?_⟩
 refine hT 6 rfl hSr2 (fun wS hSS=>by(exact(Ax (by conv=>lhs;whnf)))) ?_
 refine Bm (by kernel_rfl) ?_
 refine t_n (Ab (Ab (Aa ?_)))
 refine pM ?_
 refine p1 (Bn rfl rfl) ?_
 refine Ac (t_n ?_)
 refine As rfl (fun hc25=>?_) (fun hc25=>?_)
 ·refine Aa ?_
  refine p1 (Ae un30 rfl (hB3.cell (rfl))) ?_
  have hCX:=hCX.mono (fun _ _ h=>h)
  have hXs4:=hX.size
  have hrl4:=hCX.m.lt
  have hXs:=hX.size
  refine H2 (κ:=Hash) (ν:=Bool) ?_
  intro w5 g27 hE5 hK27
  have hX:=hX.ext hE5
  have hCX:=hCX.ext hE5
  have hb:=hb.ext hE5
  have hB3:=hB3.ext hE5
  have hB5:=hB5.ext hE5
  have hMn:=hK27 Bf vBool 0 _ (Nat.le_refl _)
  have hMl:=hMn.low
  refine p1 (Mu pl166 (by conv=>lhs;whnf) rfl) ?_
  have hMl2:=hMn.lt
  have hXs5:=hX.size
  have hz29:=hX.size
  have hl29_3:=hB3.lt
  have hl29_5:=hB5.lt
  refine Em (by conv=>lhs;whnf) ?_
  intro w6 g29 hN29
  have hE6:=hN29.ext
  have hX:=hX.ext hE6
  have hCX:=hCX.ext hE6
  have hb:=hb.ext hE6
  have hB3:=hB3.ext hE6
  have hB5:=hB5.ext hE6
  have hMn:=hMn.ext hE6
  have hB29:=hN29.blk
  have hq29:=hN29.g_eq
  refine p1 (Af rfl) ?_
  refine p1 (Ad Dn sz89 rfl) ?_
  refine Ar rfl (by conv=>lhs;whnf) rfl rfl sz89 hb (by show _<7;omega) ?_
  intro w7 hP7
  have hX:=hX.put hP7 (⟨.inl hsg,by decide⟩)
  have hb:=hP7.blk
  try simp only[List.setIfInBounds_toArray,List.set_cons_zero,List.set_cons_succ] at hb
  have hB3:=hP7.keep hB3 (by omega)
  have hB5:=hP7.keep hB5 (by omega)
  have hCX:=hCX.setNext (got:=[]) (z:=0) hP7 hB29 (by rw[Ab5];exact hMn.lower (Nat.zero_le _)) (.inr (by omega)) (.inr (by omega)) (fun h=>by have:=h.2;omega) (by omega)
  refine Ac (t_n (Ab (Aa ?_)))
  refine pM (pA (pA (Ac (t_n (Ak (t_r ?_))))))
  refine eR2 ?_
  (rw[Gu hnn,if_pos (by omega)];exact⟨rfl,hCX.done,hX⟩)
 refine Ai (t_n (Ab (Aa ?_)))
 refine pM (pA (pA (Ac (t_n (Ak (t_r ?_))))))
 refine eR2 ?_
 (rw[Gu hnn,if_neg hc25];exact⟨rfl,(by rw[show (none:Option (List Hash×Nat))=C.next from hnn.symm];exact hCX.done),hX⟩)
theorem Y2 (g gd r:Nat) (S Sd:Nat→Prop) (μ:Hash→Option R3) (pi nx:Option Addr) (ni ci:Nat) (C:CS) (k:Nat) (w:World) (hCX:CstX S Sd w g gd r μ pi ni ci nx C) (hn:CN C k) (hS:∀ j,S j→6≤j) (hg:Gt w) (hk:k<4611686018427100000) (got:List Hash) (z:Nat) (hnx:C.next=some (got,z)) (hgn:∀ h∈got,findF C.L h≠none) (live:List Hash) (p:Option Addr) (n c:Nat) (hl:Sl kHash 64 0 w p n c live) (hn2:n≤2097152000) :
    Ret Tryz.prog 78 [.pointer (some ⟨g,0,none⟩),.slice p n c,.string (nSeg (C.seg+1))] w (fun v w'=>v = .tuple #[.bool (stepS C live).2.1,.int .i64 (stepS C live).2.2]∧Cst (grow S w w') w' g gd (stepS C live).1∧ModS S EC w w'):=by
 have hsr:=hCX.sr
 have hgs:=hg.size
 have hsg:=hCX.sg
 have hGd:=hn.good
 have hhi:=hn.hi
 have hsz:=hn.sz
 have hCX:=hCX.start
 have hb:=hCX.b
 have hbl:=hb.lt
 have hn3:Nxt (opn S w) Sd w r nx (some (got,z)):=hnx ▸ hCX.n
 obtain⟨gn,rn,hnp,hBn,hMn,hgnS,hrnS,hrnD,hrnr⟩:=hn3
 subst hnp
 have hX:=ModS.refl S EC w
 refine eN 109 Tryz.func78 ?_
 refine Ab (Aa ?_)
 have hz3:=hX.size
 refine Cq (by conv=>lhs;whnf) rfl ?_
 intro w1 g3 hN3
 have hE1:=hN3.ext
 have hX:=hX.ext hE1
 have hCX:=hCX.ext hE1
 have hb:=hb.ext hE1
 have hg:=hg.ext hE1
 have hl:=hl.ext hE1
 have hBn:=hBn.ext hE1
 have hMn:=hMn.ext hE1
 have hB3:=hN3.blk
 have hq3:=hN3.g_eq
 have hz5:=hX.size
 have hl5_3:=hB3.lt
 refine Cq (by conv=>lhs;whnf) rfl ?_
 intro w2 g5 hN5
 have hE2:=hN5.ext
 have hX:=hX.ext hE2
 have hCX:=hCX.ext hE2
 have hb:=hb.ext hE2
 have hg:=hg.ext hE2
 have hl:=hl.ext hE2
 have hBn:=hBn.ext hE2
 have hMn:=hMn.ext hE2
 have hB3:=hB3.ext hE2
 have hB5:=hN5.blk
 have hq5:=hN5.g_eq
 refine pA (pA (Ac (t_n (Ab (Ab (Aa ?_))))))
 refine p1 (Ae un30 rfl (hB3.cell (rfl))) ?_
 refine p1 (Af rfl) ?_
 refine p1 (Ad Dn sz89 rfl) ?_
 refine p1 (Ae un89 rfl (hb.cell (rfl))) ?_
 refine p1 ((Bb u89 rfl rfl).cast (congrArg Value.bool (decide_eq_false (by simp)))) ?_
 refine Ac (t_n ?_)
 refine c_f (rfl) ?_
 refine Ai (t_n (Ab (Aa ?_)))
 refine p1 (Ae un30 rfl (hB3.cell (rfl))) ?_
 refine p1 (Af rfl) ?_
 refine p1 (Ad Dn sz89 rfl) ?_
 refine p1 (Ae un89 rfl (hb.cell (rfl))) ?_
 refine p1 (Af rfl) ?_
 refine p1 (Ad Tg sz164 rfl) ?_
 refine p1 (Ae un164 rfl (hBn.cell (rfl))) ?_
 refine Ah Tryz.func116 fn116 fb116 (Ww rn 0 C.L.length (gotS got) (Pk hgn) _ hMn) rfl ?_
 rintro v3 w3 ⟨⟨lb,rfl,hSq⟩,hE3⟩
 have hX:=hX.ext hE3
 have hCX:=hCX.ext hE3
 have hb:=hb.ext hE3
 have hg:=hg.ext hE3
 have hl:=hl.ext hE3
 have hBn:=hBn.ext hE3
 have hMn:=hMn.ext hE3
 have hB3:=hB3.ext hE3
 have hB5:=hB5.ext hE3
 refine Ah Tryz.func79 fn79 fb79 (Acm lb C.L.length _ hn.ln _ hSq) rfl ?_
 rintro v4 w4 ⟨⟨xs,q5,m5,c5,⟨hnd,hxs⟩,rfl,hO⟩,hE4⟩
 have hX:=hX.ext hE4
 have hCX:=hCX.ext hE4
 have hb:=hb.ext hE4
 have hg:=hg.ext hE4
 have hl:=hl.ext hE4
 have hBn:=hBn.ext hE4
 have hMn:=hMn.ext hE4
 have hB3:=hB3.ext hE4
 have hB5:=hB5.ext hE4
 have hml:=hO.len
 have hxl:=Pk hgn xs hnd (fun z hz=>(hxs z).1 hz)
 have hln:=hn.ln
 refine Ah Tryz.func39 fn39 fb39 (F1 xs _ _ _ _ _ hO.sl (by omega)) rfl ?_
 rintro v5 w5 ⟨⟨qs,ms,cs_,rfl,hmle,hLs⟩,hE5⟩
 have hX:=hX.ext hE5
 have hCX:=hCX.ext hE5
 have hb:=hb.ext hE5
 have hg:=hg.ext hE5
 have hl:=hl.ext hE5
 have hBn:=hBn.ext hE5
 have hMn:=hMn.ext hE5
 have hB3:=hB3.ext hE5
 have hB5:=hB5.ext hE5
 rw[Ad6 hxs] at hLs
 have hLs:=hLs.lower (Nat.zero_le _)
 refine pA (Ac (t_n (Ab (Ab (Aa ?_)))))
 refine pM (pM ?_)
 refine Ah Tryz.func117 fn117 fb117 (Ll (srt got) live _ _ _ _ _ _ _ _ _ hLs.sl hl (by omega) hn2) rfl ?_
 rintro v6 w6 ⟨⟨q1,m1,c1,rfl,hm1,hL1⟩,hE6⟩
 have hX:=hX.ext hE6
 have hCX:=hCX.ext hE6
 have hb:=hb.ext hE6
 have hg:=hg.ext hE6
 have hl:=hl.ext hE6
 have hBn:=hBn.ext hE6
 have hMn:=hMn.ext hE6
 have hB3:=hB3.ext hE6
 have hB5:=hB5.ext hE6
 have hLs:=hLs.ext hE6
 have hl1:=hL1.len
 refine p1 (Aj u54 rfl) ?_
 refine p1 (C0 rfl rfl) ?_
 refine Ac (t_n ?_)
 refine As rfl (fun hc47=>?_) (fun hc47=>?_)
 ·have hne1:srt (sel live false (srt got))≠[]:=fun e=>by rw[e] at hl1;simp at hl1;omega
  refine Ab ?_
  refine B7 (fun w1 w2=>ModS (fun _=>True) ED w1 w2) mixed ?_
  intro w7 hE7
  have hX:=hX.ext hE7
  have hCX:=hCX.ext hE7
  have hb:=hb.ext hE7
  have hB3:=hB3.ext hE7
  have hB5:=hB5.ext hE7
  have hSr8:(fun w1 w2=>ModS (fun _=>True) ED w1 w2) w7 w7:=ModS.refl (fun _=>True) ED _
  refine hT 0 rfl hSr8 (fun wS hSS=>by(have hb:=hb.modS hSS (.inr (by decide));have hB3:=hB3.modS hSS (.inr (by decide));have hB5:=hB5.modS hSS (.inr (by decide));exact(Ae un30 rfl (hB3.cell (rfl))))) ?_
  refine hT 1 rfl hSr8 (fun wS hSS=>by(exact(Af rfl))) ?_
  refine hT 2 rfl hSr8 (fun wS hSS=>by(exact(Ad Cr sz34 rfl))) ?_
  refine hT 3 rfl hSr8 (fun wS hSS=>by(have hb:=hb.modS hSS (.inr (by decide));have hB3:=hB3.modS hSS (.inr (by decide));have hB5:=hB5.modS hSS (.inr (by decide));exact(Ae un34 rfl (hb.cell (rfl))))) ?_
  refine hT 4 rfl hSr8 (fun wS hSS=>by(have hb:=hb.modS hSS (.inr (by decide));have hB3:=hB3.modS hSS (.inr (by decide));have hB5:=hB5.modS hSS (.inr (by decide));exact(Ae un9 rfl (hB5.cell (rfl))))) ?_
  refine h1L 5 (fun Q5 hQ5=>?_)
  have hXs:=hX.size
  refine Ah Tryz.func95 fn95 fb95 (Cu gd _ _ _ hCX.d hGd.ok (Nat.lt_of_le_of_lt hGd.steps (by omega)) hGd.left (nSeg (C.seg+1)) (Ci _)) rfl ?_
  rintro v8 w8 ⟨rfl,hD2,hM2⟩
  have hX:=hX.stepE hM2 (Db hCX)
  have hCX:=hCX.stepD hXs hM2 hD2
  have hb:Blk w8 g (stoV gd C pi ni ci r (some ⟨gn,0,none⟩)) tSto:=hCX.b
  have hGd:=Co hGd (nSeg (C.seg+1))
  have hSr8:=hSr8.trans (hM2.mono fun _ _ _=>trivial) (fun _ _ h=>h)
  have hB3:=hB3.modS hM2 (.inr (by decide))
  have hB5:=hB5.modS hM2 (.inr (by decide))
  refine An hQ5 ⟨hSr8,?_⟩
  refine hT 6 rfl hSr8 (fun wS hSS=>by(exact(Ax (by conv=>lhs;whnf)))) ?_
  refine Bm (by kernel_rfl) ?_
  refine t_n (Ab (Ab (Aa ?_)))
  refine pM ?_
  refine p1 (Bn rfl rfl) ?_
  refine Ac (t_n ?_)
  refine As rfl (fun hc55=>?_) (fun hc55=>?_)
  ·refine Aa ?_
   refine p1 (Ae un30 rfl (hB3.cell (rfl))) ?_
   refine p1 (Af rfl) ?_
   refine p1 (Ad Dn sz89 rfl) ?_
   refine Ar rfl (by conv=>lhs;whnf) rfl rfl sz89 hb (by show _<7;omega) ?_
   intro w9 hP9
   have hX:=hX.put hP9 (⟨.inl hsg,by decide⟩)
   have hb:=hP9.blk
   try simp only[List.setIfInBounds_toArray,List.set_cons_zero,List.set_cons_succ] at hb
   have hB3:=hP9.keep hB3 (by omega)
   have hB5:=hP9.keep hB5 (by omega)
   have hCX:=hCX.setNil hP9
   refine Ac (t_n (Ab (Aa ?_)))
   refine pM (pA (pA (Ac (t_n (Ak (t_r ?_))))))
   refine eR2 ?_
   (rw[Hj hnx hne1,if_pos (by omega)];exact⟨rfl,hCX.done,hX⟩)
  refine Ai (t_n (Ab (Aa ?_)))
  refine pM (pA (pA (Ac (t_n (Ak (t_r ?_))))))
  refine eR2 ?_
  (rw[Hj hnx hne1,if_neg hc55,← hnx];exact⟨rfl,hCX.done,hX⟩)
 have he1:srt (sel live false (srt got))=[]:=List.length_eq_zero_iff.1 (by omega)
 refine Ai (t_n (Ab (Ab (Aa ?_))))
 refine pM (pM ?_)
 refine Ah Tryz.func117 fn117 fb117 (Ll live (srt got) _ _ _ _ _ _ _ _ _ hl hLs.sl hn2 (by omega)) rfl ?_
 rintro v10 w10 ⟨⟨q2,m2,c2,rfl,hm2,hL2⟩,hE10⟩
 have hX:=hX.ext hE10
 have hCX:=hCX.ext hE10
 have hb:=hb.ext hE10
 have hg:=hg.ext hE10
 have hBn:=hBn.ext hE10
 have hMn:=hMn.ext hE10
 have hB3:=hB3.ext hE10
 have hB5:=hB5.ext hE10
 have hl2:=hL2.len
 have hL2:=hL2.lower (Nat.zero_le _)
 refine pA (Ac (t_n (Ab (Aa ?_))))
 refine pM ?_
 refine p1 (Aj u54 rfl) ?_
 refine p1 (C0 rfl rfl) ?_
 refine Ac (t_n ?_)
 refine As rfl (fun hc65=>?_) (fun hc65=>?_)
 ·have hne2:srt (sel (srt got) false live)≠[]:=fun e=>by rw[e] at hl2;simp at hl2;omega
  have hL2c:=hL2.sl.cap
  refine Ab ?_
  refine B7 (fun w1 w2=>ModS (fun _=>True) EC w1 w2) mixed ?_
  intro w11 hE11
  have hX:=hX.ext hE11
  have hCX:=hCX.ext hE11
  have hg:=hg.ext hE11
  have hB3:=hB3.ext hE11
  have hB5:=hB5.ext hE11
  have hL2:=hL2.ext hE11
  have hSr14:(fun w1 w2=>ModS (fun _=>True) EC w1 w2) w11 w11:=ModS.refl (fun _=>True) EC _
  refine hT 0 rfl hSr14 (fun wS hSS=>by(have hB3:=hB3.modS hSS (.inr (by decide));have hB5:=hB5.modS hSS (.inr (by decide));exact(Ae un30 rfl (hB3.cell (rfl))))) ?_
  refine hT 1 rfl hSr14 (fun wS hSS=>by(exact(Al (by conv=>lhs;whnf)))) ?_
  refine hT 2 rfl hSr14 (fun wS hSS=>by(exact(Al (by conv=>lhs;whnf)))) ?_
  refine hT 3 rfl hSr14 (fun wS hSS=>by(have hB3:=hB3.modS hSS (.inr (by decide));have hB5:=hB5.modS hSS (.inr (by decide));exact(Aj u54 rfl))) ?_
  refine hT 4 rfl hSr14 (fun wS hSS=>by(have hB3:=hB3.modS hSS (.inr (by decide));have hB5:=hB5.modS hSS (.inr (by decide));exact((Ty rfl rfl).cast (congrArg (Value.int .i64) (by omega:_=((min 4 m2:Nat):Int)))))) ?_
  refine hT 5 rfl hSr14 (fun wS hSS=>by(exact(D8 u54 sz64 rfl rfl (by omega)))) ?_
  refine hT 6 rfl hSr14 (fun wS hSS=>by(have hB3:=hB3.modS hSS (.inr (by decide));have hB5:=hB5.modS hSS (.inr (by decide));exact(Ae un9 rfl (hB5.cell (rfl))))) ?_
  refine h1L 7 (fun Q7 hQ7=>?_)
  have hXs:=hX.size
  refine Ah Tryz.func118 fn118 fb118 (Uc g gd r (opn S w) _ μ pi _ ni ci C k _ hCX hn (fun j hj=>hj.elim (hS j) fun q=>Nat.le_trans hgs q) hg (by omega) got z hnx ((srt (sel (srt got) false live)).take (min 4 m2)) _ _ _ (hL2.sl.take (min 4 m2) (Nat.min_le_right _ _)) (Nat.min_le_left _ _) (nSeg (C.seg+1)) (Ci _)) rfl ?_
  rintro v12 w12 ⟨rfl,hCB,hMB⟩
  rw[Aar hl2] at hCB ⊢
  have hX:=hX.trans hMB (fun j hj h=>h.resolve_right (by omega))
  have hSr14:=hSr14.trans (hMB.mono fun _ _ _=>trivial) (fun _ _ h=>h)
  refine An hQ7 ⟨hSr14,?_⟩
  refine hT 8 rfl hSr14 (fun wS hSS=>by(exact(Ax (by conv=>lhs;whnf)))) ?_
  refine hT 9 rfl hSr14 (fun wS hSS=>by(exact(Ax (by conv=>lhs;whnf)))) ?_
  refine Bm (by kernel_rfl) ?_
  refine t_n (Ak (t_r ?_))
  refine eR2 ?_
  (rw[G4 hnx he1 hne2];exact⟨rfl,hCB.mono (fun j hj h=>h.elim (fun a=>a.imp id fun b=>⟨b,hj⟩) (fun ⟨a,_⟩ => .inr ⟨by omega,hj⟩)),hX⟩)
 have he2:srt (sel (srt got) false live)=[]:=List.length_eq_zero_iff.1 (by omega)
 refine Ai (t_n (Ab (Aa ?_)))
 refine p1 (Bi (fs:=[]) (cs:=[.pointer (some ⟨g3,0,none⟩),.pointer (some ⟨g5,0,none⟩)]) rfl rfl) ?_
 refine p1 (Bi (fs:=[]) (cs:=[.pointer (some ⟨g3,0,none⟩)]) rfl rfl) ?_
 refine p1 (Bi (fs:=[]) (cs:=[.pointer (some ⟨g3,0,none⟩)]) rfl rfl) ?_
 refine Au u149 inf95 rfl (by decide) (fun base hb=>Gc [fcv (119,[.pointer (some ⟨g3,0,none⟩),.pointer (some ⟨g5,0,none⟩)]),fcv (120,[.pointer (some ⟨g3,0,none⟩)]),fcv (121,[.pointer (some ⟨g3,0,none⟩)])] (by intro v hv';simp only[List.mem_cons,List.not_mem_nil,or_false] at hv';rcases hv' with rfl | rfl | rfl <;> rfl) base hb) ?_
 intro w13 g77 hN77
 have hE13:=hN77.ext
 have hX:=hX.ext hE13
 have hCX:=hCX.ext hE13
 have hb:=hb.ext hE13
 have hg:=hg.ext hE13
 have hBn:=hBn.ext hE13
 have hMn:=hMn.ext hE13
 have hB3:=hB3.ext hE13
 have hB5:=hB5.ext hE13
 have hS77:Sl kFn 95 0 w13 (some ⟨g77,0,none⟩) 3 3 [(119,[.pointer (some ⟨g3,0,none⟩),.pointer (some ⟨g5,0,none⟩)]),(120,[.pointer (some ⟨g3,0,none⟩)]),(121,[.pointer (some ⟨g3,0,none⟩)])]:=(Cw (B0:=0) ([(119,[.pointer (some ⟨g3,0,none⟩),.pointer (some ⟨g5,0,none⟩)]),(120,[.pointer (some ⟨g3,0,none⟩)]),(121,[.pointer (some ⟨g3,0,none⟩)])]:List Clo) hN77 (Nat.zero_le _) (by simp)).sl
 have hD:=hCX.d
 have hXs:=hX.size
 refine Ah Tryz.func45 fn45 fb45 (Lz [(119,[.pointer (some ⟨g3,0,none⟩),.pointer (some ⟨g5,0,none⟩)]),(120,[.pointer (some ⟨g3,0,none⟩)]),(121,[.pointer (some ⟨g3,0,none⟩)])] [fun D=>syncD D (nSeg (C.seg+1)),fun D=>writeM D ⟨C.seg+1,z,C.index⟩,fun D=>Bj D (nSeg C.seg)] (fun i=>k+4 * i) gd Sd C.D _ _ _ _ hD (hGd) hS77 rfl (fun i hi=>?_)) rfl ?_
 · rcases i with _ | _ | _ | i
   · exact⟨Tryz.f119,Tryz.func119,fn119,fb119,fun Di w1 hDi m hgi=>(Ae3 gd _ Di w1 hDi hgi.ok (Nat.lt_of_le_of_lt hgi.steps (by show _+_<_;omega)) hgi.left hgi.names g3 g5 g _ (nSeg (C.seg+1)) (Ci _) (hB3.modS m (.inr (by decide))) (hb.modS m (.inr (by decide))) rfl (hB5.modS m (.inr (by decide)))).dg ((Good.sync hgi _).mono (by show k+4 * 0+1≤k+4 * 1;omega))⟩
   · exact⟨Tryz.f120,Tryz.func120,fn120,fb120,fun Di w1 hDi m hgi=>(Ae2 gd _ Di w1 hDi hgi.ok (Nat.lt_of_le_of_lt hgi.steps (by show _+_<_;omega)) hgi.left hgi.names g3 g _ C.seg (hB3.modS m (.inr (by decide))) (hb.modS m (.inr (by decide))) rfl rfl hhi pi ni ci gn z 0 _ C.index rfl rfl (hBn.modS m (.inr (by decide))) (hCX.i.turnS m).sl (hg.modS m (fun j hj=>(hCX.sub j hj).elim (hS j) fun q=>Nat.le_trans hgs q)).l.q).dg ((Good.writeM hgi _).mono (by show k+4 * 1+4≤k+4 * 2;omega))⟩
   · exact⟨Tryz.f121,Tryz.func121,fn121,fb121,fun Di w1 hDi m hgi=>(Ae1 gd _ Di w1 hDi hgi.ok (Nat.lt_of_le_of_lt hgi.steps (by show _+_<_;omega)) hgi.left hgi.names g3 g _ C.seg (hB3.modS m (.inr (by decide))) (hb.modS m (.inr (by decide))) rfl rfl (hg.modS m (fun j hj=>(hCX.sub j hj).elim (hS j) fun q=>Nat.le_trans hgs q))).dg ((Good.remove hgi _).mono (by show k+4 * 2+1≤k+4 * 3;omega))⟩
   · exact absurd hi (by omega)
 rintro v14 w14 ⟨rfl,hD2,hM2⟩
 have hX:=hX.stepE hM2 (Db hCX)
 have hCX:=hCX.stepD hXs hM2 hD2
 have hb:Blk w14 g (stoV gd C pi ni ci r (some ⟨gn,0,none⟩)) tSto:=hCX.b
 have hB3:=hB3.modS hM2 (.inr (by decide))
 have hBn:=hBn.modS hM2 (.inr (by decide))
 have hrl1:=hMn.lt
 have hMn:=hMn.turn hM2 hrnD rfl
 refine pA (Ac (t_n (Ab (Ab (Aa ?_)))))
 refine pM ?_
 refine p1 (A2 rfl rfl) ?_
 refine Ac (t_n ?_)
 refine As rfl (fun hc80=>?_) (fun hc80=>?_)
 ·have hr1:(runD (lastOps C z) C.D).2≠0:=hc80
  refine Ab (Aa ?_)
  refine pM (pA (pA (Ac (t_n (Ak (t_r ?_))))))
  refine eR2 ?_
  (rw[Fh hnx he1 he2,if_pos hr1];exact⟨rfl,hCX.done,hX⟩)
 have hr0:(runD (lastOps C z) C.D).2=0:=by show (runD [_,_,_] C.D).2=0;omega
 refine Ai (t_n (Ab (Aa ?_)))
 refine p1 (Ae un30 rfl (hB3.cell (rfl))) ?_
 refine p1 (Af rfl) ?_
 refine p1 (Ad Fp sz88 rfl) ?_
 refine p1 (Ae un88 rfl (hb.cell (rfl))) ?_
 refine p1 (Bi (fs:=[]) (cs:=[.pointer (some ⟨g3,0,none⟩)]) rfl rfl) ?_
 refine Ah Tryz.func122 fn122 fb122 (S5 r C.L.length g3 g gn rn μ _ _ got _ hCX.m (Gy hCX.c) hB3 hb rfl hBn hMn hrnr) rfl ?_
 rintro v15 w15 ⟨hMd,hMT⟩
 have hX:=hX.trans (hMT.wideT (E':=EC) (by decide)) (fun j hj h=>by rw[show j=r from h];exact hsr)
 have hCX:=hCX.pruned hMT hMd
 have hb:Blk w15 g (stoV gd C pi ni ci r (some ⟨gn,0,none⟩)) tSto:=hCX.b
 have hB3:=hB3.modS hMT (.inr (by decide))
 have hBn:=hBn.modS hMT (.inr (by decide))
 refine Ac (t_n (Ab ?_))
 refine B7 (fun _ w2=>Blk w2 g3 #[.pointer (some ⟨g,0,none⟩)] 30∧Blk w2 gn #[.map (some rn),.int .i64 (z:Int)] tNxt) mixed ?_
 intro w16 hE16
 have hX:=hX.ext hE16
 have hCX:=hCX.ext hE16
 have hb:=hb.ext hE16
 have hB3:=hB3.ext hE16
 have hBn:=hBn.ext hE16
 have hSr19:(fun _ w2=>Blk w2 g3 #[.pointer (some ⟨g,0,none⟩)] 30∧Blk w2 gn #[.map (some rn),.int .i64 (z:Int)] tNxt) w16 w16:=⟨hB3,hBn⟩
 refine hT 0 rfl hSr19 (fun wS hSS=>by(have hB3:=hSS.1;have hBn:=hSS.2;exact(Ae un30 rfl (hB3.cell (rfl))))) ?_
 refine hT 1 rfl hSr19 (fun wS hSS=>by(have hB3:=hSS.1;have hBn:=hSS.2;exact(Ae un30 rfl (hB3.cell (rfl))))) ?_
 refine hT 2 rfl hSr19 (fun wS hSS=>by(have hB3:=hSS.1;have hBn:=hSS.2;exact(Ae un30 rfl (hB3.cell (rfl))))) ?_
 refine hT 3 rfl hSr19 (fun wS hSS=>by(have hB3:=hSS.1;have hBn:=hSS.2;exact(Ae un30 rfl (hB3.cell (rfl))))) ?_
 refine hT 4 rfl hSr19 (fun wS hSS=>by(exact(Af rfl))) ?_
 refine hT 5 rfl hSr19 (fun wS hSS=>by(exact(Ad Ch sz3 rfl))) ?_
 refine hT 8 rfl hSr19 (fun wS hSS=>by(have hB3:=hSS.1;have hBn:=hSS.2;exact(Ae un30 rfl (hB3.cell (rfl))))) ?_
 refine hT 9 rfl hSr19 (fun wS hSS=>by(exact(Af rfl))) ?_
 refine hT 10 rfl hSr19 (fun wS hSS=>by(exact(Ad Dn sz89 rfl))) ?_
 refine M3 6 11 _ _ rfl rfl (by kernel_rfl) (Br (fun Q6 hQ6=>?_)) (Br (fun Q11 hQ11=>?_))
 ·skip
  refine p1 (Ae un3 rfl (hb.cell (rfl))) ?_
  refine An hQ6 ⟨hSr19,?_⟩
  refine hT 7 rfl hSr19 (fun wS hSS=>by(exact((Aw rfl rfl (Ag (by omega) (by omega))).cast (congrArg (Value.int .i64) (by omega:_=((C.seg+1:Nat):Int)))))) ?_
  refine h1L 11 (fun Q11 hQ11=>?_)
  refine p1 (Ae un89 rfl (hb.cell (rfl))) ?_
  refine An hQ11 ⟨hSr19,?_⟩
  refine hT 12 rfl hSr19 (fun wS hSS=>by(exact(Af rfl))) ?_
  refine hT 13 rfl hSr19 (fun wS hSS=>by(exact(Ad Lq sz3 rfl))) ?_
  refine hT 14 rfl hSr19 (fun wS hSS=>by(have hB3:=hSS.1;have hBn:=hSS.2;exact(Ae un3 rfl (hBn.cell (rfl))))) ?_
  refine hT 15 rfl hSr19 (fun wS hSS=>by(exact(Af rfl))) ?_
  refine hT 16 rfl hSr19 (fun wS hSS=>by(exact(Ad Ch sz3 rfl))) ?_
  refine h1L 17 (fun Q17 hQ17=>?_)
  refine Ar rfl (by conv=>lhs;whnf) rfl rfl sz3 hb (by show _<7;omega) ?_
  intro w17 hP17
  have hX:=hX.put hP17 (⟨.inl hsg,by decide⟩)
  have hb:=hP17.blk
  try simp only[List.setIfInBounds_toArray,List.set_cons_zero,List.set_cons_succ] at hb
  have hSr19:=And.intro (hSr19.1.one hP17.one (by decide)) (hSr19.2.one hP17.one (by decide))
  have hCX:=hCX.setSeg (n:=C.seg+1) hP17
  refine An hQ17 ⟨hSr19,?_⟩
  refine hT 18 rfl hSr19 (fun wS hSS=>by(exact(Af rfl))) ?_
  refine hT 19 rfl hSr19 (fun wS hSS=>by(exact(Ad D6 sz3 rfl))) ?_
  refine h1L 20 (fun Q20 hQ20=>?_)
  refine Ar rfl (by conv=>lhs;whnf) rfl rfl sz3 hb (by show _<7;omega) ?_
  intro w18 hP18
  have hX:=hX.put hP18 (⟨.inl hsg,by decide⟩)
  have hb:=hP18.blk
  try simp only[List.setIfInBounds_toArray,List.set_cons_zero,List.set_cons_succ] at hb
  have hSr19:=And.intro (hSr19.1.one hP18.one (by decide)) (hSr19.2.one hP18.one (by decide))
  have hCX:=hCX.setSize (z:=z) hP18
  refine An hQ20 ⟨hSr19,?_⟩
  refine hT 21 rfl hSr19 (fun wS hSS=>by(exact(Af rfl))) ?_
  refine hT 22 rfl hSr19 (fun wS hSS=>by(exact(Ad Dn sz89 rfl))) ?_
  refine h1L 23 (fun Q23 hQ23=>?_)
  refine Ar rfl (by conv=>lhs;whnf) rfl rfl sz89 hb (by show _<7;omega) ?_
  intro w19 hP19
  have hX:=hX.put hP19 (⟨.inl hsg,by decide⟩)
  have hb:=hP19.blk
  try simp only[List.setIfInBounds_toArray,List.set_cons_zero,List.set_cons_succ] at hb
  have hSr19:=And.intro (hSr19.1.one hP19.one (by decide)) (hSr19.2.one hP19.one (by decide))
  have hCX:=hCX.setNil hP19
  refine An hQ23 ⟨hSr19,?_⟩
  refine Bm (by kernel_rfl) ?_
  refine t_n (Ab (Aa ?_))
  refine pA (pA (Ac (t_n (Ak ?_))))
  refine eR2 ?_
  (rw[Fh hnx he1 he2,if_neg (fun q=>q hr0)];exact⟨rfl,hCX.done,hX⟩)
 skip
 refine p1 (Ae un89 rfl (hb.cell (rfl))) ?_
 refine An hQ11 ⟨hSr19,?_⟩
 refine hT 12 rfl hSr19 (fun wS hSS=>by(exact(Af rfl))) ?_
 refine hT 13 rfl hSr19 (fun wS hSS=>by(exact(Ad Lq sz3 rfl))) ?_
 refine hT 14 rfl hSr19 (fun wS hSS=>by(have hB3:=hSS.1;have hBn:=hSS.2;exact(Ae un3 rfl (hBn.cell (rfl))))) ?_
 refine h1L 6 (fun Q6 hQ6=>?_)
 refine p1 (Ae un3 rfl (hb.cell (rfl))) ?_
 refine An hQ6 ⟨hSr19,?_⟩
 refine hT 7 rfl hSr19 (fun wS hSS=>by(exact((Aw rfl rfl (Ag (by omega) (by omega))).cast (congrArg (Value.int .i64) (by omega:_=((C.seg+1:Nat):Int)))))) ?_
 refine hT 15 rfl hSr19 (fun wS hSS=>by(exact(Af rfl))) ?_
 refine hT 16 rfl hSr19 (fun wS hSS=>by(exact(Ad Ch sz3 rfl))) ?_
 refine h1L 17 (fun Q17 hQ17=>?_)
 refine Ar rfl (by conv=>lhs;whnf) rfl rfl sz3 hb (by show _<7;omega) ?_
 intro w20 hP20
 have hX:=hX.put hP20 (⟨.inl hsg,by decide⟩)
 have hb:=hP20.blk
 try simp only[List.setIfInBounds_toArray,List.set_cons_zero,List.set_cons_succ] at hb
 have hSr19:=And.intro (hSr19.1.one hP20.one (by decide)) (hSr19.2.one hP20.one (by decide))
 have hCX:=hCX.setSeg (n:=C.seg+1) hP20
 refine An hQ17 ⟨hSr19,?_⟩
 refine hT 18 rfl hSr19 (fun wS hSS=>by(exact(Af rfl))) ?_
 refine hT 19 rfl hSr19 (fun wS hSS=>by(exact(Ad D6 sz3 rfl))) ?_
 refine h1L 20 (fun Q20 hQ20=>?_)
 refine Ar rfl (by conv=>lhs;whnf) rfl rfl sz3 hb (by show _<7;omega) ?_
 intro w21 hP21
 have hX:=hX.put hP21 (⟨.inl hsg,by decide⟩)
 have hb:=hP21.blk
 try simp only[List.setIfInBounds_toArray,List.set_cons_zero,List.set_cons_succ] at hb
 have hSr19:=And.intro (hSr19.1.one hP21.one (by decide)) (hSr19.2.one hP21.one (by decide))
 have hCX:=hCX.setSize (z:=z) hP21
 refine An hQ20 ⟨hSr19,?_⟩
 refine hT 21 rfl hSr19 (fun wS hSS=>by(exact(Af rfl))) ?_
 refine hT 22 rfl hSr19 (fun wS hSS=>by(exact(Ad Dn sz89 rfl))) ?_
 refine h1L 23 (fun Q23 hQ23=>?_)
 refine Ar rfl (by conv=>lhs;whnf) rfl rfl sz89 hb (by show _<7;omega) ?_
 intro w22 hP22
 have hX:=hX.put hP22 (⟨.inl hsg,by decide⟩)
 have hb:=hP22.blk
 try simp only[List.setIfInBounds_toArray,List.set_cons_zero,List.set_cons_succ] at hb
 have hSr19:=And.intro (hSr19.1.one hP22.one (by decide)) (hSr19.2.one hP22.one (by decide))
 have hCX:=hCX.setNil hP22
 refine An hQ23 ⟨hSr19,?_⟩
 refine Bm (by kernel_rfl) ?_
 refine t_n (Ab (Aa ?_))
 refine pA (pA (Ac (t_n (Ak ?_))))
 refine eR2 ?_
 (rw[Fh hnx he1 he2,if_neg (fun q=>q hr0)];exact⟨rfl,hCX.done,hX⟩)
end Go.Proofs.Eng
end
section
set_option maxRecDepth 100000
set_option maxHeartbeats 4000000
namespace Go.Proofs.Eng
open Go.RowKit
open Extern.Stop (cell)
theorem fb78:Tryz.f78.body.isNone=false:=by kernel_rfl
theorem fn78 : ngB Tryz.f78 = false := by kernel_rfl
end Go.Proofs.Eng
end
section
set_option maxRecDepth 100000
set_option maxHeartbeats 4000000
namespace Go.Proofs.Eng
open Go.RowKit
open Extern.Stop (cell)
theorem Wd (g gd r:Nat) (S Sd:Nat→Prop) (μ:Hash→Option R3) (pi nx:Option Addr) (ni ci:Nat) (C:CS) (k_:Nat) (w:World) (hCX:CstX S Sd w g gd r μ pi ni ci nx C) (hn:CN C k_) (hS:∀ j,S j→6≤j) (hg:Gt w) (hk:k_<4611686018427000000) (hgn:∀ got z,C.next=some (got,z)→∀ h∈got,findF C.L h≠none) (live:List Hash) (p:Option Addr) (n c:Nat) (hl:Sl kHash 64 0 w p n c live) (hn2:n≤2097152000) :
    Ret Tryz.prog 78 [.pointer (some ⟨g,0,none⟩),.slice p n c,.string (nSeg (C.seg+1))] w (fun v w'=>v = .tuple #[.bool (stepS C live).2.1,.int .i64 (stepS C live).2.2]∧Cst (grow S w w') w' g gd (stepS C live).1∧ModS S EC w w'):=by
  cases e:C.next with
  | none=>exact Y3 g gd r S Sd μ pi nx ni ci C k_ w hCX hn hS hg (by omega) e live p n c
  | some gz =>
    obtain⟨got,z⟩:=gz
    exact Y2 g gd r S Sd μ pi nx ni ci C k_ w hCX hn hS hg (by omega) got z e (hgn got z e) live p n c hl hn2
theorem Qw {C:CS} {l:List Hash} (h:(stepS C l).2.2≠0):(stepS C l).1={ C with D:=(stepS C l).1.D }∧(stepS C l).2.1=false:=by
  cases e:C.next with
  | none =>
    have:=Gu (live:=l) e
    rw[this] at h ⊢
    simp only at h ⊢
    rw[if_neg h,← e];exact⟨rfl,trivial⟩
  | some gz =>
    obtain⟨got,z⟩:=gz
    by_cases h1:srt (sel l false (srt got))=[]
    · by_cases h2 : srt (sel (srt got) false l) = []
      · rw [Fh e h1 h2] at h ⊢
        by_cases h3:(runD (lastOps C z) C.D).2≠0
        · rw[if_pos h3,← e];exact⟨rfl,rfl⟩
        · rw[if_neg h3] at h;exact absurd rfl h
      · rw [G4 e h1 h2] at h ⊢
        unfold En at h ⊢
        simp only at h ⊢
        rw[if_neg h,← e];exact⟨rfl,trivial⟩
    · rw [Hj e h1] at h ⊢
      simp only at h ⊢
      rw[if_neg h,← e];exact⟨rfl,trivial⟩
theorem Good.lastOps {C:CS} {k z:Nat} (h:Good C.D k):Good (runD (Eng.lastOps C z) C.D).1 (k+6):=by
  simp only[Eng.lastOps,runD,Ep]
  exact(h.sync _).andD (fun D h=>(h.writeM _).andD (fun D h=>h.remove _) (by omega)) (by omega)
theorem Good.stepS {C:CS} {k:Nat} (h:Good C.D k) (l:List Hash):Good (Eng.stepS C l).1.D (k+6):=by
  cases e:C.next with
  | none=>rw[Gu e];exact(h.create _).mono (by omega)
  | some gz =>
    obtain⟨got,z⟩:=gz
    by_cases h1:srt (sel l false (srt got))=[]
    · by_cases h2 : srt (sel (srt got) false l) = []
      · rw [Fh e h1 h2]
        split
        · exact h.lastOps
        · exact h.lastOps
      · rw[G4 e h1 h2];exact(h.append _ _).mono (by omega)
    · rw[Hj e h1];exact(h.remove _).mono (by omega)
theorem CN.stepE {C:CS} {k:Nat} (hn:CN C k) {l:List Hash} (h:(Eng.stepS C l).2.2≠0):CN (Eng.stepS C l).1 (k+6):=by
  have hg:=hn.good.stepS l
  rw[(Qw h).1]
  exact⟨hg,hn.hi,hn.sz,hn.ix,hn.nx,hn.ln,hn.cl⟩
theorem Oh (g gd r:Nat) (S Sd:Nat→Prop) (μ:Hash→Option R3) (pi nx:Option Addr) (ni ci:Nat) (C:CS) (k_:Nat) (w:World) (hCX:CstX S Sd w g gd r μ pi ni ci nx C) (hn:CN C k_) (hS:∀ j,S j→6≤j) (hg:Gt w) (hk:k_<4611686018427000000) (hgn:∀ got z,C.next=some (got,z)→∀ h∈got,findF C.L h≠none) (live:List Hash) (B:Nat) (p:Option Addr) (n c:Nat) (hl:Sl kHash 64 B w p n c live) (hn2:n≤2097152000) :
    Ret Tryz.prog 29 [.pointer (some ⟨g,0,none⟩),.slice p n c] w (fun v w'=>v = .tuple #[.bool (stepF C live).2.1,.int .i64 (stepF C live).2.2]∧Cst (grow S w w') w' g gd (stepF C live).1∧ModS S EC w w'):=by
 have hgs:=hg.size
 have hhi:=hn.hi
 have hsg:=hCX.sg
 have hCX0:=hCX
 have hg0:=hg
 have hb:=hCX.b
 have hbl:=hb.lt
 have hX:=Ext.refl w
 refine eN 57 Tryz.func29 ?_
 refine Ab (Aa ?_)
 refine pA (pA (Ac (t_n (Ab (Am (Ab (Aa ?_)))))))
 refine pM ?_
 refine p1 ((Bb u30 rfl rfl).cast (congrArg _ (decide_eq_false (by simp)))) ?_
 refine pA (Ac (t_n ?_))
 refine c_f (rfl) ?_
 refine Ab (Aa ?_)
 refine pM ?_
 refine p1 (Af rfl) ?_
 refine p1 (Ad Fo sz4 rfl) ?_
 refine p1 (Ae un4 rfl (hb.cell (rfl))) ?_
 refine pA (Ac (t_n ?_))
 refine Ia rfl (fun hc13=>?_) (fun hc13=>?_)
 ·have hp:stepF C live=(C,false,20):=by unfold stepF;rw[if_pos hc13]
  refine Ab (Aa ?_)
  refine pA (pA (Ac (t_n (Ak (b_r (t_r ?_))))))
  refine eR2 ?_
  (rw[hp];exact⟨rfl,hCX.fin.grown w,ModS.ofExt hX⟩)
 refine Ai (b_n (t_n (Ab (Aa ?_))))
 refine pM ?_
 refine Ah Tryz.func39 fn39 fb39 (F1 live _ _ _ _ _ (hl.ext hX) (by omega)) rfl ?_
 rintro v1 w1 ⟨⟨qs,ms,cs_,rfl,hms,hLs⟩,hE1⟩
 have hX:=hX.ext hE1
 have hCX:=hCX.ext hE1
 have hb:=hb.ext hE1
 have hg:=hg.ext hE1
 have hLs:=hLs.lower (Nat.zero_le _)
 have hLl:=hLs.len
 have hLf:=hLs.sl.fit
 have hLc:=hLs.sl.cap
 refine pA (Ac (t_n (Ab (Ab (Aa ?_)))))
 refine pM ?_
 refine p1 (Aj u54 rfl) ?_
 refine pM (Ac (t_n (Am ?_)))
 refine Bg (ι:=Nat) [4,5,7,22,23,24,25,26,27,28,29,30,31,32,33] (fun k=>[(22,.int .i64 (k:Int))]) (fun k w'=>Ext w w'∧(k≤ms∧Own kHash 64 0 0 w' qs ms cs_ (srt live)∧∀ i,i<k→findF C.L ((srt live).getD i default)≠none)) (fun k=>ms - k) (0) ⟨rfl,trivial⟩ ⟨hX,Nat.zero_le _,hLs,fun i hi=>by omega⟩ ?_
 rintro k GL1 w2 ⟨hE2,hk,hLs,hA⟩
 have hX:=hE2
 have hCX:=hCX0.ext hX
 have hM:=hCX.m
 have hC:=hCX.c
 have hb:=hCX.b
 have hg:=hg0.ext hX
 have hXa:=Ext.refl w2
 have hLr:=hLs
 refine Ab (Aa ?_)
 refine p1 (Bx rfl rfl) ?_
 refine Ac (t_n (Ab ?_))
 refine As rfl (fun hc23=>?_) (fun hc23=>?_)
 ·refine Ai (t_n (Ab (Am (Ab (Aa ?_)))))
  refine p1 (Fd u54 sz64 rfl rfl (hLs.sl.adr Cb (by omega)) (by omega) (by omega)) ?_
  refine p1 (C9 ua64 rfl (G0 sz64 _) (hLs.sl.hashAt (k:Int) (by omega) (by omega))) ?_
  have hz7:=hX.size
  refine A6 zr64 ?_
  intro w3 g7 hN7
  have hE3:=hN7.ext
  have hX:=hX.ext hE3
  have hCX:=hCX.ext hE3
  have hM:=hM.ext hE3
  have hC:=hC.ext hE3
  have hb:=hb.ext hE3
  have hLs:=hLs.ext hE3
  have hXa:=hXa.ext hE3
  have hB7:=hN7.blk
  have hq7:=hN7.g_eq
  refine Az rfl rfl (Cm _) (B4 sz64 _) hB7 (Dl _) ?_
  intro w4 hP4
  have hX:=hX.put hP4 (by omega)
  have hCX:=hCX0.ext hX
  have hM:=(hCX0.ext hX).m
  have hC:=(hCX0.ext hX).c
  have hb:=(hCX0.ext hX).b
  have hLs:=hLr.ext (hXa.put hP4 (by omega))
  have hB7:=hP4.blk
  refine Ac (t_n (Ab ?_))
  refine Du mixed (by kernel_rfl) ?_
  intro w5 hE5
  have hX:=hX.ext hE5
  have hCX:=hCX.ext hE5
  have hM:=hM.ext hE5
  have hC:=hC.ext hE5
  have hb:=hb.ext hE5
  have hLs:=hLs.ext hE5
  have hB7:=hB7.ext hE5
  refine s1 (Al (by conv=>lhs;whnf)) ?_
  refine s1 (Af rfl) ?_
  refine s1 (Ad Fp sz88 rfl) ?_
  refine s1 (Ae un88 rfl (hb.cell (rfl))) ?_
  refine s1 (Bh ua64 rfl hB7 (B4 sz64 _)) ?_
  obtain⟨⟨p0,n0,c0⟩,hr0⟩:∃ x:R3,x=(μ ((srt live).getD k default)).getD r30:=⟨_,rfl⟩
  obtain⟨hC0a,hC0b⟩:=hC.get ((srt live).getD k default)
  rw[← hr0] at hC0a hC0b
  simp only at hC0a hC0b
  refine s1 (((lookC u88 zr23 (Cg u64 u5 sz5) hM ((srt live).getD k default) rfl rfl)).cast (by rw[← hr0];rfl:r3V _=Value.slice p0 n0 c0)) ?_
  refine s1 (D9 u23 rfl rfl) ?_
  refine Ca (t_n ?_)
  refine As rfl (fun hc32=>?_) (fun hc32=>?_)
  ·have hp:stepF C live=(C,false,22):=by unfold stepF;rw[if_neg (by rw[hc13];simp),if_pos ⟨_,mem_srt.1 (Cn (z:=default) (xs:=srt live) (i:=k) (by omega) rfl),hC0a.1 hc32⟩]
   refine Ab (Aa ?_)
   refine pA (pA (Ac (t_n (Ak (b_r (t_r (t_r (b_r (t_r ?_)))))))))
   refine eR2 ?_
   (rw[hp];exact⟨rfl,hCX.fin.grown w,ModS.ofExt hX⟩)
  have hin:findF C.L ((srt live).getD k default)≠none:=fun e=>hc32 (hC0a.2 e)
  refine Ai (b_n (t_n (Aa ?_)))
  refine p1 (Aw rfl rfl (Ag (by omega) (by omega))) ?_
  refine pM (Ac ?_)
  refine t_n (aK (k+1) ⟨rfl,trivial⟩ ?_)
  exact⟨⟨hX,by omega,hLs,fun i hi=>if h:i<k then hA i h else by rw[show i=k from by omega];exact hin⟩,by((show _<_);omega)⟩
 have hall:∀ h∈live,findF C.L h≠none:=fun h hh=>by
   obtain⟨i,hi,e⟩:=List.mem_iff_getElem.1 (mem_srt.2 hh)
   have:=hA i (by omega)
   rw[List.getD_eq_getElem?_getD,List.getElem?_eq_getElem hi,Option.getD_some,e] at this
   exact this
 refine Ba (t_e (t_e (Bu (t_n (Ab (Ab (Aa ?_)))))))
 refine pM ?_
 refine p1 (Af rfl) ?_
 refine p1 (Ad Ch sz3 rfl) ?_
 refine p1 (Ae un3 rfl (hb.cell (rfl))) ?_
 refine p1 (T0 rfl rfl) ?_
 refine Ac (t_n ?_)
 refine As rfl (fun hc38=>?_) (fun hc38=>?_)
 ·have hp:stepF C live=(C,false,21):=by unfold stepF;rw[if_neg (by rw[hc13];simp),if_neg (fun ⟨h,a,b⟩=>hall h a b),if_pos (by omega)]
  refine Ab (Aa ?_)
  refine pA (pA (Ac (t_n (Ak (t_r ?_)))))
  refine eR2 ?_
  (rw[hp];exact⟨rfl,hCX.fin.grown w,ModS.ofExt hX⟩)
 have hpm:=Oi (C:=C) (live:=live) (by rw[hc13];simp) hall (by omega)
 refine Ai (t_n (Ab (Aa ?_)))
 refine pM (pM (pM ?_))
 refine p1 (Af rfl) ?_
 refine p1 (Ad Ch sz3 rfl) ?_
 refine p1 (Ae un3 rfl (hb.cell (rfl))) ?_
 refine p1 ((Aw rfl rfl (Ag (by omega) (by omega))).cast (congrArg (Value.int .i64) (by omega:_=((C.seg+1:Nat):Int)))) ?_
 refine Ah Tryz.func49 fn49 fb49 (A3 ((C.seg+1:Nat):Int) _ hg.l) rfl ?_
 rintro v6 w6 ⟨rfl,hE6⟩
 have hX:=hX.ext hE6
 have hCX:=hCX.ext hE6
 have hg:=hg.ext hE6
 have hLs:=hLs.ext hE6
 have hXs:=hX.size
 refine Ah Tryz.func78 fn78 fb78 (Wd g gd r S Sd μ pi nx ni ci C k_ _ hCX hn hS hg (by omega) hgn (srt live) _ _ _ hLs.sl (by omega)) rfl ?_
 rintro v7 w7 ⟨rfl,hCS,hMS⟩
 have hX:=(ModS.ofExt (S:=S) (E:=EC) hX).trans hMS (fun _ _ h=>h)
 have hg:=hg.modS hMS hS
 have hMz:=hMS.size
 refine pM ?_
 refine p1 (Ao rfl rfl) ?_
 refine p1 (Ao rfl rfl) ?_
 refine pA (pA (Ac (t_n (Ab (Ab (Aa ?_))))))
 refine pM ?_
 refine p1 (A2 rfl rfl) ?_
 refine Ac (t_n ?_)
 refine As rfl (fun hc52=>?_) (fun hc52=>?_)
 ·refine Ab (Aa ?_)
  refine pM (pM ?_)
  obtain⟨Sd2,r2,μ2,pi2,ni2,ci2,nx2,hCX2⟩:=hCS
  refine Ah Tryz.func57 fn57 fb57 (Gs g gd r2 _ Sd2 μ2 pi2 nx2 ni2 ci2 _ (k_+6) _ hCX2 (hn.stepE hc52) (Hq hS (by omega)) hg (by omega) _ true) rfl ?_
  rintro v8 w8 ⟨rfl,hCU,hMU⟩
  have hX:=hX.trans hMU (fun j hj h=>h.resolve_right (fun q=>by have:=q.1;omega))
  refine pA (pA (Ac (t_n (Ak (t_r ?_)))))
  refine eR2 ?_
  (rw[hpm,if_pos hc52];exact⟨rfl,hCU.mono (fun j hj h=>h.elim (fun a=>a.imp id fun b=>⟨by omega,hj⟩) (fun ⟨a,_⟩ => .inr ⟨by omega,hj⟩)),hX⟩)
 have he0:(stepS C (srt live)).2.2=0:=by omega
 refine Ai (t_n (Ab (Aa ?_)))
 refine pM (pA (pA (Ac (t_n (Ak ?_)))))
 refine eR2 ?_
 (rw[hpm,if_neg (fun q=>q he0)];exact⟨by rw[he0],hCS.wide hXs,hX⟩)
end Go.Proofs.Eng
end
section
namespace Go.Proofs.Eng
open Go.RowKit
structure Vu (D:DS) (M i:Nat) (V:ByteArray→Option Fb) (u n:Nat):Prop where
  up:UpD D M i
  v:∀ k,ascF D.l k=V k
  used:usedL D.l=u
  len:D.l.length=n
theorem Ace {o:Option Fb} {f:Fb} (h:o=some f):(o.map fun f=>f.1.length).getD 0=f.1.length:=by rw[h];rfl
section
variable {D : DS} {M i u n : Nat} {V : ByteArray → Option Fb} {k : ByteArray}
theorem Aan (h:Vu D M i V u n) (act:List Fl) (o:Option Fb) (ha:act=insA D.l k o) (hg:Good { D with l:=act,left:=-1,steps:=D.steps+1 } (i+1)) {u' n':Nat} (hu:u'+((V k).map fun f=>f.1.length).getD 0=u+(o.map fun f=>f.1.length).getD 0) (hn:n'+(if V k=none then 0 else 1)=n+(if o=none then 0 else 1)) :
    Vu { D with l:=act,left:=-1,steps:=D.steps+1 } M (i+1) (mset V k o) u' n':=by
  have hr:=h.up.good.ok.rise
  refine⟨Aen h.up hg,fun z=>?_,?_,?_⟩
  · show ascA act z = _
    rw[ha,← Eg hr]
    unfold mset
    split
    · rfl
    · exact h.v z
  · show usedL act = u'
    have:=Dz hr k o
    have hv:ascA D.l k=V k:=h.v k
    rw[hv] at this
    rw[ha];have:=h.used;omega
  · show act.length = n'
    have:=G5 hr k o
    have hv:ascA D.l k=V k:=h.v k
    rw[hv] at this
    rw[ha];have:=h.len;omega
theorem Qo (h:Vu D M i V u n) (hn:A1 k=true) (hk:V k=none) (hl:n<64):(Bk D k).2=0∧Vu (Bk D k).1 M (i+1) (mset V k (some ([],0))) u (n+1):=by
  have hg:=G6 h.up.good k
  unfold Bk at hg ⊢
  rw[D7 (by simp[hn]) h.up.down,if_neg (by simp),if_neg (by rw[h.v,hk];simp),if_neg (by rw[h.len];omega),Xx h.up] at hg ⊢
  exact⟨rfl,Aan h _ _ rfl hg (by rw[hk];rfl) (by rw[if_pos hk];rfl)⟩
theorem Qp (h:Vu D M i V u n) (hn:A1 k=true) {f:Fb} (hk:V k=some f) {p:By} (hr:u+p.length≤M):(A4 D k p).2=0∧Vu (A4 D k p).1 M (i+1) (mset V k (some (f.1++p,f.2))) (u+p.length) n:=by
  have hg:=G7 h.up.good k p
  have hgf:getF D k=f:=by unfold getF;rw[h.v,hk];rfl
  unfold A4 at hg ⊢
  rw[D7 (by simp[hn]) h.up.down,if_neg (by simp),if_neg (by rw[h.v,hk];simp),hgf,h.up.most,h.used,if_neg (by omega),Xx h.up] at hg ⊢
  exact⟨rfl,Aan h _ _ rfl hg (by rw[Ace hk];simp;omega) (by rw[if_neg (by rw[hk];simp),if_neg (by simp)])⟩
theorem Xt (h:Vu D M i V u n) (hn:A1 k=true) {f:Fb} (hk:V k=some f):(syncD D k).2=0∧Vu (syncD D k).1 M (i+1) (mset V k (some (f.1,f.1.length))) u n:=by
  have hg:=Md h.up.good k
  have hgf:getF D k=f:=by unfold getF;rw[h.v,hk];rfl
  unfold syncD at hg ⊢
  rw[D7 (by simp[hn]) h.up.down,if_neg (by simp),if_neg (by rw[h.v,hk];simp),hgf,Xx h.up] at hg ⊢
  exact⟨rfl,Aan h _ _ rfl hg (by rw[Ace hk];rfl) (by rw[if_neg (by rw[hk];simp),if_neg (by simp)])⟩
theorem Xu (h:Vu D M i V u n) (hn:A1 k=true) {f:Fb} (hk:V k=some f):readD D k=(f.1,0):=Ac8 h.up hn (by rw[h.v,hk])
theorem Ac7 (h:Vu D M i V u n) (hn:A1 k=true) (hk:V k=none):readD D k=([],22):=by
  unfold readD
  rw[D7 (by simp[hn]) h.up.down,if_neg (by simp),if_pos (by rw[h.v,hk])]
theorem Aey (h:Vu D M i V u n) {old now:ByteArray} (hn:A1 old=true) (hn2:A1 now=true) (hne:old≠now) {f:Fb} (hk:V old=some f) :
    (Cl D old now).2=0∧∃ u' n',Vu (Cl D old now).1 M (i+1) (mset (mset V now (some f)) old none) u' n'∧u'+((V now).map fun f=>f.1.length).getD 0=u∧n'+(if V now=none then 0 else 1)=n:=by
  have hg:=Iv h.up.good old now
  have hgf:getF D old=f:=by unfold getF;rw[h.v,hk];rfl
  have hr:=h.up.good.ok.rise
  have ho:ascF D.l old≠none:=by rw[h.v,hk];simp
  unfold Cl at hg ⊢
  rw[D7 (by simp[hn,hn2]) h.up.down,if_neg (by simp),if_neg ho,hgf,Xx h.up] at hg ⊢
  have hl:renL D.l old now f=insA (insA D.l now (some f)) old none:=if_neg hne
  rw[hl] at hg ⊢
  have hr2:=D0 hr now (some f)
  have h1:=Dz hr now (some f)
  have h2:=Dz hr2 old none
  have h3:=G5 hr now (some f)
  have h4:=G5 hr2 old none
  have hv:ascA D.l now=V now:=h.v now
  have hvo:ascA (insA D.l now (some f)) old=some f:=by rw[← Eg hr];unfold mset;rw[if_neg hne];exact(h.v old).trans hk
  rw[hv] at h1 h3
  rw[hvo] at h2 h4
  simp only[Option.map_some,Option.getD_some,Option.map_none,Option.getD_none,reduceCtorEq,if_false,if_true] at h1 h2 h3 h4
  refine⟨rfl,_,_,⟨Aen h.up hg,fun z=>?_,rfl,rfl⟩,?_,?_⟩
  · show ascA (insA (insA D.l now (some f)) old none) z = _
    rw[← Eg hr2]
    unfold mset
    split
    · rfl
    · rw [← Eg hr]
      unfold mset
      split
      · rfl
      · exact h.v z
  · have:=h.used;show usedL (insA (insA D.l now (some f)) old none)+_=_;omega
  · have:=h.len;show (insA (insA D.l now (some f)) old none).length+_=_;split at h3 <;> simp_all <;> omega
end
theorem Gk:A1 nMan=true:=by decide
theorem Ek:A1 nNew=true:=by decide
theorem Dv:nMan≠nNew:=by decide
theorem O9 {k:Nat} (h1:1≤k) (h2:k≤999999):(nSeg k).size=10:=by
  unfold nSeg nameF
  rw[if_neg (by omega)]
  show (toStr (nameL _)).size=10
  unfold toStr
  simp[ByteArray.size,Rb]
theorem C4 {k:Nat} (h1:1≤k) (h2:k≤999999):A1 (nSeg k)=true:=by
  have hs:=O9 h1 h2
  unfold A1
  rw[decide_eq_true (by omega),Bool.true_and,List.all_eq_true]
  intro c hc
  have e:(nSeg k).data.toList=nameL ((k:Int).toNat):=by unfold nSeg nameF toStr;rw[if_neg (by omega)]
  rw[e] at hc
  unfold nameL at hc
  rcases List.mem_append.1 hc with h | h
  · clear hc;revert h;revert c;decide
  · have := Tn 6 _ c h
    exact decide_eq_true (by omega)
theorem Df {k:Nat} (h1:1≤k) (h2:k≤999999):nSeg k≠nMan:=fun e=>by have:=O9 h1 h2;rw[e] at this;revert this;decide
theorem Eb {k:Nat} (h1:1≤k) (h2:k≤999999):nSeg k≠nNew:=fun e=>by have:=O9 h1 h2;rw[e] at this;revert this;decide
theorem M1:¬ SegN nMan:=fun ⟨k,h1,h2,e⟩=>Df h1 h2 e.symm
theorem Abh {a b:Nat} (ha:1≤a) (ha2:a≤999999) (hb:1≤b) (hb2:b≤999999) (h:nSeg a=nSeg b):a=b:=by
  unfold nSeg nameF at h
  rw[if_neg (by omega),if_neg (by omega)] at h
  exact Re ha2 hb2 (Y0.1 h)
theorem T5 {D:DS} {M i u n:Nat} {V:ByteArray→Option Fb} (h:Vu D M i V u n) (hk:V nNew=none) (hl:n<64) {b:By} (hr:u+b.length≤M) :
    (writeD D b).2=0∧∃ u' n',Vu (writeD D b).1 M (i+4) (mset V nMan (some (b,b.length))) u' n'∧u'+((V nMan).map fun f=>f.1.length).getD 0=u+b.length∧n'+(if V nMan=none then 0 else 1)=n+1:=by
  have hne:nNew≠nMan:=fun e=>Dv e.symm
  obtain⟨a1,a2⟩:=Qo h Ek hk hl
  have k1:mset V nNew (some ([],0)) nNew=some ([],0):=by unfold mset;rw[if_pos rfl]
  obtain⟨b1,b2⟩:=Qp a2 Ek k1 (p:=b) hr
  have k2:mset (mset V nNew (some ([],0))) nNew (some (([]:By)++b,0)) nNew=some (([]:By)++b,0):=by unfold mset;rw[if_pos rfl]
  obtain⟨c1,c2⟩:=Xt b2 Ek k2
  obtain⟨d1,u',n',d2,d3,d4⟩:=Aey c2 (old:=nNew) (now:=nMan) Ek Gk hne (f:=(([]:By)++b,(([]:By)++b).length)) (by unfold mset;rw[if_pos rfl])
  have e:writeD D b=Cl (syncD (A4 (Bk D nNew).1 nNew b).1 nNew).1 nNew nMan:=by
    unfold writeD
    rw[Er a1,Er b1,Er c1]
  have hm:∀ x:Option Fb,mset (mset (mset V nNew (some ([],0))) nNew (some (([]:By)++b,0))) nNew x nMan=V nMan:=fun x=>by
    unfold mset;rw[if_neg Dv,if_neg Dv,if_neg Dv]
  rw[hm] at d3 d4
  refine⟨by rw[e];exact d1,u',n',?_,d3,d4⟩
  rw[e]
  have hv:mset (mset (mset (mset (mset V nNew (some ([],0))) nNew (some (([]:By)++b,0))) nNew (some (([]:By)++b,(([]:By)++b).length))) nMan (some (([]:By)++b,(([]:By)++b).length))) nNew none=mset V nMan (some (b,b.length)):=by
    funext z
    unfold mset
    simp only[List.nil_append]
    by_cases e1:z=nNew
    · subst e1;rw[if_pos rfl,if_neg hne,hk]
    · rw [if_neg e1]
      by_cases e2:z=nMan
      · rw[if_pos e2,if_pos e2]
      · rw[if_neg e2,if_neg e2,if_neg e1,if_neg e1,if_neg e1]
  rw[hv] at d2
  exact d2
theorem P4 {keep:ByteArray} {D:DS}:∀ {ns:List ByteArray},(∀ x∈ns,keepN x keep=true)→cleanL keep D ns=(D,0)
  | [],_=>rfl
  | x :: ns, h => by
    unfold cleanL
    rw[if_pos (h x (by simp))]
    exact P4 fun y hy=>h y (by simp[hy])
structure Rst (C:CS) (M i:Nat):Prop where
  ex:∃ V u,Vu C.D M i V u 2∧V nMan=some (manB ⟨C.seg,C.size,C.index⟩,(manB ⟨C.seg,C.size,C.index⟩).length)∧V (nSeg C.seg)=some (segB C.L,C.size)∧(∀ k,k≠nMan→k≠nSeg C.seg→V k=none)∧u=(manB ⟨C.seg,C.size,C.index⟩).length+C.size
  ok:(Mf.mk C.seg C.size C.index).Ok
  sz:(segB C.L).length=C.size
  cl:∀ c∈C.L,c.length≤1048576
  dead:C.dead=false
  next:C.next=none
theorem Me {l:List By} (h:∀ c∈l,c.length≤1048576):getSg (segB l)=(l,0):=by
  unfold getSg
  have h1:B6 (segB l)=some l:=P5 l h
  rw[h1]
theorem Rst.open {C:CS} {M i:Nat} (h:Rst C M i):openC C.D=(C,0):=by
  obtain⟨V,u,hv,h1,h2,h3,h4⟩:=h.ex
  have hlo:=h.ok.lo
  have hhi:=h.ok.hi
  have hrm:=Xu hv Gk h1
  have hrs:=Xu hv (C4 hlo hhi) h2
  have hmo:ManOf (readD C.D nMan).1 ⟨C.seg,C.size,C.index⟩:=by rw[hrm];exact⟨h.ok,rfl⟩
  have hs:=h.sz
  have hfull:(segB C.L).take C.size=segB C.L:=List.take_of_length_le (by omega)
  rw[Ko (by rw[hrm]),L9 hmo]
  simp only[]
  rw[hrs]
  simp only[]
  rw[hfull,Me h.cl,if_neg (by simp;omega)]
  have hkeep:cleanD C.D (nSeg C.seg)=(C.D,0):=P4 fun x hx=>by
    rw[Fm]
    have hx2:ascF C.D.l x≠none:=D5.2 hx
    rw[hv.v] at hx2
    by_cases e1:x=nMan
    · subst e1;exact⟨Dv,.inl M1⟩
    · by_cases e2 : x = nSeg C.seg
      · subst e2;exact⟨Eb hlo hhi,.inr rfl⟩
      · exact absurd (h3 x e1 e2) hx2
  have hlr:loadR C.D ⟨C.seg,C.size,C.index⟩=(C.D,0):=by
    unfold loadR
    simp only[]
    rw[hrs,if_neg (by simp only[];omega)]
    exact hkeep
  rw[hlr]
  have hL:(getSg ((readD C.D (nSeg C.seg)).1.take C.size)).1=C.L:=by rw[hrs];simp only[];rw[hfull,Me h.cl]
  have:loadS C.D ⟨C.seg,C.size,C.index⟩=C:=by
    unfold loadS
    simp only[]
    rw[hL]
    have hd:=h.dead
    have hn:=h.next
    cases C;simp_all
  rw[this]
theorem Aez (most:Int):Vu (newD most) (max 0 (min most 16777216)).toNat 0 (fun _=>none) 0 0:=⟨⟨Vc most,rfl,rfl,rfl⟩,fun _=>rfl,rfl,rfl⟩
theorem Abg {most:Int} {M:Nat} (hm:M=(max 0 (min most 16777216)).toNat) (hr:(manB ⟨1,0,[]⟩).length≤M) :
    (openC (newD most)).2=0∧Rst (openC (newD most)).1 M 5∧(openC (newD most)).1.L=[]∧(openC (newD most)).1.size=0∧(openC (newD most)).1.index=[]∧(openC (newD most)).1.seg=1:=by
  subst hm
  have h0:=Aez most
  have hok:(Mf.mk 1 0 []).Ok:=⟨by show 1≤1;omega,by show 1≤999999;omega,by show 0≤_;omega,by show 0≤_;omega⟩
  have hrn:=Ac7 h0 Gk rfl
  have hcl:cleanD (newD most) (toStr [])=(newD most,0):=rfl
  obtain⟨a1,a2⟩:=Qo h0 (C4 (k:=1) (by omega) (by omega)) rfl (by omega)
  have hk:mset (fun _=>none:ByteArray→Option Fb) (nSeg 1) (some ([],0)) nNew=none:=by unfold mset;rw[if_neg (fun e=>Eb (k:=1) (by omega) (by omega) e.symm)]
  obtain⟨b1,u',n',b2,b3,b4⟩:=T5 a2 hk (by omega) (b:=manB ⟨1,0,[]⟩) (by omega)
  have hkm:mset (fun _=>none:ByteArray→Option Fb) (nSeg 1) (some ([],0)) nMan=none:=by unfold mset;rw[if_neg (fun e=>Df (k:=1) (by omega) (by omega) e.symm)]
  rw[hkm] at b3 b4
  simp only[Option.map_none,Option.getD_none,if_true] at b3 b4
  have hn2:n'=2:=by omega
  subst hn2
  have hrun:runD openOps (newD most)=writeD (Bk (newD most) (nSeg 1)).1 (manB ⟨1,0,[]⟩):=by
    simp only[openOps,runD,Ep]
    rw[hcl,Er (r:=(newD most,0)) rfl,Er a1]
    unfold writeM
    rw[if_pos (Nu.2 hok)]
  have ho:=L7 (D:=newD most) (by rw[hrn])
  rw[ho,hrun]
  refine⟨b1,⟨⟨_,u',b2,?_,?_,?_,(by show u'=(manB ⟨1,0,[]⟩).length+0;omega)⟩,hok,rfl,(by intro c hc;cases hc),rfl,rfl⟩,rfl,rfl,rfl,rfl⟩
  · unfold mset;rw[if_pos rfl]
  · show mset _ nMan _ (nSeg 1) = _
    unfold mset;rw[if_neg (Df (k:=1) (by omega) (by omega)),if_pos rfl];rfl
  · intro k h1 h2
    unfold mset;rw[if_neg h1,if_neg h2]
theorem Rst.put {C:CS} {M i:Nat} (h:Rst C M i) {cs:List By} {ix:By} (hc:∀ c∈cs,c.length≤1048576) (hi:ix.length≤524288) (hM:M≤16777216)
    (hr:(manB ⟨C.seg,C.size,C.index⟩).length+C.size+(segB (Av C.L cs)).length+(manB ⟨C.seg,C.size+(segB (Av C.L cs)).length,ix⟩).length≤M) :
    (putC C cs ix).2=0∧Rst (putC C cs ix).1 M (i+6)∧(putC C cs ix).1.L=C.L++Av C.L cs∧(putC C cs ix).1.index=ix∧(putC C cs ix).1.seg=C.seg∧(putC C cs ix).1.size=C.size+(segB (Av C.L cs)).length:=by
  obtain⟨V,u,hv,h1,h2,h3,h4⟩:=h.ex
  have hlo:=h.ok.lo
  have hhi:=h.ok.hi
  simp only at hlo hhi
  have hns:=C4 hlo hhi
  have hmain:=Jq (C:=C) (cs:=cs) (ix:=ix) (by rw[h.dead];simp) (by rintro (e | ⟨c,hc1,hc2⟩);(· omega);(· have:=hc c hc1;omega))
  obtain⟨l,hl⟩:∃ l,l=Av C.L cs:=⟨_,rfl⟩
  rw[← hl] at hmain hr ⊢
  have hlc:∀ c∈l,c.length≤1048576:=fun c hcl=>hc c (by rw[hl] at hcl;exact(Dh cs C.L c hcl).2)
  have hok:(Mf.mk C.seg (C.size+(segB l).length) ix).Ok:=⟨hlo,hhi,by show C.size+_≤_;omega,hi⟩
  -- the first step
  have hp1:∃ D1 j,put1 C l=(D1,0)∧Vu D1 M j (mset V (nSeg C.seg) (some (segB (C.L++l),C.size+(segB l).length))) (u+(segB l).length) 2∧j≤i+2:=by
    have hsa:segB C.L++segB l=segB (C.L++l):=by unfold segB;rw[List.flatMap_append]
    by_cases he:l=[]
    · refine ⟨C.D, i, O1 he, ?_, by omega⟩
      have hV:mset V (nSeg C.seg) (some (segB (C.L++l),C.size+(segB l).length))=V:=by
        funext z;unfold mset
        split
        · rename_i e;subst e;rw[h2,he];simp[segB]
        · rfl
      rw[hV,he];exact hv
    · obtain ⟨a1, a2⟩ := Qp hv hns h2 (p := segB l) (by omega)
      obtain⟨b1,b2⟩:=Xt a2 hns (f:=(segB C.L++segB l,C.size)) (by unfold mset;rw[if_pos rfl])
      refine⟨(syncD (A4 C.D (nSeg C.seg) (segB l)).1 (nSeg C.seg)).1,i+2,?_,?_,Nat.le_refl _⟩
      · rw [L6 he]
        simp only[runD,Ep]
        rw[Er a1]
        exact Prod.ext rfl b1
      · have hV : mset (mset V (nSeg C.seg) (some (segB C.L ++ segB l, C.size))) (nSeg C.seg) (some (segB C.L ++ segB l, (segB C.L ++ segB l).length)) = mset V (nSeg C.seg) (some (segB (C.L ++ l), C.size + (segB l).length)) := by
          funext z;unfold mset
          split
          · rw[List.length_append,h.sz,hsa]
          · rfl
        rw[← hV];exact b2
  obtain⟨D1,j,hp,hv1,hj⟩:=hp1
  have hnn:mset V (nSeg C.seg) (some (segB (C.L++l),C.size+(segB l).length)) nNew=none:=by
    unfold mset;rw[if_neg (fun e=>Eb hlo hhi e.symm)];exact h3 _ (fun e=>Dv e.symm) (fun e=>Eb hlo hhi e.symm)
  obtain⟨w1,u',n',w2,w3,w4⟩:=T5 hv1 hnn (by omega) (b:=manB ⟨C.seg,C.size+(segB l).length,ix⟩) (by omega)
  have hmm:mset V (nSeg C.seg) (some (segB (C.L++l),C.size+(segB l).length)) nMan=some (manB ⟨C.seg,C.size,C.index⟩,(manB ⟨C.seg,C.size,C.index⟩).length):=by
    unfold mset;rw[if_neg (fun e=>Df hlo hhi e.symm)];exact h1
  rw[hmm] at w3 w4
  simp only[Option.map_some,Option.getD_some,reduceCtorEq,if_false] at w3 w4
  have hn2:n'=2:=by omega
  subst hn2
  have hR:putR C l ix=writeD D1 (manB ⟨C.seg,C.size+(segB l).length,ix⟩):=by
    unfold putR
    rw[hp]
    show writeM D1 _=_
    unfold writeM
    rw[if_pos (Nu.2 hok)]
  rw[hmain,hR,if_neg (by rw[w1];simp)]
  have w2:Vu (writeD D1 (manB ⟨C.seg,C.size+(segB l).length,ix⟩)).1 M (i+6) _ u' 2:=⟨⟨w2.up.good.mono (by omega),w2.up.down,w2.up.left,w2.up.most⟩,w2.v,w2.used,w2.len⟩
  refine⟨rfl,⟨⟨_,u',w2,?_,?_,?_,(by show u'=(manB ⟨C.seg,C.size+(segB l).length,ix⟩).length+(C.size+(segB l).length);omega)⟩,hok,?_,?_,h.dead,h.next⟩,rfl,rfl,rfl,rfl⟩
  · unfold mset;rw[if_pos rfl]
  · show mset _ nMan _ (nSeg C.seg) = _
    unfold mset;rw[if_neg (Df hlo hhi),if_pos rfl]
  · intro k e1 e2
    show mset _ nMan _ k=none
    unfold mset;rw[if_neg e1,if_neg e2];exact h3 k e1 e2
  · show (segB (C.L ++ l)).length = C.size + (segB l).length
    have e:segB (C.L++l)=segB C.L++segB l:=by unfold segB;rw[List.flatMap_append]
    rw[e,List.length_append,h.sz]
  · intro c hcl
    rcases List.mem_append.1 hcl with e | e
    · exact h.cl c e
    · exact hlc c e
theorem Rst.cn {C:CS} {M i:Nat} (h:Rst C M i) (hM:M≤16777216) (hl:C.L.length≤4194304):CN C i:=by
  obtain⟨V,u,hv,h1,h2,h3,h4⟩:=h.ex
  have:=h.ok.ix
  have:=h.ok.sz
  exact⟨hv.up.good,h.ok.hi,(by have:=h.ok.sz;simp only at this;omega),(by simp only at *;omega),(fun g z e=>by rw[h.next] at e;cases e),hl,h.cl⟩
theorem Gx {m:Mf} (h:m.Ok):(manB m).length≤m.index.length+35:=by
  have h1:=Ed (n:=m.seg) (by have:=h.hi;omega)
  have h2:=Ed (n:=m.size) (by have:=h.sz;omega)
  have h3:=Ow 3 (Dj m) (Im h)
  have h4:(Dj m).length=(lebU m.seg).length+((lebU m.size).length+m.index.length):=by simp[Dj]
  unfold manB
  omega
theorem Abb:(Mf.mk 1 0 []).Ok:=⟨by show 1≤1;omega,by show 1≤999999;omega,by show 0≤_;omega,by show 0≤_;omega⟩
theorem Ri:(manB ⟨1,0,[]⟩).length≤35:=Gx Abb
theorem V1:(segB [[97]]).length=7:=by
  have h:=Aei
  unfold segB
  rw[h];exact Aeh
theorem Acs {C:CS} (h:Rst C 1000 5) (hL:C.L=[]) (hz:C.size=0) (hi:C.index=[]) (hs:C.seg=1) :
    (putC C [[97]] [105]).2=0∧Rst (putC C [[97]] [105]).1 1000 11∧(putC C [[97]] [105]).1.L=[[97]]∧(putC C [[97]] [105]).1.index=[105]∧(putC C [[97]] [105]).1.size=7:=by
  have hok:(Mf.mk 1 7 [105]).Ok:=⟨by show 1≤1;omega,by show 1≤999999;omega,by show 7≤_;omega,by show 1≤_;omega⟩
  have hm:=Gx hok
  have hf:=Ri
  have e:Av C.L [[97]]=[[97]]:=by rw[hL];rfl
  simp only[List.length_cons,List.length_nil] at hm
  obtain⟨a,b,c,d,_,f⟩:=h.put (cs:=[[97]]) (ix:=[105]) (by intro x hx;simp only[List.mem_singleton] at hx;subst hx;show 1≤_;omega) (by show 1≤_;omega) (by omega) (by rw[e,V1,hz,hi,hs,show 0+7=7 from rfl];omega)
  rw[e] at c f
  exact⟨a,b,by rw[c,hL];rfl,d,by rw[f,hz,V1]⟩
end Go.Proofs.Eng
end
section
set_option maxRecDepth 100000
set_option maxHeartbeats 4000000
namespace Go.Proofs.Eng
open Go.RowKit
open Extern.Stop (cell)
theorem Ip (w:World) (hg:Gt w) :
    Ret Tryz.prog 11 [] w (fun v w'=>v = .bool true∧Ext w w'):=by
 have hgs:=hg.size
 have hX:=Ext.refl w
 refine eN 65 Tryz.func11 ?_
 refine Ab (Aa ?_)
 refine pA (Ac (t_n (Ab (Aa ?_))))
 have hXs1:=hX.size
 refine Ah Tryz.func13 fn13 fb13 (Vp 1000 _) rfl ?_
 rintro v1 w1 ⟨⟨gd,rfl,hD⟩,hE1⟩
 have hX:=hX.ext hE1
 have hg:=hg.ext hE1
 have hD:Dsk (since w) _ gd (newD 1000):=hD.mono (fun k _ h=>h.elim False.elim fun q=>Nat.le_trans hXs1 q.1)
 refine pA (Ac (t_n (Ab (Aa ?_))))
 refine pM ?_
 have hXs:=hX.size
 refine Ah Tryz.func12 fn12 fb12 (F4 gd (since w) (newD 1000) _ hD (Sz 1000) (by show 0<_;omega) (by show (-1:Int)≤_;omega) (fun x hx=>by cases hx) (fun k h=>Nat.le_trans hgs (show w.heap.size≤k from h)) hg) rfl ?_
 rintro v2 w2 ⟨⟨pv2,rfl,hor2⟩,hM2⟩
 obtain⟨hn1,hn2,hn3,hn4,hn5,hn6⟩:=Abg (most:=1000) (M:=1000) (by rfl) (by have:=Ri;omega)
 obtain⟨ho2,g,rfl,hC⟩:=hor2.resolve_right (fun h=>h.1 hn1)
 rw[ho2]
 obtain⟨C1,hC1⟩:∃ c,c=(openC (newD 1000)).1:=⟨_,rfl⟩
 rw[← hC1] at hC hn2 hn3 hn4 hn5 hn6
 have hX:=hX.modS hM2 (B3 w)
 have hg:=hg.modS hM2 (fun k h=>Nat.le_trans hgs (show w.heap.size≤k from h))
 have hC:=hC.sub (w:=w) (fun j h=>h.elim (fun h=>h) fun q=>Nat.le_trans hXs q.1)
 obtain⟨Z,hZ⟩:∃ z,z=w2.heap.size:=⟨_,rfl⟩
 rw[← hZ] at hC
 have hXZ:=Ext.refl w2
 have hwZ:=hX.size
 obtain⟨hp1,hp2,hp3,hp4,hp5⟩:=Acs hn2 hn3 hn4 hn5 hn6
 refine pM ?_
 refine p1 (Ao rfl rfl) ?_
 refine p1 (Ao rfl rfl) ?_
 refine pA (pA (Ac (t_n (Ab (Ab (Aa ?_))))))
 refine pM ?_
 refine p1 ((A2 rfl rfl).cast (congrArg Value.bool (decide_eq_false (by simp)))) ?_
 refine pM (gM 13 ?_)
 refine g1 13 rfl rfl ((Bb u30 rfl rfl).cast (congrArg Value.bool (decide_eq_false (by simp)))) ?_
 refine p1 (Aq rfl (by conv=>lhs;whnf)) ?_
 refine pM (gM 17 ?_)
 refine B8 17 rfl rfl ?_
 refine Au u23 inf5 rfl (by decide) (fun base hb=>Cj (by rfl) base hb) ?_
 intro w3 g19 hN19
 have hN19:New _ _ g19 ([(97:UInt8)].map fun b=>[cell b]).flatten.toArray 5:=hN19
 have hg19:=hN19.g_eq
 have hZs:=hXZ.size
 have hO19:Own kByte 5 0 0 w3 (some ⟨g19,0,none⟩) 1 1 [(97:UInt8)]:=Cw (B0:=0) [(97:UInt8)] hN19 (Nat.zero_le _) (by simp)
 have hJ19:=hO19.sl
 have hE3:=hN19.ext
 have hX:=hX.ext hE3
 have hXZ:=hXZ.ext hE3
 refine B8 17 rfl rfl ?_
 refine U1 u23 u5 rfl hN19.blk ?_
 intro w4 hO4 hR4
 have hX:=hX.mod (hO4.mod (B:=w.heap.size) (by omega)) (Nat.le_refl _)
 have hXZ:=hXZ.mod (hO4.mod (B:=Z) (by omega)) (by omega)
 have hs19:=(slx hJ19 hR4).re (Nat.le_refl _) 5
 have ho19:=X4 (w:=w) (Z:=Z) hs19 rfl (by omega)
 refine B8 17 rfl rfl ?_
 refine Au u22 inf23 rfl (by decide) (fun base hb=>Cj (by rfl) base hb) ?_
 intro w5 g21 hN21
 have hB21:=hN21.blk
 have hE5:=hN21.ext
 have hs19:=hs19.ext hE5
 have hX:=hX.ext hE5
 have hXZ:=hXZ.ext hE5
 refine B8 17 rfl rfl ?_
 refine Au u23 inf5 rfl (by decide) (fun base hb=>Cj (by rfl) base hb) ?_
 intro w6 g22 hN22
 have hN22:New _ _ g22 ([(105:UInt8)].map fun b=>[cell b]).flatten.toArray 5:=hN22
 have hg22:=hN22.g_eq
 have hZs:=hXZ.size
 have hO22:Own kByte 5 0 0 w6 (some ⟨g22,0,none⟩) 1 1 [(105:UInt8)]:=Cw (B0:=0) [(105:UInt8)] hN22 (Nat.zero_le _) (by simp)
 have hJ22:=hO22.sl
 have hE6:=hN22.ext
 have hX:=hX.ext hE6
 have hXZ:=hXZ.ext hE6
 have hB21:=hB21.ext hE6
 refine B8 17 rfl rfl ?_
 refine U1 u23 u5 rfl hN22.blk ?_
 intro w7 hO7 hR7
 have hX:=hX.mod (hO7.mod (B:=w.heap.size) (by omega)) (Nat.le_refl _)
 have hXZ:=hXZ.mod (hO7.mod (B:=Z) (by omega)) (by omega)
 have hs22:=(slx hJ22 hR7).re (Nat.le_refl _) 5
 have ho22:=X4 (w:=w) (Z:=Z) hs22 rfl (by omega)
 have hs19:=(slx (hs19.ext hN22.ext) hR7).re (Nat.le_refl _) 5
 have hB21:=hB21.one hO7 (by decide)
 have hkl:=Add hB21 hs19
 refine B8 17 rfl rfl ?_
 obtain⟨Sd,r,μ,pi,ni,ci,nx,hCX⟩:=hC.ext hXZ
 refine Ah Tryz.func14 fn14 fb14 (Qv g gd r (sub w Z) Sd μ pi nx ni ci C1 5 _ hCX (hn2.cn (by omega) (by rw[hn3];simp)) (fun j h=>Nat.le_trans hgs h.1) (hg.ext hXZ) (by omega) [[97]] _ _ _ _ hkl (Nat.le_refl _) (by omega) [105] _ _ _ ho22) rfl ?_
 rintro v8 w8 ⟨rfl,hC,hM8⟩
 rw[hp1]
 have hX:=hX.modS hM8 (fun k h=>h.1)
 have hg:=(hg.ext hXZ).modS hM8 (fun j h=>Nat.le_trans hgs h.1)
 obtain⟨C2,hC2⟩:∃ c,c=(putC C1 [[97]] [105]).1:=⟨_,rfl⟩
 rw[← hC2] at hC hp2 hp3 hp4 hp5
 obtain⟨Sd,r,μ,pi,ni,ci,nx,hCX⟩:=hC
 have hXs3:=hXZ.size
 have hD:Dsk (since w) _ gd C2.D:=hCX.d.mono (fun j _ h=>(hCX.sub j h).elim (fun h=>h.1) fun q=>by show w.heap.size≤j;have:=q.1;omega)
 have hU:=hp2.cn (by omega) (by rw[hp3];simp)
 refine g1 17 rfl rfl ((A2 rfl rfl).cast (congrArg Value.bool (decide_eq_false (by simp)))) ?_
 refine p1 (Aq rfl (by conv=>lhs;whnf)) ?_
 refine Ac (t_n ?_)
 refine c_f rfl ?_
 refine Ai (t_n (Ab (Aa ?_)))
 refine pM ?_
 have hXs:=hX.size
 refine Ah Tryz.func12 fn12 fb12 (F4 gd (since w) C2.D _ hD hU.good.ok (Nat.lt_of_le_of_lt hU.good.steps (by omega)) hU.good.left hU.good.names (fun k h=>Nat.le_trans hgs (show w.heap.size≤k from h)) hg) rfl ?_
 rintro v9 w9 ⟨⟨pv9,rfl,hor9⟩,hM9⟩
 obtain⟨ho3,g2,rfl,hC⟩:=hor9.resolve_right (fun h=>h.1 (by rw[hp2.open]))
 rw[ho3]
 rw[hp2.open] at hC
 have hX:=hX.modS hM9 (B3 w)
 obtain⟨Se,r2,μ2,pi2,ni2,ci2,nx2,hCX⟩:=hC
 refine pM ?_
 refine p1 (Ao rfl rfl) ?_
 refine p1 (Ao rfl rfl) ?_
 refine pA (pA (Ac (t_n (Ab (Aa ?_)))))
 refine pM ?_
 refine p1 ((Bn rfl rfl).cast (congrArg Value.bool (decide_eq_true (rfl)))) ?_
 refine pM (gM 34 ?_)
 refine g1 34 rfl rfl ((Kt u30 rfl rfl).cast (congrArg Value.bool (decide_eq_true (by simp)))) ?_
 refine p1 (Ap rfl (by conv=>lhs;whnf)) ?_
 refine pM (gM 38 ?_)
 refine B8 38 rfl rfl ?_
 refine Ah Tryz.func31 fn31 fb31 (Ie g2 gd r2 _ Se μ2 pi2 nx2 ni2 ci2 C2 11 _ hCX hU) rfl ?_
 rintro v10 w10 ⟨⟨qi,mi,cj,rfl,hO⟩,hE10⟩
 have hX:=hX.ext hE10
 have hCX:=hCX.ext hE10
 rw[hp4] at hO
 refine g1 38 rfl rfl (A7 u23 u5 u9 rfl hO.sl) ?_
 refine g1 38 rfl rfl ((Fe rfl (show _=Value.string (toStr [105]) from rfl)).cast (congrArg Value.bool (decide_eq_true (rfl)))) ?_
 refine p1 (Ap rfl (by conv=>lhs;whnf)) ?_
 refine pM (gM 44 ?_)
 refine B8 44 rfl rfl ?_
 refine Ah Tryz.func15 fn15 fb15 (Wg g2 gd r2 _ Se μ2 pi2 nx2 ni2 ci2 C2 11 _ hCX hU) rfl ?_
 rintro v11 w11 ⟨rfl,hE11⟩
 have hX:=hX.ext hE11
 have hCX:=hCX.ext hE11
 refine g1 44 rfl rfl ((Bn rfl rfl).cast (congrArg Value.bool (decide_eq_true (by rw[hp5];rfl)))) ?_
 refine p1 (Ap rfl (by conv=>lhs;whnf)) ?_
 refine pM (gM 49 ?_)
 refine B8 49 rfl rfl ?_
 refine Ah Tryz.func30 fn30 fb30 (Hx g2 gd r2 _ Se μ2 pi2 nx2 ni2 ci2 C2 11 _ hCX hU) rfl ?_
 rintro v12 w12 ⟨⟨qk,mk,ck,rfl,hK⟩,hE12⟩
 have hX:=hX.ext hE12
 have hkl:=hK.len
 rw[hp3] at hkl
 have hk1:mk=1:=hkl.symm
 refine g1 49 rfl rfl (Aj u54 rfl) ?_
 refine g1 49 rfl rfl ((Bn rfl rfl).cast (congrArg Value.bool (decide_eq_true (by rw[hk1];rfl)))) ?_
 refine p1 (Ap rfl (by conv=>lhs;whnf)) ?_
 refine pM ?_
 refine p1 (Ap rfl (by conv=>lhs;whnf)) ?_
 refine pM ?_
 refine p1 (Ap rfl (by conv=>lhs;whnf)) ?_
 refine pM ?_
 refine p1 (Ap rfl (by conv=>lhs;whnf)) ?_
 refine pM ?_
 refine p1 (Ap rfl (by conv=>lhs;whnf)) ?_
 refine pM ?_
 refine p1 (Ap rfl (by conv=>lhs;whnf)) ?_
 refine pA (Ac (t_n (Ak ?_)))
 refine eR1 ?_
 exact⟨rfl,hX⟩
end Go.Proofs.Eng
end
