import Derived.Test.YtlmfpocifkpggaaGreatDoorOp4
set_option linter.unusedVariables false
set_option linter.unusedSimpArgs false
set_option linter.unusedSectionVars false
section
set_option maxRecDepth 100000
set_option maxHeartbeats 4000000
namespace Go.Proofs.Eng
open Go.RowKit
open Extern.Stop (cell)
theorem W6 (fs:List Clo) (I:Nat→World→Prop) (Q:Int→World→Prop) (B:Nat) (p:Option Addr) (n c:Nat) (w:World) (h0:I 0 w) (hl:∀ i w',I i w'→Sl kFn 95 B w' p n c fs)
    (hfs : ∀ i, i < n → ∃ fn, Tryz.prog.funcs[(fs.getD i default).1]? = some fn ∧ (fn.name == "runtime.NumGoroutine") = false ∧ fn.body.isNone = false ∧ ∀ w1, I i w1 → Ret Tryz.prog (fs.getD i default).1 (fs.getD i default).2 w1 (fun v w' => ∃ e : Int, v = .int .i64 e ∧ (e = 0 → I (i + 1) w') ∧ (e ≠ 0 → Q e w'))) :
    Ret Tryz.prog 45 [.slice p n c] w (fun v w'=>∃ e:Int,v = .int .i64 e∧(e=0→I n w')∧(e≠0→Q e w')):=by
 have hX:=h0
 refine eN 18 Tryz.func45 ?_
 refine Ab (Aa ?_)
 refine pA (Ac (t_n (Ab (Ab (Aa ?_)))))
 refine pM ?_
 refine p1 (Ar u149 rfl) ?_
 refine pM (Ac (t_n (Ap ?_)))
 have hlen:=(hl 0 w h0).len
 have hcap:=(hl 0 w h0).cap
 have hfit:=(hl 0 w h0).fit
 refine Bc (ι:=Nat) ([2,4,5]++rg 8 10) (fun k=>[(8,.int .i64 (k:Int))]) (fun k w'=>I k w'∧(k≤n)) (fun k=>n - k) (0) ⟨rfl,trivial⟩ ⟨hX,by omega⟩ ?_
 rintro k GL0 w1 ⟨hE1,hk⟩
 have hX:=hE1
 refine Ab (Aa ?_)
 refine p1 (Bi rfl rfl) ?_
 refine Ac (t_n (Ab ?_))
 refine As rfl (fun hc9=>?_) (fun hc9=>?_)
 ·refine Ak (t_n (Ab (Ap (Ab (Aa ?_)))))
  refine p1 (Cr u149 sz95 rfl rfl ((hl _ _ hX).adr Adj (by omega)) (by omega)) ?_
  refine p1 (Ae un95 rfl ((hl _ _ hX).fnAt _ (by omega))) ?_
  refine pA (Ac (t_n (Ab (Aa ?_))))
  refine pM ?_
  obtain⟨fn,hf,hnm,hbd,hcall⟩:=hfs k (by omega)
  refine Li (fs:=[]) (cs:=(fs.getD k default).2) rfl hf hnm hbd rfl rfl (hcall _ hX) ?_
  rintro v2 w2 ⟨e,rfl,hI1,hQ1⟩
  refine pA (Ac (t_n (Ab (Aa ?_))))
  refine pM ?_
  refine p1 (A2 rfl rfl) ?_
  refine Ac (t_n ?_)
  refine As rfl (fun hc15=>?_) (fun hc15=>?_)
  ·refine Ab (Aa ?_)
   refine pM (pA (Ac (t_n (Ao (b_r (t_r (t_r (b_r (t_r ?_)))))))))
   refine eR1 ?_
   exact⟨e,rfl,fun h=>absurd h hc15,hQ1⟩
  have hX:=hI1 (by omega)
  refine Ak (b_n (t_n (Aa ?_)))
  refine p1 (A0 rfl rfl (Am (by omega) (by omega))) ?_
  refine pM (Ac ?_)
  refine t_n (aK (k+1) ⟨rfl,trivial⟩ ?_)
  exact⟨⟨hX,by omega⟩,by((show _<_);omega)⟩
 refine A8 (t_e (t_e (Bq (t_n (Ab (Aa ?_))))))
 refine pA (Ac (t_n (Ao ?_)))
 refine eR1 ?_
 exact⟨0,rfl,fun _=>by rw[show n=k from by omega];exact hX,fun h=>absurd rfl h⟩
theorem grow2 {S:Nat→Prop} {w w1 w':World} (h1:w.heap.size≤w1.heap.size) (h2:w1.heap.size≤w'.heap.size):∀ k,k<w'.heap.size→grow (grow S w w1) w1 w' k→grow S w w' k:=fun k hk hg=>by
  rcases hg with (hs | ⟨a,b⟩) | ⟨a,b⟩
  · exact .inl hs
  · exact .inr ⟨a,by omega⟩
  · exact .inr ⟨by omega,b⟩
theorem Qe (fs:List Clo) (ops:List (DS→DS×Int)) (κ:Nat→Nat) (gd:Nat) (S:Nat→Prop) (D:DS) (p:Option Addr) (n c:Nat) (w:World) (hD:Dsk S w gd D) (hg:DG D (κ 0)) (hl:Sl kFn 95 0 w p n c fs) (ho:ops.length=n)
    (hfs : ∀ i, i < n → ∃ fn, Tryz.prog.funcs[(fs.getD i default).1]? = some fn ∧ (fn.name == "runtime.NumGoroutine") = false ∧ fn.body.isNone = false ∧ ∀ Di w1, Dsk (grow S w w1) w1 gd Di → ModS S ED w w1 → DG Di (κ i) →
      Ret Tryz.prog (fs.getD i default).1 (fs.getD i default).2 w1 (fun v w'=>v = .int .i64 ((ops.getD i fun D=>(D,0)) Di).2∧Dsk (grow (grow S w w1) w1 w') w' gd ((ops.getD i fun D=>(D,0)) Di).1∧ModS (grow S w w1) ED w1 w'∧DG ((ops.getD i fun D=>(D,0)) Di).1 (κ (i+1)))) :
    Ret Tryz.prog 45 [.slice p n c] w (fun v w'=>v = .int .i64 (runD ops D).2∧Dsk (grow S w w') w' gd (runD ops D).1∧ModS S ED w w'):=by
  refine⟨Calls.mono (W6 fs (fun i w'=>∃ Di,Dsk (grow S w w') w' gd Di∧ModS S ED w w'∧DG Di (κ i)∧runD ops D=runD (ops.drop i) Di) (fun e w'=>e=(runD ops D).2∧Dsk (grow S w w') w' gd (runD ops D).1∧ModS S ED w w') 0 p n c w
    ⟨D,hD.grown w,.refl _ _ _,hg,rfl⟩ (fun i w' ⟨Di,_,m,_⟩=>hl.modS m (fun _ _=>Nat.zero_le _) (by decide)) fun i hi=>?_).out ?_⟩
  · obtain ⟨fn, h1, h2, h3, h4⟩ := hfs i hi
    refine⟨fn,h1,h2,h3,fun w1 ⟨Di,hDi,m,hgi,hr⟩=>⟨Calls.mono (h4 Di w1 hDi m hgi).out ?_⟩⟩
    rintro e w' ⟨v,rfl,rfl,hD',m',hg'⟩
    have hd:=Yr (ops:=ops) (i:=i) (by omega) Di
    have hD2:Dsk (grow S w w') w' gd ((ops.getD i fun D=>(D,0)) Di).1:=hD'.mono (grow2 m.size m'.size)
    refine⟨_,rfl,_,rfl,fun h0=>⟨_,hD2,m.step m',hg',?_⟩,fun h0=>?_⟩
    · rw[hr,hd,andD,if_pos h0]
    · have : runD ops D = (ops.getD i fun D => (D, 0)) Di := by rw [hr, hd, andD, if_neg h0]
      rw[this];exact⟨rfl,hD2,m.step m'⟩
  · rintro e w' ⟨v, rfl, e', rfl, h1, h2⟩
    refine⟨_,rfl,?_⟩
    by_cases h0:e'=0
    · obtain ⟨Di, a, b, _, hr⟩ := h1 h0
      have hz:ops.drop n=[]:=List.drop_eq_nil_of_le (by omega)
      rw[hz] at hr
      rw[hr,h0];exact⟨rfl,a,b⟩
    · obtain ⟨a, b, c⟩ := h2 h0
      rw[a];exact⟨rfl,b,c⟩
theorem Acm (gd:Nat) (S:Nat→Prop) (D:DS) (w:World) (hD:Dsk S w gd D) (hok:DOk D) (hst:D.steps<4611686018427387904) (hle:D.left≤9223372036854775807) (hnm:∀ x∈D.l,Bg x.1=true) (b0:Nat) (hb0:Blk w b0 #[.pointer (some ⟨gd,0,none⟩)] 34) :
    Ret Tryz.prog 98 [.pointer (some ⟨b0,0,none⟩)] w (fun v w'=>v = .int .i64 (A9 D nNew).2∧Dsk (grow S w w') w' gd (A9 D nNew).1∧ModS S ED w w'):=by
 have hX:=Ext.refl w
 refine eN 4 Tryz.func98 ?_
 refine Ab (Aa ?_)
 refine pA (Ac (t_n (Ab (Aa ?_))))
 refine p1 (Ae un34 rfl (hb0.cell (rfl))) ?_
 have hXs:=hX.size
 refine oC Tryz.func18 (Ji gd S D _ hD hok hst hle nNew (by decide)) ?_
 rintro v1 w1 ⟨rfl,hD2,hM2⟩
 refine pA (Ac (t_n (Ao ?_)))
 refine eR1 ?_
 exact⟨rfl,hD2.wide hXs,(ModS.ofExt hX).trans hM2 (fun _ _ h=>h)⟩
theorem Ack (gd:Nat) (S:Nat→Prop) (D:DS) (w:World) (hD:Dsk S w gd D) (hok:DOk D) (hst:D.steps<4611686018427387904) (hle:D.left≤9223372036854775807) (hnm:∀ x∈D.l,Bg x.1=true) (b0:Nat) (hb0:Blk w b0 #[.pointer (some ⟨gd,0,none⟩)] 34) :
    Ret Tryz.prog 100 [.pointer (some ⟨b0,0,none⟩)] w (fun v w'=>v = .int .i64 (syncD D nNew).2∧Dsk (grow S w w') w' gd (syncD D nNew).1∧ModS S ED w w'):=by
 have hX:=Ext.refl w
 refine eN 4 Tryz.func100 ?_
 refine Ab (Aa ?_)
 refine pA (Ac (t_n (Ab (Aa ?_))))
 refine p1 (Ae un34 rfl (hb0.cell (rfl))) ?_
 have hXs:=hX.size
 refine oC Tryz.func20 (Mx gd S D _ hD hok hst hle nNew (by decide)) ?_
 rintro v1 w1 ⟨rfl,hD2,hM2⟩
 refine pA (Ac (t_n (Ao ?_)))
 refine eR1 ?_
 exact⟨rfl,hD2.wide hXs,(ModS.ofExt hX).trans hM2 (fun _ _ h=>h)⟩
theorem Acj (gd:Nat) (S:Nat→Prop) (D:DS) (w:World) (hD:Dsk S w gd D) (hok:DOk D) (hst:D.steps<4611686018427387904) (hle:D.left≤9223372036854775807) (hnm:∀ x∈D.l,Bg x.1=true) (b0:Nat) (hb0:Blk w b0 #[.pointer (some ⟨gd,0,none⟩)] 34) :
    Ret Tryz.prog 101 [.pointer (some ⟨b0,0,none⟩)] w (fun v w'=>v = .int .i64 (Bv D nNew nMan).2∧Dsk (grow S w w') w' gd (Bv D nNew nMan).1∧ModS S ED w w'):=by
 have hX:=Ext.refl w
 refine eN 4 Tryz.func101 ?_
 refine Ab (Aa ?_)
 refine pA (Ac (t_n (Ab (Aa ?_))))
 refine p1 (Ae un34 rfl (hb0.cell (rfl))) ?_
 have hXs:=hX.size
 refine oC Tryz.func102 (U7 gd S D _ hD hok hst hle nNew nMan (by decide) (by decide)) ?_
 rintro v1 w1 ⟨rfl,hD2,hM2⟩
 refine pA (Ac (t_n (Ao ?_)))
 refine eR1 ?_
 exact⟨rfl,hD2.wide hXs,(ModS.ofExt hX).trans hM2 (fun _ _ h=>h)⟩
theorem Acl (gd:Nat) (S:Nat→Prop) (D:DS) (w:World) (hD:Dsk S w gd D) (hok:DOk D) (hst:D.steps<4611686018427387904) (hle:D.left≤9223372036854775807) (hnm:∀ x∈D.l,Bg x.1=true) (b0 b1 e B:Nat) (p:Option Addr) (n c:Nat) (ys:By) (hb0:Blk w b0 #[.pointer (some ⟨gd,0,none⟩)] 34) (hb1:Blk w b1 #[.slice p n c] 23) (hl:Sl kByte e B w p n c ys) :
    Ret Tryz.prog 99 [.pointer (some ⟨b0,0,none⟩),.pointer (some ⟨b1,0,none⟩)] w (fun v w'=>v = .int .i64 (Bm D nNew ys).2∧Dsk (grow S w w') w' gd (Bm D nNew ys).1∧ModS S ED w w'):=by
 have hX:=Ext.refl w
 refine eN 6 Tryz.func99 ?_
 refine Ab (Aa ?_)
 refine pA (Ac (t_n (Ab (Aa ?_))))
 refine p1 (Ae un34 rfl (hb0.cell (rfl))) ?_
 refine p1 (Ae un23 rfl (hb1.cell (rfl))) ?_
 have hXs:=hX.size
 refine oC Tryz.func19 (Jj gd S D _ hD hok hst hle nNew (by decide) e B _ _ _ _ hl) ?_
 rintro v1 w1 ⟨rfl,hD2,hM2⟩
 refine pA (Ac (t_n (Ao ?_)))
 refine eR1 ?_
 exact⟨rfl,hD2.wide hXs,(ModS.ofExt hX).trans hM2 (fun _ _ h=>h)⟩
theorem Ret.and {P:Program} {g:FuncId} {as_:List Value} {w:World} {R:Value→World→Prop} {Q:Prop} (h:Ret P g as_ w R) (hq:Q):Ret P g as_ w (fun v w'=>R v w'∧Q) :=
  ⟨Calls.mono h.out fun e w' ⟨v,h1,h2⟩=>⟨v,h1,h2,hq⟩⟩
theorem Ret.imp {P:Program} {g:FuncId} {as_:List Value} {w:World} {R R':Value→World→Prop} (h:Ret P g as_ w R) (hq:∀ v w',R v w'→R' v w'):Ret P g as_ w R' :=
  ⟨Calls.mono h.out fun e w' ⟨v,h1,h2⟩=>⟨v,h1,hq _ _ h2⟩⟩
theorem Ret.dg {P:Program} {g:FuncId} {as_:List Value} {w:World} {A:Value→World→Prop} {B C:World→Prop} {Q:Prop} (h:Ret P g as_ w (fun v w'=>A v w'∧B w'∧C w')) (hq:Q):Ret P g as_ w (fun v w'=>A v w'∧B w'∧C w'∧Q) :=
  h.imp fun _ _ ⟨a,b,c⟩=>⟨a,b,c,hq⟩
theorem It (gd:Nat) (S:Nat→Prop) (D:DS) (w:World) (hD:Dsk S w gd D) (hok:DOk D) (hst:D.steps<4611686018427380000) (hle:D.left≤9223372036854775807) (hnm:∀ x∈D.l,Bg x.1=true) (s z:Nat) (xs:By) (e B:Nat) (p:Option Addr) (n c:Nat) (hl:Sl kByte 5 B w p n c xs) (hq:Qt w) :
    Ret Tryz.prog 51 [.pointer (some ⟨gd,0,none⟩),.agg #[.int .i64 (s:Int),.int .i64 (z:Int),.slice p n c]] w (fun v w'=>v = .int .i64 (writeM D ⟨s,z,xs⟩).2∧Dsk (grow S w w') w' gd (writeM D ⟨s,z,xs⟩).1∧ModS S ED w w'):=by
 have hD:=hD.narrow (Nat.le_refl _)
 have hX:=Ext.refl w
 refine eN 21 Tryz.func51 ?_
 refine Ab (Aa ?_)
 have hz2:=hX.size
 refine D9 (by conv=>lhs;whnf) rfl ?_
 intro w1 g2 hN2
 have hE1:=hN2.ext
 have hX:=hX.ext hE1
 have hD:=hD.ext hE1
 have hB2:=hN2.blk
 have hq2:=hN2.g_eq
 have hz3:=hX.size
 have hl3_2:=hB2.lt
 refine Bu (by conv=>lhs;whnf) ?_
 intro w2 g3 hN3
 have hE2:=hN3.ext
 have hX:=hX.ext hE2
 have hD:=hD.ext hE2
 have hB2:=hB2.ext hE2
 have hB3:=hN3.blk
 have hq3:=hN3.g_eq
 refine pA (Ac (t_n (Ab (Aa ?_))))
 refine p1 (Aq ua99 rfl hB3 (by exact sz99)) ?_
 have hXw:=hX.size
 refine oC Tryz.func97 (Lm (s:Int) (z:Int) xs _ _ _ _ _ (hl.ext hX) (hq.ext hX)) ?_
 rintro v3 w3 ⟨⟨qp,mp,cp,ep,rfl,hpe,hP⟩,hE3⟩
 have hX:=hX.ext hE3
 have hD:=hD.ext hE3
 have hB2:=hB2.ext hE3
 have hB3:=hB3.ext hE3
 have hPx:∀ w2,Ext w3 w2→ep=0→Own kByte 5 0 w.heap.size w2 qp mp cp (manB ⟨s,z,xs⟩):=fun w2 hx he=>by
   obtain⟨_,s2,z2,hs2,hz2,_,hOw⟩:=hP.resolve_right (fun h=>h.1 he)
   have e1:s2=s:=by omega
   have e2:z2=z:=by omega
   subst e1 e2
   exact(hOw.lower hXw).ext hx
 have hG:=Ext.refl w3
 refine pM ?_
 refine p1 (Aj rfl rfl) ?_
 refine p1 (Aj rfl rfl) ?_
 have hz5:=hX.size
 have hl5_2:=hB2.lt
 have hl5_3:=hB3.lt
 refine Ay zr23 ?_
 intro w4 g5 hN5
 have hE4:=hN5.ext
 have hX:=hX.ext hE4
 have hD:=hD.ext hE4
 have hB2:=hB2.ext hE4
 have hB3:=hB3.ext hE4
 have hG:=hG.ext hE4
 have hB5:=hN5.blk
 have hq5:=hN5.g_eq
 refine Aw rfl (by conv=>lhs;whnf) rfl rfl sz23 hB5 (by exact Nat.zero_lt_one) ?_
 intro w5 hP5
 have hX:=hX.put hP5 (by omega)
 have hD:=hD.modT (hP5.mod 0 (Nat.zero_le _)) (by decide)
 have hB2:=hP5.keep hB2 (by omega)
 have hB3:=hP5.keep hB3 (by omega)
 have hG:=hG.put hP5 (by omega)
 have hB5:=hP5.blk
 try simp only[List.setIfInBounds_toArray,List.set_cons_zero,List.set_cons_succ] at hB5
 refine pA (Ac (t_n (Ab (Ab (Aa ?_)))))
 refine pM ?_
 refine p1 (A2 rfl rfl) ?_
 refine Ac (t_n ?_)
 refine As rfl (fun hc13=>?_) (fun hc13=>?_)
 ·have hpw:writeM D ⟨s,z,xs⟩=(D,errM s z xs):=by unfold writeM;rw[if_neg (by rw[← hpe];exact hc13)]
  refine Ab (Aa ?_)
  refine pM (pA (Ac (t_n (Ao (t_r ?_)))))
  refine eR1 ?_
  exact⟨by rw[hpw,hpe],by rw[hpw];exact hD.mono (fun k _ h => .inl h.1),ModS.ofExt hX⟩
 have he0:ep=0:=by omega
 have hpw:writeM D ⟨s,z,xs⟩=writeD D (manB ⟨s,z,xs⟩):=by unfold writeM;rw[if_pos (by rw[← hpe];exact he0)]
 refine Ak (t_n (Ab (Aa ?_)))
 refine p1 (Ch (fs:=[]) (cs:=[.pointer (some ⟨g2,0,none⟩)]) rfl rfl) ?_
 refine p1 (Ch (fs:=[]) (cs:=[.pointer (some ⟨g2,0,none⟩),.pointer (some ⟨g5,0,none⟩)]) rfl rfl) ?_
 refine p1 (Ch (fs:=[]) (cs:=[.pointer (some ⟨g2,0,none⟩)]) rfl rfl) ?_
 refine p1 (Ch (fs:=[]) (cs:=[.pointer (some ⟨g2,0,none⟩)]) rfl rfl) ?_
 refine Av u149 inf95 rfl (by decide) (fun base hb=>Ed [fcv (98,[.pointer (some ⟨g2,0,none⟩)]),fcv (99,[.pointer (some ⟨g2,0,none⟩),.pointer (some ⟨g5,0,none⟩)]),fcv (100,[.pointer (some ⟨g2,0,none⟩)]),fcv (101,[.pointer (some ⟨g2,0,none⟩)])] (by intro v hv';simp only[List.mem_cons,List.not_mem_nil,or_false] at hv';rcases hv' with rfl | rfl | rfl | rfl <;> rfl) base hb) ?_
 intro w6 g19 hN19
 have hE6:=hN19.ext
 have hX:=hX.ext hE6
 have hD:=hD.ext hE6
 have hB2:=hB2.ext hE6
 have hG:=hG.ext hE6
 have hB5:=hB5.ext hE6
 have hS19:Sl kFn 95 0 w6 (some ⟨g19,0,none⟩) 4 4 [(98,[.pointer (some ⟨g2,0,none⟩)]),(99,[.pointer (some ⟨g2,0,none⟩),.pointer (some ⟨g5,0,none⟩)]),(100,[.pointer (some ⟨g2,0,none⟩)]),(101,[.pointer (some ⟨g2,0,none⟩)])]:=(B4 (B0:=0) ([(98,[.pointer (some ⟨g2,0,none⟩)]),(99,[.pointer (some ⟨g2,0,none⟩),.pointer (some ⟨g5,0,none⟩)]),(100,[.pointer (some ⟨g2,0,none⟩)]),(101,[.pointer (some ⟨g2,0,none⟩)])]:List Clo) hN19 (Nat.zero_le _) (by simp)).sl
 have hOw:=hPx _ hG he0
 have hOu:=Xm (S:=(fun j=>S j∧j<w.heap.size)) hOw (fun j h=>h.2)
 have hXs:=hX.size
 refine oC Tryz.func45 (Qe [(98,[.pointer (some ⟨g2,0,none⟩)]),(99,[.pointer (some ⟨g2,0,none⟩),.pointer (some ⟨g5,0,none⟩)]),(100,[.pointer (some ⟨g2,0,none⟩)]),(101,[.pointer (some ⟨g2,0,none⟩)])] [fun D=>A9 D nNew,fun D=>Bm D nNew (manB ⟨s,z,xs⟩),fun D=>syncD D nNew,fun D=>Bv D nNew nMan] (fun i=>D.steps+i) gd (fun j=>S j∧j<w.heap.size) D _ _ _ _ hD (⟨hok,Nat.le_refl _,hle,hnm⟩) hS19 rfl (fun i hi=>?_)) ?_
 · rcases i with _ | _ | _ | _ | i
   · exact⟨Tryz.f98,Tryz.func98,fn98,fb98,fun Di w1 hDi m hgi=>(Acm gd _ Di w1 hDi hgi.ok (by have:=hgi.steps;(try dsimp only at this);omega) hgi.left hgi.names g2 (hB2.modS m (.inr (by decide)))).dg (hgi.create _)⟩
   · exact⟨Tryz.f99,Tryz.func99,fn99,fb99,fun Di w1 hDi m hgi=>(Acl gd _ Di w1 hDi hgi.ok (by have:=hgi.steps;(try dsimp only at this);omega) hgi.left hgi.names g2 g5 _ _ _ _ _ _ (hB2.modS m (.inr (by decide))) (hB5.modS m (.inr (by decide))) (hOu.modS m).sl).dg (hgi.append _ _)⟩
   · exact⟨Tryz.f100,Tryz.func100,fn100,fb100,fun Di w1 hDi m hgi=>(Ack gd _ Di w1 hDi hgi.ok (by have:=hgi.steps;(try dsimp only at this);omega) hgi.left hgi.names g2 (hB2.modS m (.inr (by decide)))).dg (hgi.sync _)⟩
   · exact⟨Tryz.f101,Tryz.func101,fn101,fb101,fun Di w1 hDi m hgi=>(Acj gd _ Di w1 hDi hgi.ok (by have:=hgi.steps;(try dsimp only at this);omega) hgi.left hgi.names g2 (hB2.modS m (.inr (by decide)))).dg (hgi.rename _ _)⟩
   · exact absurd hi (by omega)
 rintro v7 w7 ⟨rfl,hD2,hM2⟩
 refine pA (Ac (t_n (Ao ?_)))
 refine eR1 ?_
 exact⟨by rw[hpw,On],by rw[hpw,On];exact hD2.mono (fun k _ hg=>hg.imp (fun h=>h.1) (fun ⟨a,b⟩=>⟨by omega,b⟩)),((ModS.ofExt hX).trans hM2 (fun _ _ h=>h)).mono (fun j _ h=>h.1)⟩
end Go.Proofs.Eng
end
section
set_option maxRecDepth 100000
set_option maxHeartbeats 4000000
namespace Go.Proofs.Eng
open Go.RowKit
open Extern.Stop (cell)
theorem V8 (xs:List UInt8) (B:Nat) (p:Option Addr) (n c:Nat) (w:World) (hl:Sl kByte 5 B w p n c xs) (hn:n≤100000000) :
    Ret Tryz.prog 156 [.slice p n c] w (fun v w'=>(∃ (q:Option Addr) (m c':Nat) (u:Int),v = .tuple #[.slice q m c',.int .i64 u,.int .i64 (scanF xs).2]∧Own (kFo w.heap.size) 201 0 w.heap.size w' q m c' (scanF xs).1)∧Ext w w'):=by
 have hX:=Ext.refl w
 refine eN 34 Tryz.func156 ?_
 refine Ab (Aa ?_)
 refine pA (pA (pA (Ac (t_n (Ab (Aa ?_))))))
 refine pA (Ac (t_n (Ab (Aa ?_))))
 refine pA (Ac (t_n (Ap ?_)))
 have hO:Own (kFo w.heap.size) 201 0 w.heap.size w none 0 0 []:=Own.nil _ _ _ _ _
 have hlen:=hl.len
 have hfit:=hl.fit
 have hcap:=hl.cap
 refine Bc (ι:=Nat×Option Addr×Nat×Nat×List Frm) (rg 2 32) (fun (a,q,m,d,acc)=>[(5,.slice q m d),(6,.int .i64 (a:Int))]) (fun (a,q,m,d,acc) w'=>Ext w w'∧(a≤n∧m≤a∧Own (kFo w.heap.size) 201 0 w.heap.size w' q m d acc∧(acc++(scanF (xs.drop a)).1,(scanF (xs.drop a)).2)=scanF xs)) (fun (a,q,m,d,acc)=>n - a) ((0,none,0,0,[])) ⟨rfl,rfl,trivial⟩ ⟨hX,⟨by omega,by omega,hO,rfl⟩⟩ ?_
 rintro⟨a,q,m,d,acc⟩ GL0 w1 ⟨hE1,ha,hm,hO,hL⟩
 have hX:=hE1
 have hdl:(xs.drop a).length=n - a:=by rw[List.length_drop,hlen]
 have hB0:=hX.size
 have hol:=hO.len
 refine Ap (Ab (Aa ?_))
 refine pM (pM ?_)
 refine p1 (Bs u23 sz5 rfl rfl (by omega)) ?_
 refine oC Tryz.func154 (O7 (xs.drop a) _ _ _ _ _ ((hl.ext hX).dropI a (by omega))) ?_
 rintro v2 w2 ⟨⟨qo,mo,co,rfl,hF⟩,hE2⟩
 have hX:=hX.ext hE2
 have hO:=hO.ext hE2
 refine pM ?_
 refine p1 (Aj rfl rfl) ?_
 refine p1 (Aj rfl rfl) ?_
 refine p1 (Aj rfl rfl) ?_
 have hO0:=hO
 have hX0:=hX.size
 refine Ay zr201 ?_
 intro w3 g7 hN7
 have hE3:=hN7.ext
 have hX:=hX.ext hE3
 have hO:=hO.ext hE3
 have hF:=hF.ext hE3
 have hB7:=hN7.blk
 refine Al rfl (by conv=>lhs;whnf) (by simp[Value.oneCell']) (by exact sz201) hB7 (by rfl) ?_
 intro w4 hP4
 have hX:=hX.put hP4 (by rw[hN7.g_eq];exact hX0)
 have hO:=hO0.ext (hN7.ext.put hP4 (by rw[hN7.g_eq];exact Nat.le_refl _))
 have hF:=hF.mod (hP4.mod 0 (Nat.zero_le _)) (Nat.zero_le _) (by decide)
 have hB7:=hP4.blk
 refine pA (pA (Ac (t_n (Ab (Ab (Aa ?_))))))
 refine pM ?_
 refine p1 (Bw rfl rfl) ?_
 refine Ac (t_n ?_)
 refine As rfl (fun hc19=>?_) (fun hc19=>?_)
 ·have hp:scanF (xs.drop a)=([],0):=by rw[Fp (by omega),if_pos hc19]
  rw[hp,List.append_nil] at hL
  have hz:(scanF xs).2=0:=by rw[← hL]
  have ho:(scanF xs).1=acc:=by rw[← hL]
  refine Ab (Aa ?_)
  refine pM (pM (pA (pA (pA (Ac (t_n (Ao (t_r (b_r (t_r (b_r ?_)))))))))))
  refine eR3 ?_
  exact⟨⟨_,_,_,_,by rw[hz],by rw[ho];exact hO⟩,hX⟩
 refine Ak (t_n (Ab (Ab (Aa ?_))))
 refine pM ?_
 refine p1 (A2 rfl rfl) ?_
 refine Ac (t_n ?_)
 refine As rfl (fun hc23=>?_) (fun hc23=>?_)
 ·have hp:scanF (xs.drop a)=([],(openF (xs.drop a)).2.2):=by rw[Fp hc23,if_neg hc19]
  rw[hp,List.append_nil] at hL
  have hz:(scanF xs).2=(openF (xs.drop a)).2.2:=by rw[← hL]
  have ho:(scanF xs).1=acc:=by rw[← hL]
  refine Ab (Aa ?_)
  refine pM (pM (pM (pA (pA (pA (Ac (t_n (Ao (t_r (b_r (t_r (b_r ?_))))))))))))
  refine eR3 ?_
  exact⟨⟨_,_,_,_,by rw[hz],by rw[ho];exact hO⟩,hX⟩
 have h0:(openF (xs.drop a)).2.2=0:=Classical.byContradiction hc23
 have hu:=K0 h0
 rw[hdl] at hu
 rw[O0 h0] at hL
 have hF:=hF.lower hB0
 refine Ak (t_n (Ab (Aa ?_)))
 refine pM ?_
 refine p1 (Aq ua201 rfl hB7 sz201) ?_
 refine Av u208 Abc rfl (by decide) (fun base hb=>Br (by rfl) base hb) ?_
 intro w5 g29 hN29
 have hE5:=hN29.ext
 have hX:=hX.ext hE5
 have hO:=hO.ext hE5
 have hF:=hF.ext hE5
 have hJ:=Adq (x:=(openF (xs.drop a)).1) hN29 hF
 obtain⟨cssJ,hAJ,hsrJ⟩:=La u208 hJ N9
 have hB1:=hX.size
 refine Az (d:=(kFo _)) ([(openF (xs.drop a)).1]) u208 Abc rfl N9 rfl rfl hO (hsrJ) rfl (hAJ) (rfl) (by omega) (by omega) (by omega) (by omega) (by simp[kFo]) ?_
 intro p30 c30 w6 hO hM6
 have hX:=hX.mod hM6 (Nat.le_refl _)
 refine pA (Ac (t_n (Aa ?_)))
 refine pM (pM ?_)
 refine p1 ((A0 rfl rfl (Am (by omega) (by omega))).cast (congrArg _ (by omega:(a:Int)+((openF (xs.drop a)).2.1:Int)=((a+(openF (xs.drop a)).2.1:Nat):Int)))) ?_
 refine pA (Ac (b_n ?_))
 refine t_n (At.mk ((a+(openF (xs.drop a)).2.1,p30,m+1,c30,acc++[(openF (xs.drop a)).1])) (by repeat (first | exact Agr.refl _ _ | exact Agr.hav _ _ _ | refine Agr.upd rfl ?_ | refine Agr.updR rfl ?_ | refine Agr.updL ?_ _ rfl | refine Agr.hav' rfl ?_)) ⟨rfl,rfl,trivial⟩ ?_)
 exact⟨⟨hX,⟨by omega,by omega,hO,by rw[← hL,List.drop_drop];simp⟩⟩,by(dsimp only;omega)⟩
theorem Yx (xs:List UInt8) (B:Nat) (p:Option Addr) (n c:Nat) (w:World) (hl:Sl kByte 5 B w p n c xs) (hn:n≤100000000) :
    Ret Tryz.prog 112 [.slice p n c] w (fun v w'=>(∃ q m c',v = .tuple #[.slice q m c',.int .i64 (getSg xs).2]∧Own (kOb w.heap.size) 23 0 w.heap.size w' q m c' (getSg xs).1)∧Ext w w'):=by
 have hX:=Ext.refl w
 refine eN 38 Tryz.func112 ?_
 refine Ab (Aa ?_)
 refine pA (pA (Ac (t_n (Ab (Aa ?_)))))
 refine pM ?_
 refine oC Tryz.func156 (V8 xs _ _ _ _ _ (hl.ext hX) hn) ?_
 rintro v1 w1 ⟨⟨ql,ml,cl,ul,rfl,hS⟩,hE1⟩
 have hX:=hX.ext hE1
 skip
 refine pM ?_
 refine p1 (Aj rfl rfl) ?_
 refine p1 (Aj rfl rfl) ?_
 refine p1 (Aj rfl rfl) ?_
 refine pA (pA (pA (Ac (t_n (Ab (Ab (Aa ?_)))))))
 refine pM ?_
 refine p1 (A2 rfl rfl) ?_
 refine Ac (t_n ?_)
 refine As rfl (fun hc16=>?_) (fun hc16=>?_)
 ·have hp:getSg xs=([],4):=by rw[Mm,if_neg (fun h=>hc16 h.1)]
  refine Ab (Aa ?_)
  refine pA (pA (Ac (t_n (Ao (t_r ?_)))))
  refine eR2 ?_
  exact⟨⟨_,_,_,by rw[hp],by rw[hp];exact Own.nil _ _ _ _ _⟩,hX⟩
 have hz:(scanF xs).2=0:=Classical.byContradiction hc16
 have hSl:=hS.len
 have hSm:=Yq xs
 have hlen:=hl.len
 have hSc:=hS.small
 refine Ak (t_n (Ab (Aa ?_)))
 refine pA (Ac (t_n (Ab (Ab (Aa ?_)))))
 refine pA (Ac (t_n (Ap ?_)))
 have hX0:=hX
 have hS0:=hS
 have hB0:=hX.size
 have hO:Own (kOb w.heap.size) 23 0 w.heap.size w1 none 0 0 []:=Own.nil _ _ _ _ _
 refine Bc (ι:=Nat×Option Addr×Nat×Nat) ([2,3,7,8]++rg 17 20) (fun (k,q,m,d)=>[(7,.slice q m d),(8,.int .i64 (k:Int))]) (fun (k,q,m,d) w'=>Ext w w'∧(k≤ml∧m=k∧Own (kFo w.heap.size) 201 0 w.heap.size w' ql ml cl (scanF xs).1∧(∀ i,i<k→((scanF xs).1.getD i (0,[])).1=1)∧Own (kOb w.heap.size) 23 0 w.heap.size w' q m d (((scanF xs).1.take k).map (·.2)))) (fun (k,q,m,d)=>ml - k) ((0,none,0,0)) ⟨rfl,rfl,trivial⟩ ⟨hX,⟨by omega,rfl,hS,fun i hi=>by omega,hO⟩⟩ ?_
 rintro⟨k,q,m,d⟩ GL0 w2 ⟨hE2,hk,hmk,hS,hok,hO⟩
 have hX:=hE2
 refine Ab (Ab (Aa ?_))
 refine pM (pM ?_)
 refine p1 (Ar u208 rfl) ?_
 refine p1 (Bi rfl rfl) ?_
 refine Ac (t_n ?_)
 refine As rfl (fun hc20=>?_) (fun hc20=>?_)
 ·obtain⟨qr,mr,cr,hk0,hk1,hrow⟩:=hS.sl.foAt k (by omega)
  refine Ak (t_n (Ab (Ap (Ab (Ab (Aa ?_))))))
  refine pM (pM ?_)
  refine p1 (Cs u208 sz201 rfl rfl (hS.sl.adr N9 (by omega)) (by omega) (by omega)) ?_
  refine p1 (Ad Xx sz5 rfl) ?_
  refine p1 (Ae un5 rfl hk0) ?_
  refine p1 (A2 rfl rfl) ?_
  refine Ac (t_n ?_)
  refine As rfl (fun hc28=>?_) (fun hc28=>?_)
  ·have hp:getSg xs=([],4):=by rw[Mm,if_neg (fun h=>Aa0 (i:=k) (by omega) (fun e=>hc28 (by rw[e];rfl)) h.2)]
   refine Ab (Aa ?_)
   refine pA (pA (Ac (t_n (Ao (t_r (b_r (t_r (t_r (b_r (t_r ?_))))))))))
   refine eR2 ?_
   exact⟨⟨_,_,_,by rw[hp],by rw[hp];exact Own.nil _ _ _ _ _⟩,hX⟩
  have hk1k:((scanF xs).1.getD k (0,[])).1=1:=Ga.1 (Classical.byContradiction hc28)
  refine Ak (t_n (Aa ?_))
  refine pM (pM (pM ?_))
  refine p1 (Cs u208 sz201 rfl rfl (hS.sl.adr N9 (by omega)) (by omega) (by omega)) ?_
  refine p1 (Ad Xw sz23 rfl) ?_
  refine p1 (Ae un23 rfl hk1) ?_
  refine Av u22 inf23 rfl (by decide) (fun base hb=>Br (by rfl) base hb) ?_
  intro w3 g35 hN35
  have hE3:=hN35.ext
  have hX:=hX.ext hE3
  have hS:=hS.ext hE3
  have hO:=hO.ext hE3
  have hJ:=So (x:=((scanF xs).1.getD k (0,[])).2) hN35 (hrow.ext hN35.ext)
  obtain⟨cssJ,hAJ,hsrJ⟩:=La u22 hJ Im
  have hB1:=hX.size
  refine Az (d:=(kOb _)) ([((scanF xs).1.getD k (0,[])).2]) u22 inf23 rfl Im rfl rfl hO (hsrJ) rfl (hAJ) (rfl) (by omega) (by omega) (by omega) (by omega) (by simp[kOb]) ?_
  intro p36 c36 w4 hO hM4
  have hX:=hX.mod hM4 (Nat.le_refl _)
  have hS:=hS.mod hM4 (Nat.zero_le _) (by simp[kFo])
  refine pA (Ac (b_n (t_n (Aa ?_))))
  refine pM ?_
  refine p1 (A0 rfl rfl (Am (by omega) (by omega))) ?_
  refine pA (Ac ?_)
  refine t_n (aK ((k+1,p36,m+1,c36)) ⟨rfl,rfl,trivial⟩ ?_)
  exact⟨⟨hX,⟨by omega,by omega,hS,fun i hi=>if h:i<k then hok i h else by rw[show i=k from by omega];exact hk1k,by rw[Qk (·.2) (0,[]) (by omega)];exact hO⟩⟩,by(dsimp only;omega)⟩
 have hp:getSg xs=(((scanF xs).1.take k).map (·.2),0):=by rw[Mm,if_pos ⟨hz,Acc (fun i hi=>hok i (by omega))⟩,List.take_of_length_le (by omega)]
 refine A8 (t_e (t_e (Bq (t_n (Ab (Aa ?_))))))
 refine pM (pA (pA (Ac (t_n (Ao ?_)))))
 refine eR2 ?_
 exact⟨⟨_,_,_,by rw[hp],by rw[hp];exact hO⟩,hX⟩
end Go.Proofs.Eng
end
section
set_option maxRecDepth 100000
set_option maxHeartbeats 4000000
namespace Go.Proofs.Eng
open Go.RowKit
open Extern.Stop (cell)
theorem W5 (b0:List UInt8) (Bl Bd B g:Nat) (p0:Option Addr) (n0 c0:Nat) (l:Nat) (J Jx:List Ck→World→Prop) (w:World) (hBg:Blk w g #[.slice p0 n0 c0] 23) (hS:Sl kByte 5 B w p0 n0 c0 b0) (hq:Qt w) (hUp:Up Bl w) (h3:4<Bd) (hBB:B≤Bd) (hBg2:Bd≤g)
    (hJ:Hd J (But g 23) [] w) (hY:∀ pre x W1,J pre W1→XC Bl b0 pre x W1→YieldAt (fnc none) 0 Tryz.prog l (encC x).toArray W1 fun e W'=>(e = .returned (.bool true)∧J (pre++[x]) W'∧RndG Bd g [22,23,31] W1 W')∨(e = .returned (.bool false)∧Jx (pre++[x]) W')) :
    Ret Tryz.prog 132 [.func (.yield l) #[] #[],.pointer (some ⟨g,0,none⟩)] w (fun v w'=>(∃ xs,SC b0 xs∧J xs w')∨(∃ pre,True∧Jx pre w')):=by
 have hX:=Tv.mk
 refine eN 32 Tryz.func132 ?_
 refine Ap ?_
 refine Bc (ι:=Option Addr×Nat×Nat×List UInt8×List Ck) (rg 3 29) (fun (p,n,c,rest,pre)=>[]) (fun (p,n,c,rest,pre) w'=>Tv∧(Hd J (But g 23) pre w'∧Blk w' g #[.slice p n c] 23∧Sl kByte 5 B w' p n c rest∧Qt w'∧Up Bl w'∧(∀ x∈pre,x.e=0)∧pre.length+n≤b0.length∧Ce b0=(Ce rest).map (fun l=>pre.map (·.body)++l))) (fun (p,n,c,rest,pre)=>n) ((p0,n0,c0,b0,[])) trivial ⟨hX,⟨hJ,hBg,hS,hq,hUp,by simp,by simp[hS.len],by simp⟩⟩ ?_
 rintro⟨p,n,c,rest,pre⟩ GL0 w1 ⟨hE1,hJ,hBg,hS,hq,hUp,hez,hcnt,hC⟩
 have hX:=hE1
 refine Ab (Ab (Aa ?_))
 refine p1 (Ae un23 rfl (hBg.cell (rfl))) ?_
 refine p1 (Ar u23 rfl) ?_
 refine p1 (Cw rfl rfl) ?_
 refine Ac (t_n ?_)
 refine As rfl (fun hc8=>?_) (fun hc8=>?_)
 ·try simp only[dA,dB,dC,dD,dE,dF,dG,Int.not_lt,Int.not_le] at hc8
  have hrl:=hS.len
  have hfit:=hS.fit
  have hcap:=hS.cap
  have hne:rest≠[]:=fun e=>by rw[e] at hrl;simp at hrl;omega
  refine Ak (t_n (Ap (Ab (Aa ?_))))
  refine p1 (Ae un23 rfl (hBg.cell (rfl))) ?_
  have hUp1:=hUp.le
  refine oC Tryz.func133 (Pu rest _ _ _ _ _ hS hq) ?_
  rintro v2 w2 ⟨⟨qo,mo,co,rfl,hF⟩,hE2⟩
  have hX:=hX.ext hE2
  have hJ:=hJ.ext hE2
  have hBg:=hBg.ext hE2
  have hS:=hS.ext hE2
  have hq:=hq.ext hE2
  have hUp:=hUp.ext hE2
  have hF:=hF.lower hUp1
  refine pM ?_
  refine p1 (Aj rfl rfl) ?_
  refine p1 (Aj rfl rfl) ?_
  refine p1 (Aj rfl rfl) ?_
  have hJ0:=hJ
  have hBg0:=hBg
  have hS0:=hS
  have hq0:=hq
  have hUp0:=hUp
  have hF0:=hF
  refine Ay zr187 ?_
  intro w3 g3 hN3
  have hE3:=hN3.ext
  have hX:=hX.ext hE3
  have hJ:=hJ.ext hE3
  have hBg:=hBg.ext hE3
  have hS:=hS.ext hE3
  have hq:=hq.ext hE3
  have hUp:=hUp.ext hE3
  have hF:=hF.ext hE3
  have hB3:=hN3.blk
  refine Al rfl (by conv=>lhs;whnf) (by simp[Value.oneCell']) (by exact sz187) hB3 (by rfl) ?_
  intro w4 hP4
  have hX:=hX.put hP4 (True.intro)
  have hJ:=hJ0.ext (hN3.ext.put hP4 (by rw[hN3.g_eq];exact Nat.le_refl _))
  have hBg:=hBg0.ext (hN3.ext.put hP4 (by rw[hN3.g_eq];exact Nat.le_refl _))
  have hS:=hS0.ext (hN3.ext.put hP4 (by rw[hN3.g_eq];exact Nat.le_refl _))
  have hq:=hq0.ext (hN3.ext.put hP4 (by rw[hN3.g_eq];exact Nat.le_refl _))
  have hUp:=hUp0.ext (hN3.ext.put hP4 (by rw[hN3.g_eq];exact Nat.le_refl _))
  have hF:=hF0.ext (hN3.ext.put hP4 (by rw[hN3.g_eq];exact Nat.le_refl _))
  have hB3:=hP4.blk
  refine pA ?_
  refine pA ?_
  refine Ac (t_n (Ab (Ab ?_)))
  have hWr2:=Ext.refl w4
  refine Dn (ι:=Unit) [15,16,17,18,19,20,21] (fun _=>[(21,.bool (decide ((openF rest).2.2≠0∨((openF rest).1.1.toNat:Int)≠1)))]) (fun _ w'=>Ext w4 w') ?_ ?_
  ·skip
   refine Aa ?_
   refine pM ?_
   refine p1 (A2 rfl rfl) ?_
   refine p1b (Af (by conv=>lhs;whnf)) (fun hb2_2=>?_) (fun hb2_2=>?_)
   ·try simp only[dA,dB,dC,dD,dE,dF,dG,Int.not_lt,Int.not_le] at hb2_2
    refine gF 17 ?_
    refine gF 17 ?_
    refine gF 17 ?_
    refine p1 (Ax rfl (by conv=>lhs;whnf)) ?_
    refine Ac ?_
    refine t_n (aK () ⟨congrArg Value.bool (by exact(decide_eq_true (by omega)).symm),trivial⟩ hWr2)
   try simp only[dA,dB,dC,dD,dE,dF,dG,Int.not_lt,Int.not_le] at hb2_2
   refine Eng.g1 17 rfl rfl (Ad Xy sz5 rfl) ?_
   refine Eng.g1 17 rfl rfl (Ae un5 rfl (hB3.cell (rfl))) ?_
   refine Eng.g1 17 rfl rfl (A2 rfl rfl) ?_
   refine p1 (Au rfl (by conv=>lhs;whnf)) ?_
   refine Ac ?_
   refine t_n (aK () ⟨congrArg Value.bool (by exact decide_eq_decide.2 (by omega)),trivial⟩ hWr2)
  rintro _ Gr2 w5 hE5
  have hX:=hX.ext hE5
  have hJ:=hJ.ext hE5
  have hBg:=hBg.ext hE5
  have hS:=hS.ext hE5
  have hq:=hq.ext hE5
  have hUp:=hUp.ext hE5
  have hF:=hF.ext hE5
  have hB3:=hB3.ext hE5
  refine t_n ?_
  refine As rfl (fun hc21=>?_) (fun hc21=>?_)
  ·try simp only[dA,dB,dC,dD,dE,dF,dG,Int.not_lt,Int.not_le] at hc21
   have hnb:=Ho hne (fun h=>by rcases hc21 with h1 | h1;(· exact h1 h.1);(· exact h1 (by rw[h.2];rfl)))
   have hnone:Ce b0=none:=by rw[hC,hnb];rfl
   refine Ab ?_
   refine Wf.toWp (P0 1 rfl ?_)
   refine pM ?_
   refine Ac (t_n ?_)
   refine Sr rfl rfl (hY pre ⟨none,0,0,[],4⟩ _ hJ.h ⟨Own.nil _ _ _ _ _,.inr ⟨rfl,hnone⟩,by omega⟩) (fun e w0 hr=>by rcases hr with ⟨h,_⟩ | ⟨h,_⟩ <;> exact⟨_,h⟩) ?_
   rintro v6 w6 (⟨hv6,hJ6,hRn6⟩ | ⟨hv6,hJx6⟩) <;> cases hv6
   ·skip
    have hJ:Hd J (But g 23) (pre++[⟨none,0,0,[],4⟩]) _:=hJ.to hJ6
    refine Mv rfl ?_
    refine Ac (t_n (t_n (Ao (t_r (b_r (t_r (b_r ?_)))))))
    refine end0 rfl ?_
    exact .inl ⟨_,fun hh=>absurd (hh _ (List.mem_append_right _ (List.mem_singleton.2 rfl))) (by decide),hJ.h⟩
   skip
   have hJx:=hJx6
   refine Mv rfl ?_
   refine Ac (t_n (t_n (Ao (t_r (b_r (t_r (b_r ?_)))))))
   refine end0 rfl ?_
   exact .inr ⟨_,trivial,hJx⟩
  try simp only[dA,dB,dC,dD,dE,dF,dG,Int.not_lt,Int.not_le] at hc21
  have hk0:(openF rest).2.2=0:=Classical.byContradiction fun h=>hc21 (.inl h)
  have hk1:(openF rest).1.1=1:=Ga.1 (Classical.byContradiction fun h=>hc21 (.inr h))
  have hu:=K0 hk0
  rw[hrl] at hu
  have hCo:=Iv hne ⟨hk0,hk1⟩
  refine Ak (t_n (Ab (Ab ?_)))
  refine Wf.toWp (P0 3 rfl ?_)
  refine pM ?_
  refine p1 (Ad Oc sz23 rfl) ?_
  refine p1 (Ae un23 rfl (hB3.cell (rfl))) ?_
  refine Ac (t_n ?_)
  refine Sr rfl rfl (hY pre ⟨qo,mo,co,(openF rest).1.2,0⟩ _ hJ.h ⟨hF,.inl rfl,by omega⟩) (fun e w0 hr=>by rcases hr with ⟨h,_⟩ | ⟨h,_⟩ <;> exact⟨_,h⟩) ?_
  rintro v7 w7 (⟨hv7,hJ7,hRn7⟩ | ⟨hv7,hJx7⟩) <;> cases hv7
  ·skip
   have hJ:Hd J (But g 23) (pre++[⟨qo,mo,co,(openF rest).1.2,0⟩]) _:=hJ.to hJ7
   have hBg:=hBg.rndG hRn7 (.inr (.inr rfl))
   have hS:=hS.rndG hRn7 hBB (by decide)
   have hq:=hq.rndG hRn7 h3
   have hUp:Up Bl _:=⟨Nat.le_trans hUp.le hRn7.size⟩
   refine Mv rfl ?_
   refine p1 (Ht rfl) ?_
   refine Ac (t_n (t_n ?_))
   refine c_f rfl ?_
   refine Ak (t_n (Aa ?_))
   refine p1 (Ae un23 rfl (hBg.cell (rfl))) ?_
   refine pM ?_
   refine p1 (Bs u23 sz5 rfl rfl (by omega)) ?_
   refine Aw rfl (by conv=>lhs;whnf) rfl rfl sz23 hBg (by simp) ?_
   intro w8 hP8
   have hX:=hX.put hP8 (True.intro)
   have hJ:=hJ.rel (But.ofPut hP8)
   have hBg:=hP8.blk
   try simp only[List.setIfInBounds_toArray,List.set_cons_zero,List.set_cons_succ] at hBg
   have hS:=hS.mod (hP8.mod g (Nat.le_refl _)) (by omega) (by decide)
   have hq:=hq.but (But.ofPut hP8) (by omega)
   have hUp:=hUp.put hP8
   refine Ac (b_n ?_)
   refine t_n (At.mk ((adw p c (openF rest).2.1 1,n - (openF rest).2.1,c - (openF rest).2.1,rest.drop (openF rest).2.1,pre++[⟨qo,mo,co,(openF rest).1.2,0⟩])) (by repeat (first | exact Agr.refl _ _ | exact Agr.hav _ _ _ | refine Agr.upd rfl ?_ | refine Agr.updR rfl ?_ | refine Agr.updL ?_ _ rfl | refine Agr.hav' rfl ?_)) trivial ?_)
   exact⟨⟨hX,⟨hJ,hBg,hS.dropI _ (by omega),hq,hUp,fun y hy=>(List.mem_append.1 hy).elim (hez y) (fun hy=>by simp only[List.mem_singleton] at hy;rw[hy]),by rw[List.length_append];simp;omega,Vb hC rfl hCo⟩⟩,by(dsimp only;omega)⟩
  skip
  have hJx:=hJx7
  refine Mv rfl ?_
  refine p1 (Ht rfl) ?_
  refine Ac (t_n (t_n ?_))
  refine c_t rfl ?_
  refine Ao (t_r (b_r (t_r (b_r ?_))))
  refine end0 rfl ?_
  exact .inr ⟨_,trivial,hJx⟩
 try simp only[dA,dB,dC,dD,dE,dF,dG,Int.not_lt,Int.not_le] at hc8
 have hr0:rest=[]:=List.length_eq_zero_iff.1 (by have:=hS.len;omega)
 have hfin:Ce b0=some (pre.map (·.body)):=by rw[hC,hr0,E9];simp
 refine A8 (t_e (t_e (Bq ?_)))
 refine end0n rfl ?_
 exact .inl ⟨_,fun _=>hfin,hJ.h⟩
theorem W4 (b0:List UInt8) (Bl Bd B g:Nat) (p0:Option Addr) (n0 c0:Nat) (w:World) (hBg:Blk w g #[.slice p0 n0 c0] 23) (hS:Sl kByte 5 B w p0 n0 c0 b0) (hq:Qt w) (hUp:Up Bl w) (h3:4<Bd) (hBB:B≤Bd) (hBg2:Bd≤g) :
    SeqOk Tryz.prog 132 [.pointer (some ⟨g,0,none⟩)] encC (RndG Bd g [22,23,31]) (SC b0) (fun _=>True) (XC Bl b0) (But g 23) w :=
  ⟨fun l J Jx W hx hJ hJx hY h0=>Calls.mono (W5 b0 Bl Bd B g p0 n0 c0 l J Jx W (hBg.ext hx) (hS.ext hx) (hq.ext hx) (hUp.ext hx) h3 hBB hBg2 ⟨h0,hJ,fun _ _ h => .ofExt h⟩ hY).out
    fun e w' ⟨v,he,hr⟩=>⟨⟨v,he⟩,hr⟩⟩
theorem Oy (p:Option Addr) (n c:Nat) (w:World) :
    Ret Tryz.prog 87 [.slice p n c] w (fun v w'=>(∃ g,v = .func (.func 132) #[] #[.pointer (some ⟨g,0,none⟩)]∧g=w.heap.size∧Blk w' g #[.slice p n c] 23)∧Ext w w'):=by
 have hX:=Ext.refl w
 refine eN 4 Tryz.func87 ?_
 refine Ab (Aa ?_)
 refine D9 (by conv=>lhs;whnf) rfl ?_
 intro w1 g1 hN1
 have hE1:=hN1.ext
 have hX:=hX.ext hE1
 have hB1:=hN1.blk
 refine pA (Ac (t_n (Ab (Aa ?_))))
 refine p1 (Ch (fs:=[]) (cs:=[.pointer (some ⟨g1,0,none⟩)]) rfl rfl) ?_
 refine pA (Ac (t_n (Ao ?_)))
 refine eR1 ?_
 exact⟨⟨g1,rfl,hN1.g_eq,hB1⟩,hX⟩
theorem Tt (xs:List UInt8) (B:Nat) (p:Option Addr) (n c:Nat) (w:World) (hl:Sl kByte 5 B w p n c xs) (hq:Qt w) (hBw:B≤w.heap.size) (hn:n≤100000000) :
    Ret Tryz.prog 38 [.slice p n c] w (fun v w'=>(∃ q m c',v = .tuple #[.slice q m c',.int .i64 (getSg xs).2]∧Own (kOb w.heap.size) 23 0 w.heap.size w' q m c' (getSg xs).1)∧Ext w w'):=by
 have hX:=Ext.refl w
 refine Aby 19 _ Tryz.func38 rfl rfl (Nat.le_of_ble_eq_true rfl) rfl ?_
 refine Ab (Aa ?_)
 refine Ay zr22 ?_
 intro w1 g2 hN2
 have hE1:=hN2.ext
 have hX:=hX.ext hE1
 have hB2:=hN2.blk
 have hl2:=hB2.lt
 refine Ay zr31 ?_
 intro w2 g3 hN3
 have hE2:=hN3.ext
 have hX:=hX.ext hE2
 have hB2:=hB2.ext hE2
 have hB3:=hN3.blk
 refine Ac (t_n (Ab (Aa ?_)))
 have hl3:=hB3.lt
 refine Ay zr22 ?_
 intro w3 g4 hN4
 have hE3:=hN4.ext
 have hX:=hX.ext hE3
 have hB2:=hB2.ext hE3
 have hB3:=hB3.ext hE3
 have hB4:=hN4.blk
 refine Ac (t_n (Ab (Ab ?_)))
 have e2:=hN2.g_eq
 have e3:=hN3.g_eq
 have e4:=hN4.g_eq
 have s2:=hN2.ext.size
 have s3:=hN3.ext.size
 have hg2:w.heap.size≤g2:=by omega
 have hg3:w.heap.size≤g3:=by omega
 have hg4:w.heap.size≤g4:=by omega
 have h23:g2<g3:=by omega
 have h34:g3<g4:=by omega
 have hl4:=hB4.lt
 have hB2:Blk _ g2 #[.slice none 0 0] 22:=hB2
 have hB3:Blk _ g3 #[.int .i64 0] 31:=hB3
 have hB4:Blk _ g4 #[.slice none 0 0] 22:=hB4
 have hlen:=hl.len
 refine Aa ?_
 refine pM ?_
 refine oC Tryz.func87 (Oy _ _ _ _) ?_
 rintro v4 w4 ⟨⟨gb,rfl,hgb,hBb⟩,hE4⟩
 have hX:=hX.ext hE4
 have hB2:=hB2.ext hE4
 have hB3:=hB3.ext hE4
 have hB4:=hB4.ext hE4
 refine Ac (t_n (Ap ?_))
 obtain⟨B1,hB1⟩:∃ B1,B1=w4.heap.size:=⟨_,rfl⟩
 have hgB:gb<B1:=by have:=hBb.lt;omega
 have hXr:=hX.size
 have hgb4:g4<gb:=by omega
 have hq3:=hq.lt
 refine Afj (ps:=[9,10]) ([]) (fun pre W=>Ext w W∧Blk W g2 #[.slice none 0 0] 22∧Blk W g3 #[.int .i64 0] 31∧(∃ q m d,Blk W g4 #[.slice q m d] 22∧Own (kOb w.heap.size) 23 0 B1 W q m d (pre.map (·.body)))∧(∀ x∈pre,x.e=0)) (fun c pre W=>c = .ret∧Ext w W∧Blk W g2 #[.slice none 0 0] 22∧Blk W g3 #[.int .i64 4] 31∧Ce xs=none) rfl rfl Tryz.func132 fn132 fb132 (fun _ _ h=>h.size) (fun _ _ h => .ofLp h hXr) (fun _ _ _ h k=>h.trans k) (W4 xs w.heap.size w.heap.size B gb _ _ _ _ hBb (hl.ext hX) (hq.ext hX) ⟨hXr⟩ hq3 hBw (by omega)) (fun s x A B h m=>⟨h.1.lp m (Nat.zero_le _),h.2⟩) (fun _ _ h => .ofExt h) (But.rl) (fun _=>rfl) (by rintro s A B ⟨h1,h2,h3,⟨q,m,d,h4,h5⟩,h6⟩ x;exact⟨But.extTo h1 x (by omega),h2.but x (.inr (by decide)),h3.but x (.inr (by decide)),⟨q,m,d,h4.but x (.inr (by decide)),h5.but x (.inl hgB) (Nat.zero_le _) (by simp[kOb])⟩,h6⟩) (by rintro s A B ⟨h1,h2,h3,⟨q,m,d,h4,h5⟩,h6⟩ x;exact⟨h1.lp x hXr,h2.lp x,h3.lp x,⟨q,m,d,h4.lp x,h5.lp x (Nat.zero_le _)⟩,h6⟩) (by rintro c s A B ⟨h0,h1,h2,h3,h4⟩ x;exact⟨h0,But.extTo h1 x (by omega),h2.but x (.inr (by decide)),h3.but x (.inr (by decide)),h4⟩) (by rintro c s A B ⟨h0,h1,h2,h3,h4⟩ x;exact⟨h0,h1.lp x hXr,h2.lp x,h3.lp x,h4⟩) (⟨hX,hB2,hB3,⟨none,0,0,hB4,Own.nil _ _ _ _ _⟩,by simp⟩) ?_ ?_ ?_
 ·intro x
  apply Exists.intro
  refine⟨fun l W=>?ha,fun l pre W hsz hI hXx=>?hb⟩
  case ha =>
   refine X2 ?_
   refine Is rfl ?_
   refine pA (Ac (t_n (t_n ?_)))
   refine Is rfl ?_
   refine pA (Ac (t_n (t_n ?_)))
   exact⟨rfl,rfl⟩
  case hb =>
   obtain⟨hX,hB2,hB3,⟨q,m,d,hB4,hO⟩,hez⟩:=hI
   obtain⟨hF,hxe,hpl⟩:=hXx
   have hZ:=Nn.refl W
   have hR:=RndG.refl w.heap.size gb [22,23,31] W
   have hol:=hO.len
   rw[List.length_map] at hol
   refine X3 ?_
   refine X2 ?_
   refine X2 ?_
   refine Is rfl ?_
   refine pM ?_
   refine p1 (A2 rfl rfl) ?_
   refine Ac (t_n (t_n ?_))
   refine Aff rfl (fun hc12=>?_) (fun hc12=>?_)
   ·have hxe4:x.e=4∧Ce xs=none:=hxe.resolve_left hc12
    refine X2 ?_
    refine Is rfl ?_
    refine pM ?_
    refine Aw rfl (by conv=>lhs;whnf) rfl rfl sz22 hB2 Nat.zero_lt_one ?_
    intro w6 hP6
    have hX:=hX.put hP6 (hg2)
    have hB2:=hP6.blk
    try simp only[List.setIfInBounds_toArray,List.set_cons_zero,List.set_cons_succ] at hB2
    have hB3:=hP6.keep hB3 (by omega)
    have hB4:=hP6.keep hB4 (by omega)
    have hZ:=hZ.put hP6
    refine Aw rfl (by conv=>lhs;whnf) rfl rfl sz31 hB3 Nat.zero_lt_one ?_
    intro w7 hP7
    have hX:=hX.put hP7 (hg3)
    have hB2:=hP7.keep hB2 (by omega)
    have hB3:=hP7.blk
    try simp only[List.setIfInBounds_toArray,List.set_cons_zero,List.set_cons_succ] at hB3
    have hB4:=hP7.keep hB4 (by omega)
    have hZ:=hZ.put hP7
    refine Ac (t_n (t_n ?_))
    refine Afe ?_
    refine t_r (b_r ?_)
    exact⟨fun k hn hk=>hZ.old k hk hn,rfl,hX,hB2,by rw[hxe4.1] at hB3;exact hB3,hxe4.2⟩
   have hx0:x.e=0:=Classical.byContradiction hc12
   refine Aes ?_
   refine t_n ?_
   refine Is rfl ?_
   refine p1 (Ae un22 rfl (hB4.cell (rfl))) ?_
   refine pM ?_
   refine Av u22 inf23 rfl (by decide) (fun base hb=>Br (by rfl) base hb) ?_
   intro w8 g16 hN16
   have hE8:=hN16.ext
   have hX:=hX.ext hE8
   have hB2:=hB2.ext hE8
   have hB3:=hB3.ext hE8
   have hB4:=hB4.ext hE8
   have hO:=hO.ext hE8
   have hF:=hF.ext hE8
   have hZ:=hZ.ext hE8
   have hR:=hR.ext hE8
   have hJ:=So hN16 hF
   obtain⟨cssJ,hAJ,hsrJ⟩:=La u22 hJ Im
   have hB9:=hR.size
   refine Az (d:=(kOb _)) ([x.body]) u22 inf23 rfl Im rfl rfl hO (hsrJ) rfl (hAJ) (rfl) (by omega) (by omega) (by omega) (by omega) (by simp[kOb]) ?_
   intro p17 c17 w9 hO hM9
   have hX:=hX.mod hM9 (by omega)
   have hB2:=hB2.mod hM9 (by decide)
   have hB3:=hB3.mod hM9 (by decide)
   have hB4:=hB4.mod hM9 (by decide)
   have hZ:=hZ.mod hM9 
   have hR:=hR.mod hM9 ⟨by decide,by omega,by omega⟩
   refine Aw rfl (by conv=>lhs;whnf) rfl rfl sz22 hB4 Nat.zero_lt_one ?_
   intro w10 hP10
   have hX:=hX.put hP10 (hg4)
   have hB2:=hP10.keep hB2 (by omega)
   have hB3:=hP10.keep hB3 (by omega)
   have hB4:=hP10.blk
   try simp only[List.setIfInBounds_toArray,List.set_cons_zero,List.set_cons_succ] at hB4
   have hZ:=hZ.put hP10
   have hR:=hR.put hP10 ⟨by decide,by omega,by omega⟩
   have hO:=hO.mod (hP10.mod 0 (Nat.zero_le _)) (Nat.zero_le _) (by simp[kOb])
   refine Ac (t_n (b_n ?_))
   exact⟨hR,fun k hn hk=>hZ.old k hk hn,hX,hB2,hB3,⟨_,_,_,hB4,by rw[List.map_append];exact hO⟩,fun y hy=>(List.mem_append.1 hy).elim (hez y) (fun hy=>by simp only[List.mem_singleton] at hy;rw[hy];exact hx0)⟩
 ·rintro D zs_ w5 hsz hS ⟨hX,hB2,hB3,⟨q,m,d,hB4,hO⟩,hez⟩ hDf
  have hDs:Dfs w.heap.size w5 [D]:=(Dfs.nil _ _).cons hDf (Nat.le_trans hXr hsz) (by simp)
  have hfin:=hS hez
  have hp:getSg xs=(zs_.map (·.body),0):=by unfold getSg;rw[hfin]
  refine b_n (t_n (Ab (Aa ?_)))
  refine p1 (Ae un22 rfl (hB4.cell (rfl))) ?_
  refine Aw rfl (by conv=>lhs;whnf) rfl rfl sz22 hB2 Nat.zero_lt_one ?_
  intro w11 hP11
  have hX:=hX.put hP11 (hg2)
  have hB2:=hP11.blk
  try simp only[List.setIfInBounds_toArray,List.set_cons_zero,List.set_cons_succ] at hB2
  have hB3:=hP11.keep hB3 (by omega)
  have hB4:=hP11.keep hB4 (by omega)
  have hO:=hO.mod (hP11.mod 0 (Nat.zero_le _)) (Nat.zero_le _) (by simp[kOb])
  have hDs:=hDs.mod (hP11.mod 0 (Nat.zero_le _)) (Nat.zero_le _) trivial
  refine Aw rfl (by conv=>lhs;whnf) rfl rfl sz31 hB3 Nat.zero_lt_one ?_
  intro w12 hP12
  have hX:=hX.put hP12 (hg3)
  have hB2:=hP12.keep hB2 (by omega)
  have hB3:=hP12.blk
  try simp only[List.setIfInBounds_toArray,List.set_cons_zero,List.set_cons_succ] at hB3
  have hB4:=hP12.keep hB4 (by omega)
  have hO:=hO.mod (hP12.mod 0 (Nat.zero_le _)) (Nat.zero_le _) (by simp[kOb])
  have hDs:=hDs.mod (hP12.mod 0 (Nat.zero_le _)) (Nat.zero_le _) trivial
  refine Ac (t_n (Ao ?_))
  (exact X5 [D] rfl un22 un31 rfl rfl hB2 hB3 rfl hDs fun wz hLz=>⟨⟨_,_,_,by rw[hp],by rw[hp];exact(hO.lower (by omega)).lp hLz (Nat.zero_le _)⟩,hX.lp hLz (Nat.le_refl _)⟩)
 rintro D c pre w5 hsz hSp ⟨rfl,hX,hB2,hB3,hnone⟩ hDf
 have hDs:Dfs w.heap.size w5 [D]:=(Dfs.nil _ _).cons hDf (Nat.le_trans hXr hsz) (by simp)
 have hp:getSg xs=([],4):=by unfold getSg;rw[hnone]
 refine Ao (b_r (t_r ?_))
 (exact X5 [D] rfl un22 un31 rfl rfl hB2 hB3 rfl hDs fun wz hLz=>⟨⟨_,_,_,by rw[hp],by rw[hp];exact Own.nil _ _ _ _ _⟩,hX.lp hLz (Nat.le_refl _)⟩)
end Go.Proofs.Eng
end
section
set_option maxRecDepth 100000
set_option maxHeartbeats 4000000
namespace Go.Proofs.Eng
open Go.RowKit
open Extern.Stop (cell)
theorem u51i:Tryz.prog.underlying 139=some (.interface (Tryz.prog.methodsAt 139)):=by kernel_rfl
theorem Ih (n:Int) (w:World) :
    Ret Tryz.prog 109 [.int .i64 n] w (fun v w'=>v = .string (toStr (nameF n))∧Ext w w'):=by
 have hX:=Ext.refl w
 refine eN 27 Tryz.func109 ?_
 refine Ab (Aa ?_)
 refine pA (Ac (t_n (Ab (Ab ?_))))
 have hWr1:=Ext.refl w
 refine Dn (ι:=Unit) [5,6,7,8,9,10] (fun _=>[(10,.bool (decide (n<1∨999999<n)))]) (fun _ w'=>Ext w w') ?_ ?_
 ·skip
  refine Aa ?_
  refine pM ?_
  refine p1 (Bi rfl rfl) ?_
  refine p1b (Af (by conv=>lhs;whnf)) (fun hb1_2=>?_) (fun hb1_2=>?_)
  ·try simp only[dA,dB,dC,dD,dE,dF,dG,Int.not_lt,Int.not_le] at hb1_2
   refine gF 7 (gF 7 ?_)
   refine p1 (Ax rfl (by conv=>lhs;whnf)) ?_
   refine Ac ?_
   refine t_n (aK () ⟨congrArg Value.bool (by exact(decide_eq_true (by omega)).symm),trivial⟩ hWr1)
  try simp only[dA,dB,dC,dD,dE,dF,dG,Int.not_lt,Int.not_le] at hb1_2
  refine gM 7 ?_
  refine g1 7 rfl rfl (Cw rfl rfl) ?_
  refine p1 (Au rfl (by conv=>lhs;whnf)) ?_
  refine Ac ?_
  refine t_n (aK () ⟨congrArg Value.bool (by exact decide_eq_decide.2 (by omega)),trivial⟩ hWr1)
 rintro _ Gr1 w1 hE1
 have hX:=hX.ext hE1
 refine t_n ?_
 refine As rfl (fun hc10=>?_) (fun hc10=>?_)
 ·try simp only[dA,dB,dC,dD,dE,dF,dG,Int.not_lt,Int.not_le] at hc10
  have hp:nameF n=[]:=if_pos hc10
  refine Ab (Aa ?_)
  refine pA (Ac (t_n (Ao (t_r ?_))))
  refine eR1 ?_
  exact⟨by rw[hp];rfl,hX⟩
 try simp only[dA,dB,dC,dD,dE,dF,dG,Int.not_lt,Int.not_le] at hc10
 obtain⟨n0,rfl⟩:∃ k:Nat,n=(k:Int):=⟨n.toNat,by omega⟩
 have hp:nameF (n0:Int)=nameL n0:=by rw[Lk (by omega) (by omega),Int.toNat_natCast]
 refine Ak (t_n (Ab (Aa ?_)))
 refine pA (Ac (t_n (Ab (Ab (Aa ?_)))))
 refine pA (Ac (t_n (Ap ?_)))
 have hWL0:=Ext.refl w1
 refine Bc (ι:=Nat×Nat×List UInt8) ([0,3,4]++rg 11 14) (fun (i,m,acc)=>[(0,.int .i64 (m:Int)),(3,.string (toStr acc)),(4,.int .i64 (i:Int))]) (fun (i,m,acc) w'=>Ext w1 w'∧(i≤6∧m≤999999∧acc.length=i∧dig (6 - i) m++acc=dig 6 n0)) (fun (i,m,acc)=>6 - i) ((0,n0,[])) ⟨rfl,rfl,rfl,trivial⟩ ⟨Ext.refl _,⟨by omega,by omega,rfl,by simp⟩⟩ ?_
 rintro⟨i,m,acc⟩ GL0 w2 ⟨hE2,hi,hm,hal,hL⟩
 have hX:=hX.ext hE2
 have hWL0:=hE2
 refine Ab (Ab (Aa ?_))
 refine pM ?_
 refine p1 (Bi rfl rfl) ?_
 refine Ac (t_n ?_)
 refine As rfl (fun hc12=>?_) (fun hc12=>?_)
 ·try simp only[dA,dB,dC,dD,dE,dF,dG,Int.not_lt,Int.not_le] at hc12
  refine Ak (t_n (Ab (Ap (Ab (Aa ?_)))))
  refine pM ?_
  refine p1 ((Kl rfl rfl (by omega) (by omega)).cast (congrArg _ (by omega:((m:Int) % 10)=((m % 10:Nat):Int)))) ?_
  refine pM ?_
  refine p1 ((Kl rfl rfl (by omega) (by omega)).cast (congrArg _ (by omega:((m:Int) % 10)=((m % 10:Nat):Int)))) ?_
  refine p1 ((A0 rfl rfl (Am (by omega) (by omega))).cast (congrArg _ (by omega:((m % 10:Nat):Int)+1=((m % 10+1:Nat):Int)))) ?_
  refine p1 ((Nr (xs:=digs) u9 rfl rfl rfl (by omega) (by show m % 10+1≤10;omega)).cast (by rw[Adw (m % 10) (by omega)])) ?_
  refine pM ?_
  refine p1 (Ib rfl rfl (by simp;omega)) ?_
  refine pA (Ac (t_n (Aa ?_)))
  refine pM ?_
  refine p1 ((Tl rfl rfl (by omega) (by omega) (Am (by omega) (by omega))).cast (congrArg _ (by omega:((m:Int) / 10)=((m / 10:Nat):Int)))) ?_
  refine pA (Ac (b_n (t_n (Aa ?_))))
  refine pM ?_
  refine p1 (A0 rfl rfl (Am (by omega) (by omega))) ?_
  refine pA (Ac ?_)
  refine t_n (At.mk ((i+1,m / 10,[UInt8.ofNat (48+m % 10 % 10)]++acc)) (by repeat (first | exact Agr.refl _ _ | exact Agr.hav _ _ _ | refine Agr.upd rfl ?_ | refine Agr.updR rfl ?_ | refine Agr.updL ?_ _ rfl | refine Agr.hav' rfl ?_)) ⟨rfl,rfl,rfl,trivial⟩ ?_)
  exact⟨⟨hWL0,⟨by omega,by omega,by simp;omega,by rw[Ab0 (by omega)];exact hL⟩⟩,by(dsimp only;omega)⟩
 try simp only[dA,dB,dC,dD,dE,dF,dG,Int.not_lt,Int.not_le] at hc12
 have h6:i=6:=by omega
 subst h6
 have hacc:acc=dig 6 n0:=hL
 refine A8 (t_e (t_e (Bq (t_n (Ab (Aa ?_))))))
 refine pM ?_
 refine p1 (Ib (xs:=begF) rfl rfl (by show 4+acc.length≤_;omega)) ?_
 refine pA (Ac (t_n (Ao ?_)))
 refine eR1 ?_
 exact⟨by rw[hp,hacc];rfl,hX⟩
theorem Sh (xs:List UInt8) (w:World) :
    Ret Tryz.prog 150 [.string (toStr xs)] w (fun v w'=>(∃ r:Int,v = .int .i64 r∧IsNum xs r)∧Ext w w'):=by
 have hX:=Ext.refl w
 refine eN 35 Tryz.func150 ?_
 refine Ab (Aa ?_)
 refine pA (Ac (t_n (Ab (Ab (Aa ?_)))))
 refine pM ?_
 refine p1 (Kt u9 rfl) ?_
 refine p1 (A2 rfl rfl) ?_
 refine Ac (t_n ?_)
 refine As rfl (fun hc7=>?_) (fun hc7=>?_)
 ·try simp only[dA,dB,dC,dD,dE,dF,dG,Int.not_lt,Int.not_le] at hc7
  have hp:IsNum xs 0:=Ui (by omega)
  refine Ab (Aa ?_)
  refine pA (Ac (t_n (Ao (t_r ?_))))
  refine eR1 ?_
  exact⟨⟨_,rfl,hp⟩,hX⟩
 try simp only[dA,dB,dC,dD,dE,dF,dG,Int.not_lt,Int.not_le] at hc7
 have hlen:xs.length=10:=by omega
 have hsz:(toStr xs).size=10:=by rw[Bo,hlen]
 refine Ak (t_n (Ab (Aa ?_)))
 refine pA (Ac (t_n (Ab (Ab (Aa ?_)))))
 refine pA (Ac (t_n (Ap ?_)))
 have hWL0:=Ext.refl w
 refine Bc (ι:=Nat×Nat) ([2,3,4]++rg 8 22) (fun (k,v)=>[(3,.int .i64 (v:Int)),(4,.int .i64 (k:Int))]) (fun (k,v) w'=>Ext w w'∧(4≤k∧k≤10∧v<10 ^ (k - 4)∧v=valF ((xs.take k).drop 4))) (fun (k,v)=>10 - k) ((4,0)) ⟨rfl,rfl,trivial⟩ ⟨Ext.refl _,⟨by omega,by omega,by simp,by rw[List.drop_of_length_le (by rw[List.length_take];omega)];rfl⟩⟩ ?_
 rintro⟨k,v⟩ GL0 w1 ⟨hE1,hk4,hk,hv,hL⟩
 have hX:=hX.ext hE1
 have hWL0:=hE1
 refine Ab (Ab (Aa ?_))
 refine pM ?_
 refine p1 (Bi rfl rfl) ?_
 refine Ac (t_n ?_)
 refine As rfl (fun hc9=>?_) (fun hc9=>?_)
 ·try simp only[dA,dB,dC,dD,dE,dF,dG,Int.not_lt,Int.not_le] at hc9
  refine Ak (t_n (Ab (Ap (Ab (Ab ?_)))))
  have hWr7:=Ext.refl w1
  refine Dn (ι:=Unit) (rg 12 10) (fun _=>[(21,.bool (decide ((btAt (toStr xs) k).toNat<48∨57<(btAt (toStr xs) k).toNat)))]) (fun _ w'=>Ext w1 w') ?_ ?_
  ·skip
   refine Aa ?_
   refine pM (pM ?_)
   refine p1 (G1 u9 rfl rfl (by omega)) ?_
   refine p1 (Bi rfl rfl) ?_
   refine p1b (Af (by conv=>lhs;whnf)) (fun hb7_4=>?_) (fun hb7_4=>?_)
   ·try simp only[dA,dB,dC,dD,dE,dF,dG,Int.not_lt,Int.not_le] at hb7_4
    refine gF 16 (gF 16 (gF 16 (gF 16 ?_)))
    refine p1 (Ax rfl (by conv=>lhs;whnf)) ?_
    refine Ac ?_
    refine t_n (aK () ⟨congrArg Value.bool (by exact(decide_eq_true (by omega)).symm),trivial⟩ hWr7)
   try simp only[dA,dB,dC,dD,dE,dF,dG,Int.not_lt,Int.not_le] at hb7_4
   refine gM 16 (gM 16 ?_)
   refine g1 16 rfl rfl (G1 u9 rfl rfl (by omega)) ?_
   refine g1 16 rfl rfl (Cw rfl rfl) ?_
   refine p1 (Au rfl (by conv=>lhs;whnf)) ?_
   refine Ac ?_
   refine t_n (aK () ⟨congrArg Value.bool (by exact decide_eq_decide.2 (by omega)),trivial⟩ hWr7)
  rintro _ Gr7 w2 hE2
  have hX:=hX.ext hE2
  have hWL0:=hWL0.ext hE2
  refine t_n ?_
  refine As rfl (fun hc21=>?_) (fun hc21=>?_)
  ·try simp only[dA,dB,dC,dD,dE,dF,dG,Int.not_lt,Int.not_le] at hc21
   have hp:IsNum xs 0:=Add (k:=k) hk4 (by omega) (by rw[← Ve];exact hc21)
   refine Ab (Aa ?_)
   refine pA (Ac (t_n (Ao (t_r (b_r (t_r (t_r (b_r (t_r ?_)))))))))
   refine eR1 ?_
   exact⟨⟨_,rfl,hp⟩,hX⟩
  try simp only[dA,dB,dC,dD,dE,dF,dG,Int.not_lt,Int.not_le] at hc21
  have hbd:=Acq (d:=(btAt (toStr xs) k).toNat - 48) hk4 (by omega) hv (by omega)
  refine Ak (t_n (Aa ?_))
  refine pM ?_
  refine p1 (Iy rfl rfl (Am (by omega) (by omega))) ?_
  refine pM (pM ?_)
  refine p1 (G1 u9 rfl rfl (by omega)) ?_
  refine p1 ((Dg rfl rfl (Lx (by omega) (by omega))).cast (congrArg _ (by omega:(((btAt (toStr xs) k).toNat:Int) - 48)=(((btAt (toStr xs) k).toNat - 48:Nat):Int)))) ?_
  refine p1 (B8 u3 us5 rfl (Am (by omega) (by omega))) ?_
  refine p1 ((A0 rfl rfl (Am (by omega) (by omega))).cast (congrArg _ (by omega:(10 * (v:Int)+(((btAt (toStr xs) k).toNat - 48:Nat):Int))=((10 * v+((btAt (toStr xs) k).toNat - 48):Nat):Int)))) ?_
  refine pA (Ac (b_n (t_n (Aa ?_))))
  refine pM ?_
  refine p1 (A0 rfl rfl (Am (by omega) (by omega))) ?_
  refine pA (Ac ?_)
  refine t_n (At.mk ((k+1,10 * v+((btAt (toStr xs) k).toNat - 48))) (by repeat (first | exact Agr.refl _ _ | exact Agr.hav _ _ _ | refine Agr.upd rfl ?_ | refine Agr.updR rfl ?_ | refine Agr.updL ?_ _ rfl | refine Agr.hav' rfl ?_)) ⟨rfl,rfl,trivial⟩ ?_)
  exact⟨⟨hWL0,⟨by omega,by omega,hbd.1,by rw[Yh hk4 (by omega),← hL,Ve]⟩⟩,by(dsimp only;omega)⟩
 try simp only[dA,dB,dC,dD,dE,dF,dG,Int.not_lt,Int.not_le] at hc9
 have hk10:k=10:=by omega
 subst hk10
 rw[List.take_of_length_le (by omega)] at hL
 refine A8 (t_e (t_e (Bq (t_n (Ab (Ab (Aa ?_)))))))
 refine pM ?_
 refine oC Tryz.func109 (Ih (v:Int) _) ?_
 rintro v3 w3 ⟨rfl,hE3⟩
 have hX:=hX.ext hE3
 refine pM ?_
 refine p1 (Eg rfl rfl) ?_
 refine Ac (t_n ?_)
 refine As rfl (fun hc33=>?_) (fun hc33=>?_)
 ·try simp only[dA,dB,dC,dD,dE,dF,dG,Int.not_lt,Int.not_le] at hc33
  have hp:IsNum xs 0:=Xq (n:=(v:Int)) (fun m _ h2 e=>by rw[hL,e,L7 h2]) (fun e=>hc33 (by rw[e]))
  refine Ab (Aa ?_)
  refine pA (Ac (t_n (Ao (t_r ?_))))
  refine eR1 ?_
  exact⟨⟨_,rfl,hp⟩,hX⟩
 try simp only[dA,dB,dC,dD,dE,dF,dG,Int.not_lt,Int.not_le] at hc33
 have hp:IsNum xs (v:Int):=Uh (fun e=>by rw[e] at hlen;cases hlen) (Fm (Classical.byContradiction hc33))
 refine Ak (t_n (Ab (Aa ?_)))
 refine pM (pA (Ac (t_n (Ao ?_))))
 refine eR1 ?_
 exact⟨⟨_,rfl,hp⟩,hX⟩
theorem Bk (n:Int) (w:World) (hg:Gl w) :
    Ret Tryz.prog 49 [.int .i64 n] w (fun v w'=>v = .string (toStr (nameF n))∧Ext w w'):=by
 have hX:=Ext.refl w
 refine eN 18 Tryz.func49 ?_
 refine Ab (Aa ?_)
 refine pA ?_
 refine Ac (t_n (Ab (Ab ?_)))
 have hWr1:=Ext.refl w
 refine Dn (ι:=Unit) [4,5,6,7,8,9] (fun _=>[(9,.bool (decide (n<1∨999999<n)))]) (fun _ w'=>Ext w w') ?_ ?_
 ·skip
  refine Aa ?_
  refine pM ?_
  refine p1 (Bi rfl rfl) ?_
  refine p1b (Af (by conv=>lhs;whnf)) (fun hb1_2=>?_) (fun hb1_2=>?_)
  ·try simp only[dA,dB,dC,dD,dE,dF,dG,Int.not_lt,Int.not_le] at hb1_2
   refine gF 6 ?_
   refine gF 6 ?_
   refine p1 (Ax rfl (by conv=>lhs;whnf)) ?_
   refine Ac ?_
   refine t_n (aK () ⟨congrArg Value.bool (by exact(decide_eq_true (by omega)).symm),trivial⟩ hWr1)
  try simp only[dA,dB,dC,dD,dE,dF,dG,Int.not_lt,Int.not_le] at hb1_2
  refine gM 6 ?_
  refine g1 6 rfl rfl (Cw rfl rfl) ?_
  refine p1 (Au rfl (by conv=>lhs;whnf)) ?_
  refine Ac ?_
  refine t_n (aK () ⟨congrArg Value.bool (by exact decide_eq_decide.2 (by omega)),trivial⟩ hWr1)
 rintro _ Gr1 w1 hE1
 have hX:=hX.ext hE1
 refine t_n ?_
 refine As rfl (fun hc9=>?_) (fun hc9=>?_)
 ·try simp only[dA,dB,dC,dD,dE,dF,dG,Int.not_lt,Int.not_le] at hc9
  have hp:nameF n=[]:=if_pos hc9
  refine Ab (Aa ?_)
  refine pA ?_
  refine Ac (t_n (Ao (t_r ?_)))
  refine eR1 ?_
  exact⟨by rw[hp];rfl,hX⟩
 try simp only[dA,dB,dC,dD,dE,dF,dG,Int.not_lt,Int.not_le] at hc9
 have hin:=Y9 (n:=n) (by omega) (by omega)
 have hp:nameF n=nameL n.toNat:=Lk (by omega) (by omega)
 refine Ak (t_n (Ab (Aa ?_)))
 refine pM ?_
 refine oC Tryz.func96 (Abb n (by omega) (by omega) _ (hg.ext hX)) ?_
 rintro v2 w2 ⟨rfl,hE2⟩
 have hX:=hX.ext hE2
 refine pA ?_
 refine Ac (t_n (Ab (Aa ?_)))
 refine pM ?_
 refine p1 (Kt u9 rfl) ?_
 refine p1 (Og (xs:=List.replicate 6 48) u9 rfl rfl (by rw[List.length_replicate];exact hin.1)) ?_
 refine p1 (Ib (xs:=begF) rfl rfl (by rw[List.length_drop,List.length_replicate];show 4+_≤_;omega)) ?_
 refine pM ?_
 refine p1 (Ib rfl rfl (by rw[List.length_append,List.length_drop,List.length_replicate];show 4+_+_≤_;omega)) ?_
 refine pA ?_
 refine Ac (t_n (Ao ?_))
 refine eR1 ?_
 exact⟨by rw[hp,← hin.2,List.drop_replicate,List.append_assoc],hX⟩
theorem Oz (xs:List UInt8) (w:World) (hg:Gl w) :
    Ret Tryz.prog 36 [.string (toStr xs)] w (fun v w'=>(∃ r:Int,v = .int .i64 r∧IsNum xs r)∧Ext w w'):=by
 have hX:=Ext.refl w
 refine eN 33 Tryz.func36 ?_
 refine Ab (Aa ?_)
 refine pA (Ac (t_n (Ab (Aa ?_))))
 refine pM ?_
 refine oC Tryz.func85 (Adx xs _) ?_
 rintro v1 w1 ⟨⟨hp,s2,rfl,hh1,hh0⟩,hE1⟩
 have hX:=hX.ext hE1
 refine pM ?_
 refine p1 (Aj rfl rfl) ?_
 refine p1 (Aj rfl rfl) ?_
 refine pA (pA (Ac (t_n (Ab (Ab ?_)))))
 have hWr2:=Ext.refl w1
 refine Dn (ι:=Unit) [12,13,14,15,16,17,18] (fun _=>[(18,.bool (decide (hp=false∨s2.length≠6)))]) (fun _ w'=>Ext w1 w') ?_ ?_
 ·skip
  refine Aa ?_
  refine pM ?_
  refine p1 (Ht rfl) ?_
  refine p1b (Af (by conv=>lhs;whnf)) (fun hb2_2=>?_) (fun hb2_2=>?_)
  ·refine gF 14 (gF 14 (gF 14 ?_))
   refine p1 (Ax rfl (by conv=>lhs;whnf)) ?_
   refine Ac ?_
   refine t_n (aK () ⟨congrArg Value.bool (by(simp_all;done)),trivial⟩ hWr2)
  refine gM 14 ?_
  refine g1 14 rfl rfl (Kt u9 rfl) ?_
  refine g1 14 rfl rfl (A2 rfl rfl) ?_
  refine p1 (Au rfl (by conv=>lhs;whnf)) ?_
  refine Ac ?_
  refine t_n (aK () ⟨congrArg Value.bool (by grind),trivial⟩ hWr2)
 rintro _ Gr2 w2 hE2
 have hX:=hX.ext hE2
 refine t_n ?_
 refine As rfl (fun hc18=>?_) (fun hc18=>?_)
 ·have hpp:IsNum xs 0:=Adc hh1 hh0 hc18
  refine Ab (Aa ?_)
  refine pA (Ac (t_n (Ao (t_r ?_))))
  refine eR1 ?_
  exact⟨⟨_,rfl,hpp⟩,hX⟩
 have hpt:hp=true:=by cases hp;(· exact absurd (.inl rfl) hc18);(· rfl)
 have hs6:s2.length=6:=Classical.byContradiction fun h=>hc18 (.inr h)
 have hxs:=hh1 hpt
 refine Ak (t_n (Ab (Aa ?_)))
 refine pM ?_
 refine oC Tryz.func86 (Ab9 s2 (by omega) _ (hg.ext hX)) ?_
 rintro v3 w3 ⟨⟨r,ev,b,rfl,hA⟩,hE3⟩
 have hX:=hX.ext hE3
 refine pM ?_
 refine p1 (Aj rfl rfl) ?_
 refine p1 (Aj rfl rfl) ?_
 refine pA (pA (Ac (t_n (Ab (Ab ?_)))))
 have hWr5:=Ext.refl w3
 refine Dn (ι:=Unit) [24,25,26,27,28,29,30,31] (fun _=>[(31,.bool (decide (b=true∨toStr (nameF r)≠toStr xs)))]) (fun _ w'=>Ext w3 w') ?_ ?_
 ·skip
  refine Aa ?_
  refine pM ?_
  refine p1 (Yb u51i rfl rfl (hA.imp (fun h=>⟨h.1,h.2.2⟩) fun h=>⟨h.1,h.2.2⟩)) ?_
  refine p1b (Af (by conv=>lhs;whnf)) (fun hb5_2=>?_) (fun hb5_2=>?_)
  ·refine gF 26 (gF 26 (gF 26 (gF 26 ?_)))
   refine p1 (Ax rfl (by conv=>lhs;whnf)) ?_
   refine Ac ?_
   refine t_n (aK () ⟨congrArg Value.bool (by(simp_all;done)),trivial⟩ hWr5)
  refine gM 26 ?_
  refine Cd 26 rfl rfl ?_
  refine oC Tryz.func49 (Bk r _ (hg.ext hX)) ?_
  rintro v5 w5 ⟨rfl,hE5⟩
  have hWr5:=hWr5.ext hE5
  refine gM 26 ?_
  refine g1 26 rfl rfl (Eg rfl rfl) ?_
  refine p1 (Au rfl (by conv=>lhs;whnf)) ?_
  refine Ac ?_
  refine t_n (aK () ⟨congrArg Value.bool (by(simp_all;done)),trivial⟩ hWr5)
 rintro _ Gr5 w4 hE4
 have hX:=hX.ext hE4
 refine t_n ?_
 refine As rfl (fun hc31=>?_) (fun hc31=>?_)
 ·have hpp:IsNum xs 0:=Aaz hxs hA hc31
  refine Ab (Aa ?_)
  refine pA (Ac (t_n (Ao (t_r ?_))))
  refine eR1 ?_
  exact⟨⟨_,rfl,hpp⟩,hX⟩
 have hpp:IsNum xs r:=Uh (fun e=>by have:=congrArg List.length hxs;rw[e,List.length_append] at this;simp[begF] at this;omega) (Fm (Classical.byContradiction fun h=>hc31 (.inr h)))
 refine Ak (t_n (Ab (Aa ?_)))
 refine pM (pA (Ac (t_n (Ao ?_))))
 refine eR1 ?_
 exact⟨⟨_,rfl,hpp⟩,hX⟩
end Go.Proofs.Eng
end
section
set_option maxRecDepth 100000
set_option maxHeartbeats 4000000
namespace Go.Proofs.Eng
open Go.RowKit
open Extern.Stop (cell)
end Go.Proofs.Eng
end
section
set_option maxRecDepth 100000
set_option maxHeartbeats 4000000
namespace Go.Proofs.Eng
open Go.RowKit
open Extern.Stop (cell)
theorem Nu (s:ByteArray) (w:World) (hg:Gl w):Ret Tryz.prog 36 [.string s] w (fun v w'=>(∃ r:Int,v = .int .i64 r∧(r=0↔¬ SegN s))∧Ext w w'):=by
  have h:=Oz s.data.toList w hg
  rw[K7] at h
  refine h.imp ?_
  rintro v w' ⟨⟨r,rfl,hr⟩,hx⟩
  have:=Rr hr
  rw[K7] at this
  exact⟨⟨r,rfl,this⟩,hx⟩
theorem Nq {keep:ByteArray} {ns:List ByteArray} {k:Nat} (h:k<ns.length) (D:DS):cleanL keep D (ns.drop k)=if keepN (ns.getD k ByteArray.empty) keep=true then cleanL keep D (ns.drop (k+1)) else andD (B3 D (ns.getD k ByteArray.empty)) fun D=>cleanL keep D (ns.drop (k+1)):=by
  rw[List.drop_eq_getElem_cons h,List.getD_eq_getElem?_getD,List.getElem?_eq_getElem h];rfl
theorem Good.few {D:DS} {i:Nat} (h:Good D i):D.l.length≤64:=h.ok.few
theorem Iu (gd:Nat) (S:Nat→Prop) (D:DS) (w:World) (hD:Dsk S w gd D) (hok:DOk D) (hst:D.steps<4611686018427380000) (hle:D.left≤9223372036854775807) (hnm:∀ x∈D.l,Bg x.1=true) (hS:∀ k,S k→6≤k) (hg:Gt w) (keep:ByteArray) :
    Ret Tryz.prog 47 [.pointer (some ⟨gd,0,none⟩),.string keep] w (fun v w'=>v = .int .i64 (cleanD D keep).2∧Dsk (grow S w w') w' gd (cleanD D keep).1∧ModS S ED w w'):=by
 have hgs:=hg.size
 have hX:=ModS.refl S ED w
 refine eN 34 Tryz.func47 ?_
 refine Ab (Aa ?_)
 refine pA (Ac (t_n (Ab (Ab (Aa ?_)))))
 refine pM ?_
 refine oC Tryz.func35 (My gd S D _ hD hok) ?_
 rintro v1 w1 ⟨⟨qn,cn,rfl,hN⟩,hE1⟩
 have hX:=hX.ext hE1
 have hD:=hD.ext hE1
 have hg:=hg.ext hE1
 have hN:=hN.sl
 refine p1 (Ar u74 rfl) ?_
 refine pM (Ac (t_n (Ap ?_)))
 have hfew:=hok.few
 have hnl:(D.l.map (·.1)).length=D.l.length:=List.length_map _
 refine Bc (ι:=Nat) ([4,6,7]++rg 11 23) (fun k=>[(11,.int .i64 (k:Int))]) (fun k w'=>ModS S ED w w'∧(k≤D.l.length∧Sl kStr 9 0 w' qn D.l.length cn (D.l.map (·.1))∧Gt w'∧∃ Dk,Dsk (grow S w w') w' gd Dk∧Good Dk (D.steps+k)∧cleanD D keep=cleanL keep Dk ((D.l.map (·.1)).drop k))) (fun k=>D.l.length - k) (0) ⟨rfl,trivial⟩ ⟨hX,Nat.zero_le _,hN,hg,D,hD.grown w,⟨hok,Nat.le_refl _,hle,hnm⟩,rfl⟩ ?_
 rintro k GL0 w2 ⟨hE2,hk,hN,hg,Dk,hD,hgk,hcl⟩
 have hX:=hE2
 refine Ab (Aa ?_)
 refine p1 (Bi rfl rfl) ?_
 refine Ac (t_n (Ab ?_))
 refine As rfl (fun hc12=>?_) (fun hc12=>?_)
 ·refine Ak (t_n (Ab (Ap (Ab ?_))))
  have hcd:=Nq (keep:=keep) (ns:=D.l.map (·.1)) (k:=k) (by omega) Dk
  have hnk:Bg ((D.l.map (·.1)).getD k ByteArray.empty)=true:=by
    have hm:=Dq (z:=ByteArray.empty) (xs:=D.l.map (·.1)) (i:=k) (by omega) rfl
    obtain⟨x,hx,e⟩:=List.mem_map.1 hm
    rw[← e];exact hnm x hx
  have hsz:=Ik hnk
  refine Aa ?_
  refine p1 (Cr u74 sz9 rfl rfl (hN.adr Ej (by omega)) (by omega)) ?_
  refine p1 (Ae un9 rfl (hN.strAt _ (by omega))) ?_
  refine pA (Ac (t_n (Ab (Ab ?_))))
  have hWr4:=Ext.refl w2
  refine Dn (ι:=Unit) (rg 15 12) (fun _=>[(26,.bool (keepN ((D.l.map (·.1)).getD k ByteArray.empty) keep))]) (fun _ w'=>Ext w2 w') ?_ ?_
  ·skip
   refine Aa ?_
   refine pM ?_
   refine p1 (Eg rfl (show _=Value.string nNew from rfl)) ?_
   refine p1b (Af (by conv=>lhs;whnf)) (fun hb4_2=>?_) (fun hb4_2=>?_)
   ·refine gM 17 ?_
    refine Cd 17 rfl rfl ?_
    refine oC Tryz.func36 (Nu _ _ hg.l) ?_
    rintro v4 w4 ⟨⟨rn,rfl,hrn⟩,hE4⟩
    have hWr4:=hWr4.ext hE4
    refine g1 17 rfl rfl (Bw rfl rfl) ?_
    refine g1b 17 rfl rfl (Af (by conv=>lhs;whnf)) (fun hb4_6=>?_) (fun hb4_6=>?_)
    ·refine gF 21 (gF 21 (gF 21 ?_))
     refine g1 17 rfl rfl (Ax rfl (by conv=>lhs;whnf)) ?_
     refine p1 (Ax rfl (by conv=>lhs;whnf)) ?_
     refine Ac ?_
     refine t_n (aK () ⟨congrArg Value.bool (by have hk9:=Fw (n:=((D.l.map (·.1)).getD k ByteArray.empty)) (keep:=keep);grind),trivial⟩ hWr4)
    refine gM 21 (gM 21 ?_)
    refine g1 21 rfl rfl (Fj rfl rfl) ?_
    refine g1 17 rfl rfl (Au rfl (by conv=>lhs;whnf)) ?_
    refine p1 (Ax rfl (by conv=>lhs;whnf)) ?_
    refine Ac ?_
    refine t_n (aK () ⟨congrArg Value.bool (by have hk9:=Fw (n:=((D.l.map (·.1)).getD k ByteArray.empty)) (keep:=keep);grind),trivial⟩ hWr4)
   refine gF 17 (gF 17 (gF 17 (gF 17 (gF 21 (gF 21 (gF 21 (gF 17 ?_)))))))
   refine p1 (Au rfl (by conv=>lhs;whnf)) ?_
   refine Ac ?_
   refine t_n (aK () ⟨congrArg Value.bool (by have hk9:=Fw (n:=((D.l.map (·.1)).getD k ByteArray.empty)) (keep:=keep);grind),trivial⟩ hWr4)
  rintro _ Gr4 w3 hE3
  have hX:=hX.ext hE3
  have hN:=hN.ext hE3
  have hg:=hg.ext hE3
  have hD:=hD.ext hE3
  refine t_n ?_
  refine Dm rfl (fun hc26=>?_) (fun hc26=>?_)
  ·have hcn:=hcl.trans (hcd.trans (if_pos hc26))
   refine A8 (t_e (Bq (t_n (Aa ?_))))
   refine p1 (A0 rfl rfl (Am (by omega) (by omega))) ?_
   refine pM (Ac ?_)
   refine t_n (aK (k+1) ⟨rfl,trivial⟩ ?_)
   exact⟨⟨hX,by omega,hN,hg,by exact⟨Dk,hD.more,hgk.mono (by omega),hcn⟩⟩,by((show _<_);omega)⟩
  have hcn:=hcl.trans (hcd.trans (if_neg (by rw[hc26];simp)))
  have hgr:=Dr hgk ((D.l.map (·.1)).getD k ByteArray.empty)
  refine Ak (t_n (Ab (Aa ?_)))
  refine pM (pM ?_)
  have hD:=hD.more
  have hXs:=hX.size
  refine oC Tryz.func95 (D0 gd _ Dk _ hD hgk.ok (by have:=hgk.steps;omega) hgk.left ((D.l.map (·.1)).getD k ByteArray.empty) (by omega)) ?_
  rintro v5 w5 ⟨rfl,hD2,hM2⟩
  have hD:=hD2.mono (grow2 hXs hM2.size)
  have hX:=hX.step hM2
  have hN:=hN.modS hM2 (fun _ _=>Nat.zero_le _) (by decide)
  have hg:=hg.modS hM2 (Jg hS hgs)
  skip
  refine pA (Ac (t_n (Ab (Aa ?_))))
  refine pM ?_
  refine p1 (A2 rfl rfl) ?_
  refine Ac (t_n ?_)
  refine As rfl (fun hc31=>?_) (fun hc31=>?_)
  ·refine Ab (Aa ?_)
   refine pM (pA (Ac (t_n (Ao (b_r (t_r (t_r (b_r (t_r ?_)))))))))
   refine eR1 ?_
   exact⟨by rw[hcn,andD,if_neg hc31],by rw[hcn,andD,if_neg hc31];exact hD,hX⟩
  refine Ak (b_n (t_n (Aa ?_)))
  refine p1 (A0 rfl rfl (Am (by omega) (by omega))) ?_
  refine pM (Ac ?_)
  refine t_n (aK (k+1) ⟨rfl,trivial⟩ ?_)
  exact⟨⟨hX,by omega,hN,hg,by exact⟨_,hD,hgr.mono (by omega),by rw[hcn,andD,if_pos (by omega)]⟩⟩,by((show _<_);omega)⟩
 refine A8 (t_e (t_e (Bq (t_n (Ab (Aa ?_))))))
 refine pA (Ac (t_n (Ao ?_)))
 refine eR1 ?_
 (have hz:(D.l.map (·.1)).drop k=[]:=List.drop_eq_nil_of_le (by omega)
  rw[hz] at hcl
  rw[hcl]
  exact⟨rfl,hD,hX⟩)
end Go.Proofs.Eng
end
section
set_option maxRecDepth 100000
set_option maxHeartbeats 4000000
namespace Go.Proofs.Eng
open Go.RowKit
open Extern.Stop (cell)
theorem D7 (x n:Int) (w:World) (h0:0≤n) (h1:n≤32) :
    Ret Tryz.prog 162 [.int .u32 x,.int .u64 n] w (fun v w'=>v = .int .u32 (rotW x n)∧Ext w w'):=by
 have hX:=Ext.refl w
 refine eN 13 Tryz.func162 ?_
 refine Ab (Aa ?_)
 refine pA (Ac (t_n (Ab (Aa ?_))))
 refine pM (pM ?_)
 refine p1 (Fa rfl rfl (by omega)) ?_
 refine pM (pM ?_)
 refine p1 (Dg rfl rfl (Ct (by omega) (by omega))) ?_
 refine p1 (M1 rfl rfl (by omega)) ?_
 refine p1 (Tm rfl rfl) ?_
 refine pA (Ac (t_n (Ao ?_)))
 refine eR1 ?_
 exact⟨rfl,hX⟩
theorem De (x n:Int) (w:World) (h0:0≤n) (h1:n≤32) :
    Ret Tryz.prog 202 [.int .u32 x,.int .u64 n] w (fun v w'=>v = .int .u32 (rotW x n)∧Ext w w'):=by
 have hX:=Ext.refl w
 refine eN 13 Tryz.func202 ?_
 refine Ab (Aa ?_)
 refine pA (Ac (t_n (Ab (Aa ?_))))
 refine pM (pM ?_)
 refine p1 (Fa rfl rfl (by omega)) ?_
 refine pM (pM ?_)
 refine p1 (Dg rfl rfl (Ct (by omega) (by omega))) ?_
 refine p1 (M1 rfl rfl (by omega)) ?_
 refine p1 (Tm rfl rfl) ?_
 refine pA (Ac (t_n (Ao ?_)))
 refine eR1 ?_
 exact⟨rfl,hX⟩
theorem bt82:Tryz.prog.built 213 [(0,.int .u32 (kTab.getD 0 0)),(1,.int .u32 (kTab.getD 1 0)),(2,.int .u32 (kTab.getD 2 0)),(3,.int .u32 (kTab.getD 3 0)),(4,.int .u32 (kTab.getD 4 0)),(5,.int .u32 (kTab.getD 5 0)),(6,.int .u32 (kTab.getD 6 0)),(7,.int .u32 (kTab.getD 7 0)),(8,.int .u32 (kTab.getD 8 0)),(9,.int .u32 (kTab.getD 9 0)),(10,.int .u32 (kTab.getD 10 0)),(11,.int .u32 (kTab.getD 11 0)),(12,.int .u32 (kTab.getD 12 0)),(13,.int .u32 (kTab.getD 13 0)),(14,.int .u32 (kTab.getD 14 0)),(15,.int .u32 (kTab.getD 15 0)),(16,.int .u32 (kTab.getD 16 0)),(17,.int .u32 (kTab.getD 17 0)),(18,.int .u32 (kTab.getD 18 0)),(19,.int .u32 (kTab.getD 19 0)),(20,.int .u32 (kTab.getD 20 0)),(21,.int .u32 (kTab.getD 21 0)),(22,.int .u32 (kTab.getD 22 0)),(23,.int .u32 (kTab.getD 23 0)),(24,.int .u32 (kTab.getD 24 0)),(25,.int .u32 (kTab.getD 25 0)),(26,.int .u32 (kTab.getD 26 0)),(27,.int .u32 (kTab.getD 27 0)),(28,.int .u32 (kTab.getD 28 0)),(29,.int .u32 (kTab.getD 29 0)),(30,.int .u32 (kTab.getD 30 0)),(31,.int .u32 (kTab.getD 31 0)),(32,.int .u32 (kTab.getD 32 0)),(33,.int .u32 (kTab.getD 33 0)),(34,.int .u32 (kTab.getD 34 0)),(35,.int .u32 (kTab.getD 35 0)),(36,.int .u32 (kTab.getD 36 0)),(37,.int .u32 (kTab.getD 37 0)),(38,.int .u32 (kTab.getD 38 0)),(39,.int .u32 (kTab.getD 39 0)),(40,.int .u32 (kTab.getD 40 0)),(41,.int .u32 (kTab.getD 41 0)),(42,.int .u32 (kTab.getD 42 0)),(43,.int .u32 (kTab.getD 43 0)),(44,.int .u32 (kTab.getD 44 0)),(45,.int .u32 (kTab.getD 45 0)),(46,.int .u32 (kTab.getD 46 0)),(47,.int .u32 (kTab.getD 47 0)),(48,.int .u32 (kTab.getD 48 0)),(49,.int .u32 (kTab.getD 49 0)),(50,.int .u32 (kTab.getD 50 0)),(51,.int .u32 (kTab.getD 51 0)),(52,.int .u32 (kTab.getD 52 0)),(53,.int .u32 (kTab.getD 53 0)),(54,.int .u32 (kTab.getD 54 0)),(55,.int .u32 (kTab.getD 55 0)),(56,.int .u32 (kTab.getD 56 0)),(57,.int .u32 (kTab.getD 57 0)),(58,.int .u32 (kTab.getD 58 0)),(59,.int .u32 (kTab.getD 59 0)),(60,.int .u32 (kTab.getD 60 0)),(61,.int .u32 (kTab.getD 61 0)),(62,.int .u32 (kTab.getD 62 0)),(63,.int .u32 (kTab.getD 63 0))]=some (wds kTab):=by kernel_rfl
theorem pa64:Co Tryz.prog 175=some (.agg #[.int .u32 0,.int .u32 0,.int .u32 0,.int .u32 0,.int .u32 0,.int .u32 0,.int .u32 0,.int .u32 0],[(0,1),(1,1),(2,1),(3,1),(4,1),(5,1),(6,1),(7,1)]):=by kernel_rfl
theorem O8 (i:Nat) (w:World) (hi:i<64) :
    Ret Tryz.prog 203 [.int .i64 (i:Int)] w (fun v w'=>v = .int .u32 (kTab.getD i 0)∧Ext w w'):=by
 have hX:=Ext.refl w
 refine eN 8 Tryz.func203 ?_
 refine Ab (Aa ?_)
 refine pA (Ac (t_n (Ab (Aa ?_))))
 refine p1 (Zx bt82 rfl) ?_
 have sX:=hX.size
 refine Ay zr213 ?_
 intro w1 g3 hN3
 have hE1:=hN3.ext
 have hX:=hX.ext hE1
 have hB3:=hN3.blk
 have e3:=hN3.g_eq
 refine Al rfl (by conv=>lhs;whnf) (Hc _) (by rw[Cn];exact sz213) hB3 (by rfl) ?_
 intro w2 hP2
 have hX:=hX.put hP2 (by omega)
 have hB3:=hP2.blk
 refine Ac (t_n (Ab (Aa ?_)))
 refine pM ?_
 refine p1 (A6 u213 sz174 rfl rfl (by omega)) ?_
 refine p1 (Ae un174 rfl (hB3.cell (Dh (by rw[Uq];exact hi)))) ?_
 refine pA (Ac (t_n (Ao ?_)))
 refine eR1 ?_
 exact⟨rfl,hX⟩
theorem fill8 (s:W8):Instr.fill (fun i=>([(0,1),(1,1),(2,1),(3,1),(4,1),(5,1),(6,1),(7,1)]:List (Nat×Nat))[i]?) (Value.agg #[.int .u32 0,.int .u32 0,.int .u32 0,.int .u32 0,.int .u32 0,.int .u32 0,.int .u32 0,.int .u32 0]).cells [(0,.int .u32 s.a),(1,.int .u32 s.b),(2,.int .u32 s.c),(3,.int .u32 s.d),(4,.int .u32 s.e),(5,.int .u32 s.f),(6,.int .u32 s.g),(7,.int .u32 s.h)]=some (wds s.l):=by first | kernel_rfl | (simp[Instr.fill,Value.cells,wds,W8.l];done)
theorem Ol {n:Nat} {f:Nat→Value} {w:World} {dst:Option Nat} {ty0:TypeId} {pos:String} {aft:Array Edge} {gd:Option (Nat×Bool)} {parts:List (Nat×Operand)} (s:W8) (hp:evP n f parts=[(0,.int .u32 s.a),(1,.int .u32 s.b),(2,.int .u32 s.c),(3,.int .u32 s.d),(4,.int .u32 s.e),(5,.int .u32 s.f),(6,.int .u32 s.g),(7,.int .u32 s.h)]):Ex Tryz.prog w n f ⟨dst,.build 175 parts.toArray,ty0,pos,aft,gd⟩ (.agg (wds s.l)) :=
  Eb pa64 hp (fill8 s)
theorem T5 (s:W8) (xs:List UInt8) (B:Nat) (p:Option Addr) (c:Nat) (w:World) (hl:Sl kByte 5 B w p 64 c xs) :
    Ret Tryz.prog 159 [.agg (wds s.l),.slice p 64 c] w (fun v w'=>v = .agg (wds (mixF s xs).l)∧Ext w w'):=by
 have hX:=Ext.refl w
 refine eN 178 Tryz.func159 ?_
 refine Ab (Aa ?_)
 refine Bu (by conv=>lhs;whnf) ?_
 intro w1 g2 hN2
 have hE1:=hN2.ext
 have hX:=hX.ext hE1
 have hB2:=hN2.blk
 have l2:=hB2.lt
 refine Ay zr175 ?_
 intro w2 g4 hN4
 have hE2:=hN4.ext
 have hX:=hX.ext hE2
 have hB2:=hB2.ext hE2
 have hB4:=hN4.blk
 refine Ac (t_n (Ab (Aa ?_)))
 have l4:=hB4.lt
 refine Ay zr213 ?_
 intro w3 g5 hN5
 have hE3:=hN5.ext
 have hX:=hX.ext hE3
 have hB2:=hB2.ext hE3
 have hB4:=hB4.ext hE3
 have hB5:=hN5.blk
 refine Ac (t_n (Ab (Ab ?_)))
 have e2:=hN2.g_eq
 have e4:=hN4.g_eq
 have e5:=hN5.g_eq
 have hB4:Blk _ g4 (wds (List.replicate 8 0)) 175:=hB4
 have hB5:Blk _ g5 (wds (List.replicate 64 0)) 213:=hB5
 have hg2:w.heap.size≤g2:=by omega
 have z1:=hE1.size
 have z2:=hE2.size
 have h24:g2<g4:=by omega
 have h45:g4<g5:=by omega
 have hlen:=hl.len
 refine Aa ?_
 refine pA (Ac (t_n (Ap ?_)))
 refine Bc (ι:=Nat) ([6,7]++rg 18 23) (fun i=>[(6,.int .i64 (i:Int))]) (fun i w'=>Ext w w'∧(i≤16∧Blk w' g2 (wds s.l) 175∧Blk w' g4 (wds (List.replicate 8 0)) 175∧Blk w' g5 (wds (ownW xs i)) 213)) (fun i=>16 - i) (0) ⟨rfl,trivial⟩ ⟨hX,⟨by omega,hB2,hB4,hB5⟩⟩ ?_
 rintro i GL0 w4 ⟨hE4,hi,hB2,hB4,hB5⟩
 have hX:=hE4
 refine Ab (Ab (Aa ?_))
 refine pM ?_
 refine p1 (Bi rfl rfl) ?_
 refine Ac (t_n ?_)
 refine As rfl (fun hc19=>?_) (fun hc19=>?_)
 ·refine Ak (t_n (Ab (Ap (Ab (Aa ?_)))))
  refine pA (Ac (t_n (Ap ?_)))
  refine Bc (ι:=Nat) ([7]++rg 22 19) (fun k=>[(7,.int .i64 (k:Int))]) (fun k w'=>Ext w w'∧(k≤4∧Blk w' g2 (wds s.l) 175∧Blk w' g4 (wds (List.replicate 8 0)) 175∧Blk w' g5 (wds ((ownW xs i).set i (accB xs (4 * i) k))) 213)) (fun k=>4 - k) (0) ⟨rfl,trivial⟩ ⟨hX,⟨by omega,hB2,hB4,by rw[show accB xs (4 * i) 0=0 from rfl,Aag (Ra xs i i (Nat.le_refl _)) (by rw[Cj];omega)];exact hB5⟩⟩ ?_
  rintro k GL2 w5 ⟨hE5,hk,hB2,hB4,hB5⟩
  have hX:=hE5
  refine Ab (Ab (Aa ?_))
  refine pM ?_
  refine p1 (Bi rfl rfl) ?_
  refine Ac (t_n ?_)
  refine As rfl (fun hc23=>?_) (fun hc23=>?_)
  ·refine Ak (t_n (Ab (Ap ?_)))
   refine Cx 15 mixed (by kernel_rfl) ?_
   intro w6 hE6
   have hX:=hX.ext hE6
   have hB2:=hB2.ext hE6
   have hB4:=hB4.ext hE6
   have hB5:=hB5.ext hE6
   refine s1 (Af (by conv=>lhs;whnf)) ?_
   refine s1 (Af (by conv=>lhs;whnf)) ?_
   refine s1 (A6 u213 sz174 rfl rfl (by omega)) ?_
   refine s1 ((Ae un174 rfl (hB5.cell (Dh (by rw[List.length_set,Cj];omega)))).cast (congrArg _ (Abk (by rw[Cj];omega)))) ?_
   refine s1 (Zq rfl rfl) ?_
   refine s1 (Af (by conv=>lhs;whnf)) ?_
   refine s1 (Af (by conv=>lhs;whnf)) ?_
   refine s1 (Iy rfl rfl (Am (by omega) (by omega))) ?_
   refine s1 (Af (by conv=>lhs;whnf)) ?_
   refine s1 ((A0 rfl rfl (Am (by omega) (by omega))).cast (congrArg _ (by omega:(4:Int) * (i:Int)+(k:Int)=((4 * i+k:Nat):Int)))) ?_
   have hx8:=(xs.getD (4 * i+k) 0).toNat_lt
   refine s1 (Cr u23 sz5 rfl rfl ((hl.ext hX).adr Bb (by omega)) (by omega)) ?_
   refine s1 (Ae un5 rfl ((hl.ext hX).byteAt (4 * i+k) (by omega))) ?_
   refine s1 (B8 u174 us5 rfl (F9 (by omega) (by omega))) ?_
   refine s1 (C8 rfl rfl) ?_
   refine s1 (A6 u213 sz174 rfl rfl (by omega)) ?_
   refine Bx ?_
   refine Aw rfl (by conv=>lhs;whnf) rfl rfl sz174 hB5 (by rw[Cn,List.length_set,Cj];omega) ?_
   intro w7 hP7
   have hX:=hX.put hP7 (by omega)
   have hB2:=hP7.keep hB2 (by omega)
   have hB4:=hP7.keep hB4 (by omega)
   have hB5:=hP7.blk
   rw[Jt,List.set_set] at hB5
   refine Ac (b_n (t_n (Aa ?_)))
   refine pM ?_
   refine p1 (A0 rfl rfl (Am (by omega) (by omega))) ?_
   refine pA (Ac ?_)
   refine t_n (aK (k+1) ⟨rfl,trivial⟩ ?_)
   exact⟨⟨hX,⟨by omega,hB2,hB4,hB5⟩⟩,by((show _<_);omega)⟩
  have h4:k=4:=by omega
  subst h4
  rw[Ae0] at hB5
  refine A8 (t_e (t_e (Bq (b_n (t_n (Aa ?_))))))
  refine pM ?_
  refine p1 (A0 rfl rfl (Am (by omega) (by omega))) ?_
  refine pA (Ac ?_)
  refine t_n (aK (i+1) ⟨rfl,trivial⟩ ?_)
  exact⟨⟨hX,⟨by omega,hB2,hB4,hB5⟩⟩,by((show _<_);omega)⟩
 have h16:i=16:=by omega
 subst h16
 refine A8 (t_e (t_e (Bq (t_n (Ab (Ab (Aa ?_)))))))
 refine pA (Ac (t_n (Ap ?_)))
 refine Bc (ι:=Nat) ([8,9,10]++rg 41 41) (fun m=>[(8,.int .i64 ((16+m:Nat):Int))]) (fun m w'=>Ext w w'∧(m≤48∧Blk w' g2 (wds s.l) 175∧Blk w' g4 (wds (List.replicate 8 0)) 175∧Blk w' g5 (wds (extW (ownW xs 16) m)) 213)) (fun m=>48 - m) (0) ⟨rfl,trivial⟩ ⟨hX,⟨by omega,hB2,hB4,hB5⟩⟩ ?_
 rintro m GL4 w8 ⟨hE8,hm,hB2,hB4,hB5⟩
 have hX:=hE8
 refine Ab (Ab (Aa ?_))
 refine pM ?_
 refine p1 (Bi rfl rfl) ?_
 refine Ac (t_n ?_)
 refine As rfl (fun hc42=>?_) (fun hc42=>?_)
 ·refine Ak (t_n (Ab (Ap (Ab ?_))))
  refine Cy mixed (by kernel_rfl) ?_
  intro w9 hE9
  have hX:=hX.ext hE9
  have hB2:=hB2.ext hE9
  have hB4:=hB4.ext hE9
  have hB5:=hB5.ext hE9
  refine s1 (Af (by conv=>lhs;whnf)) ?_
  refine s1 ((Dg rfl rfl (Am (by omega) (by omega))).cast (congrArg _ (by omega:((16+m:Nat):Int) - 15=((16+m - 15:Nat):Int)))) ?_
  refine s1 (A6 u213 sz174 rfl rfl (by omega)) ?_
  refine s1 (Ae un174 rfl (hB5.cell (Dh (by rw[C7,Cj];omega)))) ?_
  refine s1 (Af (by conv=>lhs;whnf)) ?_
  refine s1 ((Dg rfl rfl (Am (by omega) (by omega))).cast (congrArg _ (by omega:((16+m:Nat):Int) - 2=((16+m - 2:Nat):Int)))) ?_
  refine s1 (A6 u213 sz174 rfl rfl (by omega)) ?_
  refine s1 (Ae un174 rfl (hB5.cell (Dh (by rw[C7,Cj];omega)))) ?_
  refine s1 (Ah (by conv=>lhs;whnf)) ?_
  refine s1 (Ah (by conv=>lhs;whnf)) ?_
  refine Bx (t_n ?_)
  refine Bj (fun _ w2=>Rd w2 g5 (16+m) (extW (ownW xs 16) m)) mixed ?_
  intro w10 hE10
  have hX:=hX.ext hE10
  have hB2:=hB2.ext hE10
  have hB4:=hB4.ext hE10
  have hB5:=hB5.ext hE10
  have hSr13:(fun _ w2=>Rd w2 g5 (16+m) (extW (ownW xs 16) m)) w10 w10:=Aal hB5 (by rw[C7,Cj];omega)
  have hRd:=Aal (n:=16+m) hB5 (by rw[C7,Cj];omega)
  refine hT 0 rfl hSr13 (fun wS hSS=>by(exact(Af (by conv=>lhs;whnf)))) ?_
  refine hT 1 rfl hSr13 (fun wS hSS=>by(exact(Af (by conv=>lhs;whnf)))) ?_
  refine hT 2 rfl hSr13 (fun wS hSS=>by(exact((Dg rfl rfl (Am (by omega) (by omega))).cast (congrArg _ (by omega:((16+m:Nat):Int) - 16=((16+m - 16:Nat):Int)))))) ?_
  refine hT 3 rfl hSr13 (fun wS hSS=>by(exact(A6 u213 sz174 rfl rfl (by omega)))) ?_
  refine hT 4 rfl hSr13 (fun wS hSS=>by(have hRd:=hSS;exact(Ae un174 rfl (hRd _ (by omega))))) ?_
  refine hT 5 rfl hSr13 (fun wS hSS=>by(exact(Af (by conv=>lhs;whnf)))) ?_
  refine hT 7 rfl hSr13 (fun wS hSS=>by(exact(Af (by conv=>lhs;whnf)))) ?_
  refine hT 10 rfl hSr13 (fun wS hSS=>by(exact(Af (by conv=>lhs;whnf)))) ?_
  refine hT 11 rfl hSr13 (fun wS hSS=>by(exact(Fa rfl rfl (by omega)))) ?_
  refine hT 14 rfl hSr13 (fun wS hSS=>by(exact(Af (by conv=>lhs;whnf)))) ?_
  refine hT 15 rfl hSr13 (fun wS hSS=>by(exact((Dg rfl rfl (Am (by omega) (by omega))).cast (congrArg _ (by omega:((16+m:Nat):Int) - 7=((16+m - 7:Nat):Int)))))) ?_
  refine hT 16 rfl hSr13 (fun wS hSS=>by(exact(A6 u213 sz174 rfl rfl (by omega)))) ?_
  refine hT 17 rfl hSr13 (fun wS hSS=>by(have hRd:=hSS;exact(Ae un174 rfl (hRd _ (by omega))))) ?_
  refine hT 19 rfl hSr13 (fun wS hSS=>by(exact(Af (by conv=>lhs;whnf)))) ?_
  refine hT 21 rfl hSr13 (fun wS hSS=>by(exact(Af (by conv=>lhs;whnf)))) ?_
  refine hT 24 rfl hSr13 (fun wS hSS=>by(exact(Af (by conv=>lhs;whnf)))) ?_
  refine hT 25 rfl hSr13 (fun wS hSS=>by(exact(Fa rfl rfl (by omega)))) ?_
  refine h1L 6 (fun Q6 hQ6=>?_)
  refine oC Tryz.func202 (De _ 7 _ (by decide) (by decide)) ?_
  rintro v11 w11 ⟨rfl,hE11⟩
  have hX:=hX.ext hE11
  have hB2:=hB2.ext hE11
  have hB4:=hB4.ext hE11
  have hB5:=hB5.ext hE11
  have hSr13:=hSr13.ext hE11
  refine An hQ6 ⟨hSr13,?_⟩
  refine h1L 8 (fun Q8 hQ8=>?_)
  refine oC Tryz.func202 (De _ 18 _ (by decide) (by decide)) ?_
  rintro v12 w12 ⟨rfl,hE12⟩
  have hX:=hX.ext hE12
  have hB2:=hB2.ext hE12
  have hB4:=hB4.ext hE12
  have hB5:=hB5.ext hE12
  have hSr13:=hSr13.ext hE12
  refine An hQ8 ⟨hSr13,?_⟩
  refine hT 9 rfl hSr13 (fun wS hSS=>by(exact(Ef rfl rfl))) ?_
  refine hT 12 rfl hSr13 (fun wS hSS=>by(exact(Ef rfl rfl))) ?_
  refine hT 13 rfl hSr13 (fun wS hSS=>by(exact(C8 rfl rfl))) ?_
  refine hT 18 rfl hSr13 (fun wS hSS=>by(exact(C8 rfl rfl))) ?_
  refine h1L 20 (fun Q20 hQ20=>?_)
  refine oC Tryz.func202 (De _ 17 _ (by decide) (by decide)) ?_
  rintro v13 w13 ⟨rfl,hE13⟩
  have hX:=hX.ext hE13
  have hB2:=hB2.ext hE13
  have hB4:=hB4.ext hE13
  have hB5:=hB5.ext hE13
  have hSr13:=hSr13.ext hE13
  refine An hQ20 ⟨hSr13,?_⟩
  refine h1L 22 (fun Q22 hQ22=>?_)
  refine oC Tryz.func202 (De _ 19 _ (by decide) (by decide)) ?_
  rintro v14 w14 ⟨rfl,hE14⟩
  have hX:=hX.ext hE14
  have hB2:=hB2.ext hE14
  have hB4:=hB4.ext hE14
  have hB5:=hB5.ext hE14
  have hSr13:=hSr13.ext hE14
  refine An hQ22 ⟨hSr13,?_⟩
  refine hT 23 rfl hSr13 (fun wS hSS=>by(exact(Ef rfl rfl))) ?_
  refine hT 26 rfl hSr13 (fun wS hSS=>by(exact(Ef rfl rfl))) ?_
  refine hT 27 rfl hSr13 (fun wS hSS=>by(exact(C8 rfl rfl))) ?_
  refine hT 28 rfl hSr13 (fun wS hSS=>by(exact(A6 u213 sz174 rfl rfl (by omega)))) ?_
  refine h1L 29 (fun Q29 hQ29=>?_)
  refine Aw rfl (by conv=>lhs;whnf) rfl rfl sz174 hB5 (by rw[Cn,C7,Cj];omega) ?_
  intro w15 hP15
  have hX:=hX.put hP15 (by omega)
  have hB2:=hP15.keep hB2 (by omega)
  have hB4:=hP15.keep hB4 (by omega)
  have hB5:=hP15.blk
  rw[Jt] at hB5
  have hSr13:=Aeh hB5 (by rw[C7,Cj];omega)
  refine An hQ29 ⟨hSr13,?_⟩
  refine A7 (by kernel_rfl) ?_
  refine b_n (t_n (Aa ?_))
  refine pM ?_
  refine p1 ((A0 rfl rfl (Am (by omega) (by omega))).cast (congrArg _ (by omega:((16+m:Nat):Int)+1=((16+(m+1):Nat):Int)))) ?_
  refine pA (Ac ?_)
  refine t_n (aK (m+1) ⟨rfl,trivial⟩ ?_)
  exact⟨⟨hX,⟨by omega,hB2,hB4,hB5⟩⟩,by show 48 - (m+1)<48 - m;omega⟩
 have h48:m=48:=by omega
 subst h48
 obtain⟨WW,hWW⟩:∃ WW,WW=extW (ownW xs 16) 48:=⟨_,rfl⟩
 rw[← hWW] at hB5
 have hWl:WW.length=64:=by rw[hWW,C7,Cj]
 refine A8 (t_e (t_e (Bq (t_n (Ab (Aa ?_))))))
 refine p1 (Aq ua175 rfl hB2 (by rw[Cn];exact sz175)) ?_
 have sX:=hX.size
 have l5:=hB5.lt
 refine Ay zr175 ?_
 intro w16 g11 hN11
 have hE16:=hN11.ext
 have hX:=hX.ext hE16
 have hB2:=hB2.ext hE16
 have hB4:=hB4.ext hE16
 have hB5:=hB5.ext hE16
 have hB11:=hN11.blk
 have e11:=hN11.g_eq
 have h511:g5<g11:=by omega
 refine Al rfl (by conv=>lhs;whnf) (Hc _) (by rw[Cn];exact sz175) hB11 (by rfl) ?_
 intro w17 hP17
 have hX:=hX.put hP17 (by omega)
 have hB2:=hP17.keep hB2 (by omega)
 have hB4:=hP17.keep hB4 (by omega)
 have hB5:=hP17.keep hB5 (by omega)
 have hB11:=hP17.blk
 refine Ac (t_n (Ab (Ab (Aa ?_))))
 refine pA (Ac (t_n (Ap ?_)))
 refine Bc (ι:=Nat) ([12,13,14,15,16]++rg 83 81) (fun i=>[(12,.int .i64 (i:Int))]) (fun i w'=>Ext w w'∧(i≤64∧Blk w' g2 (wds s.l) 175∧Blk w' g4 (wds (List.replicate 8 0)) 175∧Blk w' g5 (wds (WW)) 213∧Blk w' g11 (wds (runW WW s i).l) 175)) (fun i=>64 - i) (0) ⟨rfl,trivial⟩ ⟨hX,⟨by omega,hB2,hB4,hB5,hB11⟩⟩ ?_
 rintro i GL6 w18 ⟨hE18,hi,hB2,hB4,hB5,hB11⟩
 have hX:=hE18
 refine Ab (Ab (Aa ?_))
 refine pM ?_
 refine p1 (Bi rfl rfl) ?_
 refine Ac (t_n ?_)
 refine As rfl (fun hc84=>?_) (fun hc84=>?_)
 ·obtain⟨S,hS⟩:∃ S,S=runW WW s i:=⟨_,rfl⟩
  rw[← hS] at hB11
  refine Ak (t_n (Ab (Ap (Ab (Aa ?_)))))
  refine p1 (A6 (i:=4) u175 sz174 rfl rfl (by decide)) ?_
  refine p1 (Ae un174 rfl (hB11.cell (Aeb _))) ?_
  refine pA (Ac (t_n (Ab ?_)))
  refine Bj (fun w1 w2=>Ext w1 w2) mixed ?_
  intro w19 hE19
  have hX:=hX.ext hE19
  have hB2:=hB2.ext hE19
  have hB4:=hB4.ext hE19
  have hB5:=hB5.ext hE19
  have hB11:=hB11.ext hE19
  have hSr19:(fun w1 w2=>Ext w1 w2) w19 w19:=Ext.refl w19
  refine hT 0 rfl hSr19 (fun wS hSS=>by(exact(A6 (i:=7) u175 sz174 rfl rfl (by decide)))) ?_
  refine hT 1 rfl hSr19 (fun wS hSS=>by(have hB11:=hB11.ext hSS;exact(Ae un174 rfl (hB11.cell (Ae2 _))))) ?_
  refine hT 2 rfl hSr19 (fun wS hSS=>by(exact(Af (by conv=>lhs;whnf)))) ?_
  refine hT 4 rfl hSr19 (fun wS hSS=>by(exact(Af (by conv=>lhs;whnf)))) ?_
  refine hT 7 rfl hSr19 (fun wS hSS=>by(exact(Af (by conv=>lhs;whnf)))) ?_
  refine hT 11 rfl hSr19 (fun wS hSS=>by(exact(Af (by conv=>lhs;whnf)))) ?_
  refine hT 12 rfl hSr19 (fun wS hSS=>by(exact(A6 (i:=5) u175 sz174 rfl rfl (by decide)))) ?_
  refine hT 13 rfl hSr19 (fun wS hSS=>by(have hB11:=hB11.ext hSS;exact(Ae un174 rfl (hB11.cell (Aea _))))) ?_
  refine hT 14 rfl hSr19 (fun wS hSS=>by(exact(Iz rfl rfl))) ?_
  refine hT 15 rfl hSr19 (fun wS hSS=>by(exact(Af (by conv=>lhs;whnf)))) ?_
  refine hT 16 rfl hSr19 (fun wS hSS=>by(exact(N4 rfl))) ?_
  refine hT 17 rfl hSr19 (fun wS hSS=>by(exact(A6 (i:=6) u175 sz174 rfl rfl (by decide)))) ?_
  refine hT 18 rfl hSr19 (fun wS hSS=>by(have hB11:=hB11.ext hSS;exact(Ae un174 rfl (hB11.cell (Ad9 _))))) ?_
  refine hT 19 rfl hSr19 (fun wS hSS=>by(exact(Iz rfl rfl))) ?_
  refine hT 20 rfl hSr19 (fun wS hSS=>by(exact(Ef rfl rfl))) ?_
  refine hT 22 rfl hSr19 (fun wS hSS=>by(exact(Af (by conv=>lhs;whnf)))) ?_
  refine hT 25 rfl hSr19 (fun wS hSS=>by(exact(Af (by conv=>lhs;whnf)))) ?_
  refine hT 26 rfl hSr19 (fun wS hSS=>by(exact(A6 u213 sz174 rfl rfl (by omega)))) ?_
  refine hT 27 rfl hSr19 (fun wS hSS=>by(have hB5:=hB5.ext hSS;exact(Ae un174 rfl (hB5.cell (Dh (by omega)))))) ?_
  refine h1L 3 (fun Q3 hQ3=>?_)
  refine oC Tryz.func202 (De _ 6 _ (by decide) (by decide)) ?_
  rintro v20 w20 ⟨rfl,hE20⟩
  have hX:=hX.ext hE20
  have hB2:=hB2.ext hE20
  have hB4:=hB4.ext hE20
  have hB5:=hB5.ext hE20
  have hB11:=hB11.ext hE20
  have hSr19:=hSr19.ext hE20
  refine An hQ3 ⟨hSr19,?_⟩
  refine h1L 5 (fun Q5 hQ5=>?_)
  refine oC Tryz.func202 (De _ 11 _ (by decide) (by decide)) ?_
  rintro v21 w21 ⟨rfl,hE21⟩
  have hX:=hX.ext hE21
  have hB2:=hB2.ext hE21
  have hB4:=hB4.ext hE21
  have hB5:=hB5.ext hE21
  have hB11:=hB11.ext hE21
  have hSr19:=hSr19.ext hE21
  refine An hQ5 ⟨hSr19,?_⟩
  refine hT 6 rfl hSr19 (fun wS hSS=>by(exact(Ef rfl rfl))) ?_
  refine h1L 8 (fun Q8 hQ8=>?_)
  refine oC Tryz.func202 (De _ 25 _ (by decide) (by decide)) ?_
  rintro v22 w22 ⟨rfl,hE22⟩
  have hX:=hX.ext hE22
  have hB2:=hB2.ext hE22
  have hB4:=hB4.ext hE22
  have hB5:=hB5.ext hE22
  have hB11:=hB11.ext hE22
  have hSr19:=hSr19.ext hE22
  refine An hQ8 ⟨hSr19,?_⟩
  refine hT 9 rfl hSr19 (fun wS hSS=>by(exact(Ef rfl rfl))) ?_
  refine hT 10 rfl hSr19 (fun wS hSS=>by(exact(C8 rfl rfl))) ?_
  refine hT 21 rfl hSr19 (fun wS hSS=>by(exact(C8 rfl rfl))) ?_
  refine h1L 23 (fun Q23 hQ23=>?_)
  refine oC Tryz.func203 (O8 i _ (by omega)) ?_
  rintro v23 w23 ⟨rfl,hE23⟩
  have hX:=hX.ext hE23
  have hB2:=hB2.ext hE23
  have hB4:=hB4.ext hE23
  have hB5:=hB5.ext hE23
  have hB11:=hB11.ext hE23
  have hSr19:=hSr19.ext hE23
  refine An hQ23 ⟨hSr19,?_⟩
  refine hT 24 rfl hSr19 (fun wS hSS=>by(exact(C8 rfl rfl))) ?_
  refine hT 28 rfl hSr19 (fun wS hSS=>by(exact(C8 rfl rfl))) ?_
  refine hT 29 rfl hSr19 (fun wS hSS=>by(exact(Ah (by conv=>lhs;whnf)))) ?_
  refine A7 (by kernel_rfl) ?_
  refine t_n (Ab (Aa ?_))
  refine p1 (A6 (i:=0) u175 sz174 rfl rfl (by decide)) ?_
  refine p1 (Ae un174 rfl (hB11.cell (Aec _))) ?_
  refine pA (Ac (t_n (Ab ?_)))
  refine Bj (fun w1 w2=>Ext w1 w2) mixed ?_
  intro w24 hE24
  have hX:=hX.ext hE24
  have hB2:=hB2.ext hE24
  have hB4:=hB4.ext hE24
  have hB5:=hB5.ext hE24
  have hB11:=hB11.ext hE24
  have hSr21:(fun w1 w2=>Ext w1 w2) w24 w24:=Ext.refl w24
  refine hT 0 rfl hSr21 (fun wS hSS=>by(exact(Af (by conv=>lhs;whnf)))) ?_
  refine hT 2 rfl hSr21 (fun wS hSS=>by(exact(Af (by conv=>lhs;whnf)))) ?_
  refine hT 5 rfl hSr21 (fun wS hSS=>by(exact(Af (by conv=>lhs;whnf)))) ?_
  refine hT 8 rfl hSr21 (fun wS hSS=>by(exact(Af (by conv=>lhs;whnf)))) ?_
  refine hT 9 rfl hSr21 (fun wS hSS=>by(exact(A6 (i:=1) u175 sz174 rfl rfl (by decide)))) ?_
  refine hT 10 rfl hSr21 (fun wS hSS=>by(have hB11:=hB11.ext hSS;exact(Ae un174 rfl (hB11.cell (Aco _))))) ?_
  refine hT 11 rfl hSr21 (fun wS hSS=>by(exact(Iz rfl rfl))) ?_
  refine hT 12 rfl hSr21 (fun wS hSS=>by(exact(Af (by conv=>lhs;whnf)))) ?_
  refine hT 13 rfl hSr21 (fun wS hSS=>by(exact(A6 (i:=2) u175 sz174 rfl rfl (by decide)))) ?_
  refine hT 14 rfl hSr21 (fun wS hSS=>by(have hB11:=hB11.ext hSS;exact(Ae un174 rfl (hB11.cell (Acn _))))) ?_
  refine hT 15 rfl hSr21 (fun wS hSS=>by(exact(Iz rfl rfl))) ?_
  refine hT 16 rfl hSr21 (fun wS hSS=>by(exact(Ef rfl rfl))) ?_
  refine hT 17 rfl hSr21 (fun wS hSS=>by(exact(A6 (i:=1) u175 sz174 rfl rfl (by decide)))) ?_
  refine hT 18 rfl hSr21 (fun wS hSS=>by(have hB11:=hB11.ext hSS;exact(Ae un174 rfl (hB11.cell (Aco _))))) ?_
  refine hT 19 rfl hSr21 (fun wS hSS=>by(exact(A6 (i:=2) u175 sz174 rfl rfl (by decide)))) ?_
  refine hT 20 rfl hSr21 (fun wS hSS=>by(have hB11:=hB11.ext hSS;exact(Ae un174 rfl (hB11.cell (Acn _))))) ?_
  refine hT 21 rfl hSr21 (fun wS hSS=>by(exact(Iz rfl rfl))) ?_
  refine hT 22 rfl hSr21 (fun wS hSS=>by(exact(Ef rfl rfl))) ?_
  refine h1L 1 (fun Q1 hQ1=>?_)
  refine oC Tryz.func202 (De _ 2 _ (by decide) (by decide)) ?_
  rintro v25 w25 ⟨rfl,hE25⟩
  have hX:=hX.ext hE25
  have hB2:=hB2.ext hE25
  have hB4:=hB4.ext hE25
  have hB5:=hB5.ext hE25
  have hB11:=hB11.ext hE25
  have hSr21:=hSr21.ext hE25
  refine An hQ1 ⟨hSr21,?_⟩
  refine h1L 3 (fun Q3 hQ3=>?_)
  refine oC Tryz.func202 (De _ 13 _ (by decide) (by decide)) ?_
  rintro v26 w26 ⟨rfl,hE26⟩
  have hX:=hX.ext hE26
  have hB2:=hB2.ext hE26
  have hB4:=hB4.ext hE26
  have hB5:=hB5.ext hE26
  have hB11:=hB11.ext hE26
  have hSr21:=hSr21.ext hE26
  refine An hQ3 ⟨hSr21,?_⟩
  refine hT 4 rfl hSr21 (fun wS hSS=>by(exact(Ef rfl rfl))) ?_
  refine h1L 6 (fun Q6 hQ6=>?_)
  refine oC Tryz.func202 (De _ 22 _ (by decide) (by decide)) ?_
  rintro v27 w27 ⟨rfl,hE27⟩
  have hX:=hX.ext hE27
  have hB2:=hB2.ext hE27
  have hB4:=hB4.ext hE27
  have hB5:=hB5.ext hE27
  have hB11:=hB11.ext hE27
  have hSr21:=hSr21.ext hE27
  refine An hQ6 ⟨hSr21,?_⟩
  refine hT 7 rfl hSr21 (fun wS hSS=>by(exact(Ef rfl rfl))) ?_
  refine hT 23 rfl hSr21 (fun wS hSS=>by(exact(C8 rfl rfl))) ?_
  refine hT 24 rfl hSr21 (fun wS hSS=>by(exact(Ah (by conv=>lhs;whnf)))) ?_
  refine A7 (by kernel_rfl) ?_
  refine t_n (Aa ?_)
  refine pM (pM ?_)
  refine p1 (C8 rfl rfl) ?_
  refine p1 (A6 (i:=0) u175 sz174 rfl rfl (by decide)) ?_
  refine p1 (Ae un174 rfl (hB11.cell (Aec _))) ?_
  refine p1 (A6 (i:=1) u175 sz174 rfl rfl (by decide)) ?_
  refine p1 (Ae un174 rfl (hB11.cell (Aco _))) ?_
  refine p1 (A6 (i:=2) u175 sz174 rfl rfl (by decide)) ?_
  refine p1 (Ae un174 rfl (hB11.cell (Acn _))) ?_
  refine p1 (A6 (i:=3) u175 sz174 rfl rfl (by decide)) ?_
  refine p1 (Ae un174 rfl (hB11.cell (Ae3 _))) ?_
  refine pM ?_
  refine p1 (C8 rfl rfl) ?_
  refine p1 (A6 (i:=4) u175 sz174 rfl rfl (by decide)) ?_
  refine p1 (Ae un174 rfl (hB11.cell (Aeb _))) ?_
  refine p1 (A6 (i:=5) u175 sz174 rfl rfl (by decide)) ?_
  refine p1 (Ae un174 rfl (hB11.cell (Aea _))) ?_
  refine p1 (A6 (i:=6) u175 sz174 rfl rfl (by decide)) ?_
  refine p1 (Ae un174 rfl (hB11.cell (Ad9 _))) ?_
  refine p1 (Ol (rndW (kTab.getD i 0) (WW.getD i 0) S) rfl) ?_
  refine Al rfl (by conv=>lhs;whnf) (Hc _) (by rw[Cn];exact sz175) hB11 (by rfl) ?_
  intro w28 hP28
  have hX:=hX.put hP28 (by omega)
  have hB2:=hP28.keep hB2 (by omega)
  have hB4:=hP28.keep hB4 (by omega)
  have hB5:=hP28.keep hB5 (by omega)
  have hB11:=hP28.blk
  refine Ac (b_n (t_n (Aa ?_)))
  refine pM ?_
  refine p1 (A0 rfl rfl (Am (by omega) (by omega))) ?_
  refine pA (Ac ?_)
  refine t_n (aK (i+1) ⟨rfl,trivial⟩ ?_)
  exact⟨⟨hX,⟨by omega,hB2,hB4,hB5,by rw[hS] at hB11;exact hB11⟩⟩,by((show _<_);omega)⟩
 have h64:i=64:=by omega
 subst h64
 obtain⟨X,hXX⟩:∃ X,X=runW WW s 64:=⟨_,rfl⟩
 rw[← hXX] at hB11
 refine A8 (t_e (t_e (Bq (t_n (Ab (Ab (Aa ?_)))))))
 refine pA (Ac (t_n (Ap ?_)))
 refine Bc (ι:=Nat) ([17]++rg 164 13) (fun j=>[(17,.int .i64 (j:Int))]) (fun j w'=>Ext w w'∧(j≤8∧Blk w' g2 (wds (addW X.l s.l j)) 175∧Blk w' g4 (wds (List.replicate 8 0)) 175∧Blk w' g11 (wds X.l) 175)) (fun j=>8 - j) (0) ⟨rfl,trivial⟩ ⟨hX,⟨by omega,hB2,hB4,hB11⟩⟩ ?_
 rintro j GL8 w29 ⟨hE29,hj,hB2,hB4,hB11⟩
 have hX:=hE29
 refine Ab (Ab (Aa ?_))
 refine pM ?_
 refine p1 (Bi rfl rfl) ?_
 refine Ac (t_n ?_)
 refine As rfl (fun hc165=>?_) (fun hc165=>?_)
 ·refine Ak (t_n (Ab (Ap ?_)))
  refine Cx 9 mixed (by kernel_rfl) ?_
  intro w30 hE30
  have hX:=hX.ext hE30
  have hB2:=hB2.ext hE30
  have hB4:=hB4.ext hE30
  have hB11:=hB11.ext hE30
  refine s1 (Af (by conv=>lhs;whnf)) ?_
  refine s1 (Af (by conv=>lhs;whnf)) ?_
  refine s1 (A6 u175 sz174 rfl rfl (by omega)) ?_
  refine s1 (Ae un174 rfl (hB2.cell (Dh (by rw[Jq,W8.len];omega)))) ?_
  refine s1 (Af (by conv=>lhs;whnf)) ?_
  refine s1 (A6 u175 sz174 rfl rfl (by omega)) ?_
  refine s1 (Ae un174 rfl (hB11.cell (Dh (by rw[W8.len];omega)))) ?_
  refine s1 (C8 rfl rfl) ?_
  refine s1 (A6 u175 sz174 rfl rfl (by omega)) ?_
  refine Bx ?_
  refine Aw rfl (by conv=>lhs;whnf) rfl rfl sz174 hB2 (by rw[Cn,Jq,W8.len];omega) ?_
  intro w31 hP31
  have hX:=hX.put hP31 (by omega)
  have hB2:=hP31.blk
  rw[Jt] at hB2
  have hB4:=hP31.keep hB4 (by omega)
  have hB11:=hP31.keep hB11 (by omega)
  refine Ac (b_n (t_n (Aa ?_)))
  refine pM ?_
  refine p1 (A0 rfl rfl (Am (by omega) (by omega))) ?_
  refine pA (Ac ?_)
  refine t_n (aK (j+1) ⟨rfl,trivial⟩ ?_)
  exact⟨⟨hX,⟨by omega,hB2,hB4,hB11⟩⟩,by((show _<_);omega)⟩
 have h8:j=8:=by omega
 subst h8
 rw[Ace] at hB2
 refine A8 (t_e (t_e (Bq (t_n (Ab (Aa ?_))))))
 refine p1 (Aq ua175 rfl hB2 (by rw[Cn];exact sz175)) ?_
 refine Al rfl (by conv=>lhs;whnf) (Hc _) (by rw[Cn];exact sz175) hB4 (by rfl) ?_
 intro w32 hP32
 have hX:=hX.put hP32 (by omega)
 have hB2:=hP32.keep hB2 (by omega)
 have hB4:=hP32.blk
 have hB11:=hP32.keep hB11 (by omega)
 refine Ac (t_n (Ao ?_))
 refine end1c rfl ua175 rfl hB4 (by rw[Cn];exact sz175) ?_
 exact⟨by rw[hXX,hWW];rfl,hX⟩
end Go.Proofs.Eng
end
section
set_option maxRecDepth 100000
set_option maxHeartbeats 4000000
namespace Go.Proofs.Eng
open Go.RowKit
open Extern.Stop (cell)
theorem Acz (s:W8) (bs:List UInt8) (w:World) (hb:bs.length=64) (hrt:Rt w) :
    Ret Tryz.prog 126 [.agg (wds s.l),.agg (bcs bs)] w (fun v w'=>v = .agg (wds (mixF s bs).l)∧Ext w w'):=by
 have hX:=Ext.refl w
 refine eN 211 Tryz.func126 ?_
 refine Ab (Aa ?_)
 refine Bu (by conv=>lhs;whnf) ?_
 intro w1 g2 hN2
 have hE1:=hN2.ext
 have hX:=hX.ext hE1
 have hB2:=hN2.blk
 have l2:=hB2.lt
 refine Bu (by conv=>lhs;whnf) ?_
 intro w2 g3 hN3
 have hE2:=hN3.ext
 have hX:=hX.ext hE2
 have hB2:=hB2.ext hE2
 have hB3:=hN3.blk
 have l3:=hB3.lt
 refine Ay zr175 ?_
 intro w3 g4 hN4
 have hE3:=hN4.ext
 have hX:=hX.ext hE3
 have hB2:=hB2.ext hE3
 have hB3:=hB3.ext hE3
 have hB4:=hN4.blk
 refine Ac (t_n (Ab (Aa ?_)))
 have l4:=hB4.lt
 refine Ay zr213 ?_
 intro w4 g5 hN5
 have hE4:=hN5.ext
 have hX:=hX.ext hE4
 have hB2:=hB2.ext hE4
 have hB3:=hB3.ext hE4
 have hB4:=hB4.ext hE4
 have hB5:=hN5.blk
 refine Ac (t_n (Ab (Ab ?_)))
 have e2:=hN2.g_eq
 have e3:=hN3.g_eq
 have e4:=hN4.g_eq
 have e5:=hN5.g_eq
 have hB3:Blk _ g3 (bcs bs) 176:=hB3
 have hB4:Blk _ g4 (wds (List.replicate 8 0)) 175:=hB4
 have hB5:Blk _ g5 (wds (List.replicate 64 0)) 213:=hB5
 have hg2:w.heap.size≤g2:=by omega
 have h23:g2<g3:=by omega
 have h34:g3<g4:=by omega
 have h45:g4<g5:=by omega
 refine Aa ?_
 refine pM (Ac (t_n (Ap ?_)))
 refine Bc (ι:=Nat) ([6]++rg 23 35) (fun i=>[(23,.int .i64 (i:Int))]) (fun i w'=>Ext w w'∧(i≤16∧Blk w' g2 (wds s.l) 175∧Blk w' g3 (bcs bs) 176∧Blk w' g4 (wds (List.replicate 8 0)) 175∧Blk w' g5 (wds (ownW bs i)) 213)) (fun i=>16 - i) (0) ⟨rfl,trivial⟩ ⟨hX,⟨by omega,hB2,hB3,hB4,hB5⟩⟩ ?_
 rintro i GL0 w5 ⟨hE5,hi,hB2,hB3,hB4,hB5⟩
 have hX:=hE5
 refine Ab (Aa ?_)
 refine p1 (Bi rfl rfl) ?_
 refine Ac (t_n (Ab ?_))
 refine As rfl (fun hc24=>?_) (fun hc24=>?_)
 ·refine Ak (t_n (Ab (Ap (Ab (Aa ?_)))))
  refine pM (pA (Ac (t_n ?_)))
  refine Cx 31 mixed (by kernel_rfl) ?_
  intro w6 hE6
  have hX:=hX.ext hE6
  have hB2:=hB2.ext hE6
  have hB3:=hB3.ext hE6
  have hB4:=hB4.ext hE6
  have hB5:=hB5.ext hE6
  refine s1 (Af (by conv=>lhs;whnf)) ?_
  refine s1 (Af (by conv=>lhs;whnf)) ?_
  refine s1 ((Iy rfl rfl (Am (by omega) (by omega))).cast (congrArg _ (by omega:(4:Int) * (i:Int)=((4 * i:Nat):Int)))) ?_
  refine s1 (A6 (i:=4 * i) u176 sz5 rfl rfl (by omega)) ?_
  have hx0:=(bs.getD (4 * i) 0).toNat_lt
  refine s1 (Ae un5 rfl (hB3.cell (Oe (by omega)))) ?_
  refine s1 (B8 u174 us5 rfl (F9 (by omega) (by omega))) ?_
  refine s1 (M1 rfl rfl (by omega)) ?_
  refine s1 (Af (by conv=>lhs;whnf)) ?_
  refine s1 (Iy rfl rfl (Am (by omega) (by omega))) ?_
  refine s1 ((A0 rfl rfl (Am (by omega) (by omega))).cast (congrArg _ (by omega:(4:Int) * (i:Int)+1=((4 * i+1:Nat):Int)))) ?_
  refine s1 (A6 (i:=4 * i+1) u176 sz5 rfl rfl (by omega)) ?_
  have hx1:=(bs.getD (4 * i+1) 0).toNat_lt
  refine s1 (Ae un5 rfl (hB3.cell (Oe (by omega)))) ?_
  refine s1 (B8 u174 us5 rfl (F9 (by omega) (by omega))) ?_
  refine s1 (M1 rfl rfl (by omega)) ?_
  refine s1 (Tm rfl rfl) ?_
  refine s1 (Af (by conv=>lhs;whnf)) ?_
  refine s1 (Iy rfl rfl (Am (by omega) (by omega))) ?_
  refine s1 ((A0 rfl rfl (Am (by omega) (by omega))).cast (congrArg _ (by omega:(4:Int) * (i:Int)+2=((4 * i+2:Nat):Int)))) ?_
  refine s1 (A6 (i:=4 * i+2) u176 sz5 rfl rfl (by omega)) ?_
  have hx2:=(bs.getD (4 * i+2) 0).toNat_lt
  refine s1 (Ae un5 rfl (hB3.cell (Oe (by omega)))) ?_
  refine s1 (B8 u174 us5 rfl (F9 (by omega) (by omega))) ?_
  refine s1 (M1 rfl rfl (by omega)) ?_
  refine s1 (Tm rfl rfl) ?_
  refine s1 (Af (by conv=>lhs;whnf)) ?_
  refine s1 (Iy rfl rfl (Am (by omega) (by omega))) ?_
  refine s1 ((A0 rfl rfl (Am (by omega) (by omega))).cast (congrArg _ (by omega:(4:Int) * (i:Int)+3=((4 * i+3:Nat):Int)))) ?_
  refine s1 (A6 (i:=4 * i+3) u176 sz5 rfl rfl (by omega)) ?_
  have hx3:=(bs.getD (4 * i+3) 0).toNat_lt
  refine s1 (Ae un5 rfl (hB3.cell (Oe (by omega)))) ?_
  refine s1 (B8 u174 us5 rfl (F9 (by omega) (by omega))) ?_
  refine s1 ((Tm rfl rfl).cast (congrArg _ (or4 bs (4 * i)))) ?_
  refine s1 (A6 u213 sz174 rfl rfl (by omega)) ?_
  refine Bx ?_
  refine Aw rfl (by conv=>lhs;whnf) rfl rfl sz174 hB5 (by rw[Cn,Cj];omega) ?_
  intro w7 hP7
  have hX:=hX.put hP7 (by omega)
  have hB2:=hP7.keep hB2 (by omega)
  have hB3:=hP7.keep hB3 (by omega)
  have hB4:=hP7.keep hB4 (by omega)
  have hB5:=hP7.blk
  rw[Jt] at hB5
  refine Ac (b_n (t_n (Aa ?_)))
  refine p1 (A0 rfl rfl (Am (by omega) (by omega))) ?_
  refine pM (Ac ?_)
  refine t_n (aK (i+1) ⟨rfl,trivial⟩ ?_)
  exact⟨⟨hX,⟨by omega,hB2,hB3,hB4,hB5⟩⟩,by((show _<_);omega)⟩
 have h16:i=16:=by omega
 subst h16
 refine A8 (t_e (t_e (Bq (t_n (Ab (Ab (Aa ?_)))))))
 refine pA (Ac (t_n (Ap ?_)))
 refine Bc (ι:=Nat) ([7,8,9]++rg 58 53) (fun m=>[(7,.int .i64 ((16+m:Nat):Int))]) (fun m w'=>Ext w w'∧(m≤48∧Blk w' g2 (wds s.l) 175∧Blk w' g3 (bcs bs) 176∧Blk w' g4 (wds (List.replicate 8 0)) 175∧Blk w' g5 (wds (extW (ownW bs 16) m)) 213)) (fun m=>48 - m) (0) ⟨rfl,trivial⟩ ⟨hX,⟨by omega,hB2,hB3,hB4,hB5⟩⟩ ?_
 rintro m GL2 w8 ⟨hE8,hm,hB2,hB3,hB4,hB5⟩
 have hX:=hE8
 refine Ab (Ab (Aa ?_))
 refine pM ?_
 refine p1 (Bi rfl rfl) ?_
 refine Ac (t_n ?_)
 refine As rfl (fun hc59=>?_) (fun hc59=>?_)
 ·refine Ak (t_n (Ab (Ap (Ab ?_))))
  refine Bj (fun w1 w2=>Ext w1 w2) mixed ?_
  intro w9 hE9
  have hX:=hX.ext hE9
  have hB2:=hB2.ext hE9
  have hB3:=hB3.ext hE9
  have hB4:=hB4.ext hE9
  have hB5:=hB5.ext hE9
  have hSr10:(fun w1 w2=>Ext w1 w2) w9 w9:=Ext.refl w9
  refine hT 0 rfl hSr10 (fun wS hSS=>by(exact(Af (by conv=>lhs;whnf)))) ?_
  refine hT 1 rfl hSr10 (fun wS hSS=>by(exact((Dg rfl rfl (Am (by omega) (by omega))).cast (congrArg _ (by omega:((16+m:Nat):Int) - 15=((16+m - 15:Nat):Int)))))) ?_
  refine hT 2 rfl hSr10 (fun wS hSS=>by(exact(A6 u213 sz174 rfl rfl (by omega)))) ?_
  refine hT 3 rfl hSr10 (fun wS hSS=>by(have hB5:=hB5.ext hSS;exact(Ae un174 rfl (hB5.cell (Dh (by rw[C7,Cj];omega)))))) ?_
  refine hT 5 rfl hSr10 (fun wS hSS=>by(exact(Af (by conv=>lhs;whnf)))) ?_
  refine hT 6 rfl hSr10 (fun wS hSS=>by(exact((Dg rfl rfl (Am (by omega) (by omega))).cast (congrArg _ (by omega:((16+m:Nat):Int) - 15=((16+m - 15:Nat):Int)))))) ?_
  refine hT 7 rfl hSr10 (fun wS hSS=>by(exact(A6 u213 sz174 rfl rfl (by omega)))) ?_
  refine hT 8 rfl hSr10 (fun wS hSS=>by(have hB5:=hB5.ext hSS;exact(Ae un174 rfl (hB5.cell (Dh (by rw[C7,Cj];omega)))))) ?_
  refine hT 11 rfl hSr10 (fun wS hSS=>by(exact(Af (by conv=>lhs;whnf)))) ?_
  refine hT 12 rfl hSr10 (fun wS hSS=>by(exact((Dg rfl rfl (Am (by omega) (by omega))).cast (congrArg _ (by omega:((16+m:Nat):Int) - 15=((16+m - 15:Nat):Int)))))) ?_
  refine hT 13 rfl hSr10 (fun wS hSS=>by(exact(A6 u213 sz174 rfl rfl (by omega)))) ?_
  refine hT 14 rfl hSr10 (fun wS hSS=>by(have hB5:=hB5.ext hSS;exact(Ae un174 rfl (hB5.cell (Dh (by rw[C7,Cj];omega)))))) ?_
  refine hT 15 rfl hSr10 (fun wS hSS=>by(exact(Fa rfl rfl (by omega)))) ?_
  refine h1L 4 (fun Q4 hQ4=>?_)
  refine oC Tryz.func162 (D7 _ 7 _ (by decide) (by decide)) ?_
  rintro v10 w10 ⟨rfl,hE10⟩
  have hX:=hX.ext hE10
  have hB2:=hB2.ext hE10
  have hB3:=hB3.ext hE10
  have hB4:=hB4.ext hE10
  have hB5:=hB5.ext hE10
  have hSr10:=hSr10.ext hE10
  refine An hQ4 ⟨hSr10,?_⟩
  refine h1L 9 (fun Q9 hQ9=>?_)
  refine oC Tryz.func162 (D7 _ 18 _ (by decide) (by decide)) ?_
  rintro v11 w11 ⟨rfl,hE11⟩
  have hX:=hX.ext hE11
  have hB2:=hB2.ext hE11
  have hB3:=hB3.ext hE11
  have hB4:=hB4.ext hE11
  have hB5:=hB5.ext hE11
  have hSr10:=hSr10.ext hE11
  refine An hQ9 ⟨hSr10,?_⟩
  refine hT 10 rfl hSr10 (fun wS hSS=>by(exact(Ef rfl rfl))) ?_
  refine hT 16 rfl hSr10 (fun wS hSS=>by(exact(Ef rfl rfl))) ?_
  refine hT 17 rfl hSr10 (fun wS hSS=>by(exact(Ah (by conv=>lhs;whnf)))) ?_
  refine A7 (by kernel_rfl) ?_
  refine t_n (Ab ?_)
  refine Bj (fun w1 w2=>Ext w1 w2) mixed ?_
  intro w12 hE12
  have hX:=hX.ext hE12
  have hB2:=hB2.ext hE12
  have hB3:=hB3.ext hE12
  have hB4:=hB4.ext hE12
  have hB5:=hB5.ext hE12
  have hSr11:(fun w1 w2=>Ext w1 w2) w12 w12:=Ext.refl w12
  refine hT 0 rfl hSr11 (fun wS hSS=>by(exact(Af (by conv=>lhs;whnf)))) ?_
  refine hT 1 rfl hSr11 (fun wS hSS=>by(exact((Dg rfl rfl (Am (by omega) (by omega))).cast (congrArg _ (by omega:((16+m:Nat):Int) - 2=((16+m - 2:Nat):Int)))))) ?_
  refine hT 2 rfl hSr11 (fun wS hSS=>by(exact(A6 u213 sz174 rfl rfl (by omega)))) ?_
  refine hT 3 rfl hSr11 (fun wS hSS=>by(have hB5:=hB5.ext hSS;exact(Ae un174 rfl (hB5.cell (Dh (by rw[C7,Cj];omega)))))) ?_
  refine hT 5 rfl hSr11 (fun wS hSS=>by(exact(Af (by conv=>lhs;whnf)))) ?_
  refine hT 6 rfl hSr11 (fun wS hSS=>by(exact((Dg rfl rfl (Am (by omega) (by omega))).cast (congrArg _ (by omega:((16+m:Nat):Int) - 2=((16+m - 2:Nat):Int)))))) ?_
  refine hT 7 rfl hSr11 (fun wS hSS=>by(exact(A6 u213 sz174 rfl rfl (by omega)))) ?_
  refine hT 8 rfl hSr11 (fun wS hSS=>by(have hB5:=hB5.ext hSS;exact(Ae un174 rfl (hB5.cell (Dh (by rw[C7,Cj];omega)))))) ?_
  refine hT 11 rfl hSr11 (fun wS hSS=>by(exact(Af (by conv=>lhs;whnf)))) ?_
  refine hT 12 rfl hSr11 (fun wS hSS=>by(exact((Dg rfl rfl (Am (by omega) (by omega))).cast (congrArg _ (by omega:((16+m:Nat):Int) - 2=((16+m - 2:Nat):Int)))))) ?_
  refine hT 13 rfl hSr11 (fun wS hSS=>by(exact(A6 u213 sz174 rfl rfl (by omega)))) ?_
  refine hT 14 rfl hSr11 (fun wS hSS=>by(have hB5:=hB5.ext hSS;exact(Ae un174 rfl (hB5.cell (Dh (by rw[C7,Cj];omega)))))) ?_
  refine hT 15 rfl hSr11 (fun wS hSS=>by(exact(Fa rfl rfl (by omega)))) ?_
  refine h1L 4 (fun Q4 hQ4=>?_)
  refine oC Tryz.func162 (D7 _ 17 _ (by decide) (by decide)) ?_
  rintro v13 w13 ⟨rfl,hE13⟩
  have hX:=hX.ext hE13
  have hB2:=hB2.ext hE13
  have hB3:=hB3.ext hE13
  have hB4:=hB4.ext hE13
  have hB5:=hB5.ext hE13
  have hSr11:=hSr11.ext hE13
  refine An hQ4 ⟨hSr11,?_⟩
  refine h1L 9 (fun Q9 hQ9=>?_)
  refine oC Tryz.func162 (D7 _ 19 _ (by decide) (by decide)) ?_
  rintro v14 w14 ⟨rfl,hE14⟩
  have hX:=hX.ext hE14
  have hB2:=hB2.ext hE14
  have hB3:=hB3.ext hE14
  have hB4:=hB4.ext hE14
  have hB5:=hB5.ext hE14
  have hSr11:=hSr11.ext hE14
  refine An hQ9 ⟨hSr11,?_⟩
  refine hT 10 rfl hSr11 (fun wS hSS=>by(exact(Ef rfl rfl))) ?_
  refine hT 16 rfl hSr11 (fun wS hSS=>by(exact(Ef rfl rfl))) ?_
  refine hT 17 rfl hSr11 (fun wS hSS=>by(exact(Ah (by conv=>lhs;whnf)))) ?_
  refine A7 (by kernel_rfl) ?_
  refine t_n ?_
  refine Cx 15 mixed (by kernel_rfl) ?_
  intro w15 hE15
  have hX:=hX.ext hE15
  have hB2:=hB2.ext hE15
  have hB3:=hB3.ext hE15
  have hB4:=hB4.ext hE15
  have hB5:=hB5.ext hE15
  refine s1 (Af (by conv=>lhs;whnf)) ?_
  refine s1 (Af (by conv=>lhs;whnf)) ?_
  refine s1 ((Dg rfl rfl (Am (by omega) (by omega))).cast (congrArg _ (by omega:((16+m:Nat):Int) - 16=((16+m - 16:Nat):Int)))) ?_
  refine s1 (A6 u213 sz174 rfl rfl (by omega)) ?_
  refine s1 (Ae un174 rfl (hB5.cell (Dh (by rw[C7,Cj];omega)))) ?_
  refine s1 (Af (by conv=>lhs;whnf)) ?_
  refine s1 (C8 rfl rfl) ?_
  refine s1 (Af (by conv=>lhs;whnf)) ?_
  refine s1 ((Dg rfl rfl (Am (by omega) (by omega))).cast (congrArg _ (by omega:((16+m:Nat):Int) - 7=((16+m - 7:Nat):Int)))) ?_
  refine s1 (A6 u213 sz174 rfl rfl (by omega)) ?_
  refine s1 (Ae un174 rfl (hB5.cell (Dh (by rw[C7,Cj];omega)))) ?_
  refine s1 (C8 rfl rfl) ?_
  refine s1 (Af (by conv=>lhs;whnf)) ?_
  refine s1 (C8 rfl rfl) ?_
  refine s1 (A6 u213 sz174 rfl rfl (by omega)) ?_
  refine Bx ?_
  refine Aw rfl (by conv=>lhs;whnf) rfl rfl sz174 hB5 (by rw[Cn,C7,Cj];omega) ?_
  intro w16 hP16
  have hX:=hX.put hP16 (by omega)
  have hB2:=hP16.keep hB2 (by omega)
  have hB3:=hP16.keep hB3 (by omega)
  have hB4:=hP16.keep hB4 (by omega)
  have hB5:=hP16.blk
  rw[Jt] at hB5
  refine Ac (b_n (t_n (Aa ?_)))
  refine pM ?_
  refine p1 ((A0 rfl rfl (Am (by omega) (by omega))).cast (congrArg _ (by omega:((16+m:Nat):Int)+1=((16+(m+1):Nat):Int)))) ?_
  refine pA (Ac ?_)
  refine t_n (aK (m+1) ⟨rfl,trivial⟩ ?_)
  exact⟨⟨hX,⟨by omega,hB2,hB3,hB4,hB5⟩⟩,by show 48 - (m+1)<48 - m;omega⟩
 have h48:m=48:=by omega
 subst h48
 obtain⟨WW,hWW⟩:∃ WW,WW=extW (ownW bs 16) 48:=⟨_,rfl⟩
 rw[← hWW] at hB5
 have hWl:WW.length=64:=by rw[hWW,C7,Cj]
 refine A8 (t_e (t_e (Bq (t_n (Ab ?_)))))
 refine Cy mixed (by kernel_rfl) ?_
 intro w17 hE17
 have hX:=hX.ext hE17
 have hB2:=hB2.ext hE17
 have hB4:=hB4.ext hE17
 have hB5:=hB5.ext hE17
 refine s1 (A6 (i:=0) u175 sz174 rfl rfl (by decide)) ?_
 refine s1 (Ae un174 rfl (hB2.cell (Aec _))) ?_
 refine s1 (A6 (i:=1) u175 sz174 rfl rfl (by decide)) ?_
 refine s1 (Ae un174 rfl (hB2.cell (Aco _))) ?_
 refine s1 (A6 (i:=2) u175 sz174 rfl rfl (by decide)) ?_
 refine s1 (Ae un174 rfl (hB2.cell (Acn _))) ?_
 refine s1 (A6 (i:=3) u175 sz174 rfl rfl (by decide)) ?_
 refine s1 (Ae un174 rfl (hB2.cell (Ae3 _))) ?_
 refine s1 (A6 (i:=4) u175 sz174 rfl rfl (by decide)) ?_
 refine s1 (Ae un174 rfl (hB2.cell (Aeb _))) ?_
 refine s1 (A6 (i:=5) u175 sz174 rfl rfl (by decide)) ?_
 refine s1 (Ae un174 rfl (hB2.cell (Aea _))) ?_
 refine s1 (A6 (i:=6) u175 sz174 rfl rfl (by decide)) ?_
 refine s1 (Ae un174 rfl (hB2.cell (Ad9 _))) ?_
 refine s1 (A6 (i:=7) u175 sz174 rfl rfl (by decide)) ?_
 refine s1 (Ae un174 rfl (hB2.cell (Ae2 _))) ?_
 refine s1 (Ah (by conv=>lhs;whnf)) ?_
 refine s1 (Ah (by conv=>lhs;whnf)) ?_
 refine s1 (Ah (by conv=>lhs;whnf)) ?_
 refine s1 (Ah (by conv=>lhs;whnf)) ?_
 refine s1 (Ah (by conv=>lhs;whnf)) ?_
 refine s1 (Ah (by conv=>lhs;whnf)) ?_
 refine s1 (Ah (by conv=>lhs;whnf)) ?_
 refine s1 (Ah (by conv=>lhs;whnf)) ?_
 refine Bx (t_n (Ab (Ab (Aa ?_))))
 refine pM (Ac (t_n (Ap ?_)))
 have hWL4:=Ext.refl w17
 refine Bc (ι:=Nat) (rg 10 11++rg 127 63) (fun i=>[(10,.int .u32 (runW WW s i).a),(11,.int .u32 (runW WW s i).b),(12,.int .u32 (runW WW s i).c),(13,.int .u32 (runW WW s i).d),(14,.int .u32 (runW WW s i).e),(15,.int .u32 (runW WW s i).f),(16,.int .u32 (runW WW s i).g),(17,.int .u32 (runW WW s i).h),(127,.int .i64 (i:Int))]) (fun i w'=>Ext w17 w'∧(i≤64)) (fun i=>64 - i) (0) ⟨rfl,rfl,rfl,rfl,rfl,rfl,rfl,rfl,rfl,trivial⟩ ⟨Ext.refl _,(by omega)⟩ ?_
 rintro i GL4 w18 ⟨hE18,hi⟩
 have hX:=hX.ext hE18
 have hB2:=hB2.ext hE18
 have hB4:=hB4.ext hE18
 have hB5:=hB5.ext hE18
 have hWL4:=hE18
 refine Ab (Aa ?_)
 refine p1 (Bi rfl rfl) ?_
 refine Ac (t_n (Ab ?_))
 refine As rfl (fun hc128=>?_) (fun hc128=>?_)
 ·refine Ak (t_n (Ab (Ap (Ab (Aa ?_)))))
  refine pM (pA (Ac (t_n (Ab ?_))))
  refine Bj (fun w1 w2=>Ext w1 w2) mixed ?_
  intro w19 hE19
  have hX:=hX.ext hE19
  have hB5:=hB5.ext hE19
  have hWL4:=hWL4.ext hE19
  have hSr17:(fun w1 w2=>Ext w1 w2) w19 w19:=Ext.refl w19
  refine hT 0 rfl hSr17 (fun wS hSS=>by(exact(Af (by conv=>lhs;whnf)))) ?_
  refine hT 1 rfl hSr17 (fun wS hSS=>by(exact(Af (by conv=>lhs;whnf)))) ?_
  refine hT 3 rfl hSr17 (fun wS hSS=>by(exact(Af (by conv=>lhs;whnf)))) ?_
  refine hT 6 rfl hSr17 (fun wS hSS=>by(exact(Af (by conv=>lhs;whnf)))) ?_
  refine hT 10 rfl hSr17 (fun wS hSS=>by(exact(Af (by conv=>lhs;whnf)))) ?_
  refine hT 11 rfl hSr17 (fun wS hSS=>by(exact(Af (by conv=>lhs;whnf)))) ?_
  refine hT 12 rfl hSr17 (fun wS hSS=>by(exact(Iz rfl rfl))) ?_
  refine hT 13 rfl hSr17 (fun wS hSS=>by(exact(Af (by conv=>lhs;whnf)))) ?_
  refine hT 14 rfl hSr17 (fun wS hSS=>by(exact(N4 rfl))) ?_
  refine hT 15 rfl hSr17 (fun wS hSS=>by(exact(Af (by conv=>lhs;whnf)))) ?_
  refine hT 16 rfl hSr17 (fun wS hSS=>by(exact(Iz rfl rfl))) ?_
  refine hT 17 rfl hSr17 (fun wS hSS=>by(exact(Ef rfl rfl))) ?_
  refine hT 19 rfl hSr17 (fun wS hSS=>by(exact(Af (by conv=>lhs;whnf)))) ?_
  refine hT 20 rfl hSr17 (fun wS hSS=>by(exact(A6 u213 sz174 rfl rfl (by omega)))) ?_
  refine hT 21 rfl hSr17 (fun wS hSS=>by(have hX:=hX.ext hSS;exact(Ae un174 rfl (hrt.ext hX i (by omega))))) ?_
  refine hT 23 rfl hSr17 (fun wS hSS=>by(exact(Af (by conv=>lhs;whnf)))) ?_
  refine hT 24 rfl hSr17 (fun wS hSS=>by(exact(A6 u213 sz174 rfl rfl (by omega)))) ?_
  refine hT 25 rfl hSr17 (fun wS hSS=>by(have hB5:=hB5.ext hSS;exact(Ae un174 rfl (hB5.cell (Dh (by omega)))))) ?_
  refine h1L 2 (fun Q2 hQ2=>?_)
  refine oC Tryz.func162 (D7 _ 6 _ (by decide) (by decide)) ?_
  rintro v20 w20 ⟨rfl,hE20⟩
  have hWL4:=hWL4.ext hE20
  have hSr17:=hSr17.ext hE20
  refine An hQ2 ⟨hSr17,?_⟩
  refine h1L 4 (fun Q4 hQ4=>?_)
  refine oC Tryz.func162 (D7 _ 11 _ (by decide) (by decide)) ?_
  rintro v21 w21 ⟨rfl,hE21⟩
  have hWL4:=hWL4.ext hE21
  have hSr17:=hSr17.ext hE21
  refine An hQ4 ⟨hSr17,?_⟩
  refine hT 5 rfl hSr17 (fun wS hSS=>by(exact(Ef rfl rfl))) ?_
  refine h1L 7 (fun Q7 hQ7=>?_)
  refine oC Tryz.func162 (D7 _ 25 _ (by decide) (by decide)) ?_
  rintro v22 w22 ⟨rfl,hE22⟩
  have hWL4:=hWL4.ext hE22
  have hSr17:=hSr17.ext hE22
  refine An hQ7 ⟨hSr17,?_⟩
  refine hT 8 rfl hSr17 (fun wS hSS=>by(exact(Ef rfl rfl))) ?_
  refine hT 9 rfl hSr17 (fun wS hSS=>by(exact(C8 rfl rfl))) ?_
  refine hT 18 rfl hSr17 (fun wS hSS=>by(exact(C8 rfl rfl))) ?_
  refine hT 22 rfl hSr17 (fun wS hSS=>by(exact(C8 rfl rfl))) ?_
  refine hT 26 rfl hSr17 (fun wS hSS=>by(exact(C8 rfl rfl))) ?_
  refine hT 27 rfl hSr17 (fun wS hSS=>by(exact(Ah (by conv=>lhs;whnf)))) ?_
  refine A7 (by kernel_rfl) ?_
  refine t_n (Ab (Aa ?_))
  refine pM ?_
  refine oC Tryz.func162 (D7 _ 2 _ (by decide) (by decide)) ?_
  rintro v23 w23 ⟨rfl,hE23⟩
  have hWL4:=hWL4.ext hE23
  refine pM ?_
  refine oC Tryz.func162 (D7 _ 13 _ (by decide) (by decide)) ?_
  rintro v24 w24 ⟨rfl,hE24⟩
  have hWL4:=hWL4.ext hE24
  refine p1 (Ef rfl rfl) ?_
  refine pM ?_
  refine oC Tryz.func162 (D7 _ 22 _ (by decide) (by decide)) ?_
  rintro v25 w25 ⟨rfl,hE25⟩
  have hWL4:=hWL4.ext hE25
  refine p1 (Ef rfl rfl) ?_
  refine pM (pM ?_)
  refine p1 (Iz rfl rfl) ?_
  refine pM (pM ?_)
  refine p1 (Iz rfl rfl) ?_
  refine p1 (Ef rfl rfl) ?_
  refine pM (pM ?_)
  refine p1 (Iz rfl rfl) ?_
  refine p1 (Ef rfl rfl) ?_
  refine p1 (C8 rfl rfl) ?_
  refine pA (Ac (t_n (Aa ?_)))
  refine pM (pM (pM (pM (pM ?_))))
  refine p1 (C8 rfl rfl) ?_
  refine pM (pM (pM (pM (pM ?_))))
  refine p1 (C8 rfl rfl) ?_
  refine pA (pA (pA (pA (pA (pA (pA (pA (Ac (b_n (t_n (Aa ?_)))))))))))
  refine p1 (A0 rfl rfl (Am (by omega) (by omega))) ?_
  refine pM (Ac ?_)
  refine t_n (aK (i+1) ⟨rfl,rfl,rfl,rfl,rfl,rfl,rfl,rfl,rfl,trivial⟩ ?_)
  exact⟨⟨hWL4,(by omega)⟩,by((show _<_);omega)⟩
 have h64:i=64:=by omega
 subst h64
 refine A8 (t_e (t_e (Bq (t_n (Ab (Ab (Aa ?_)))))))
 refine pM (pM (pM (pM (pM (pM (pM (pM ?_)))))))
 refine p1 (Ol (runW WW s 64) rfl) ?_
 refine pM (Ac (t_n (Ap ?_)))
 obtain⟨X,hXX⟩:∃ X,X=runW WW s 64:=⟨_,rfl⟩
 rw[← hXX]
 refine Bc (ι:=Nat) ([21,22]++rg 199 11) (fun j=>[(199,.int .i64 (j:Int))]) (fun j w'=>Ext w w'∧(j≤8∧Blk w' g2 (wds (addW X.l s.l j)) 175∧Blk w' g4 (wds (List.replicate 8 0)) 175)) (fun j=>8 - j) (0) ⟨rfl,trivial⟩ ⟨hX,⟨by omega,hB2,hB4⟩⟩ ?_
 rintro j GL6 w26 ⟨hE26,hj,hB2,hB4⟩
 have hX:=hE26
 refine Ab (Aa ?_)
 refine p1 (Bi rfl rfl) ?_
 refine Ac (t_n (Ab ?_))
 refine As rfl (fun hc200=>?_) (fun hc200=>?_)
 ·refine Ak (t_n (Ab (Ap (Ab (Aa ?_)))))
  refine pM ?_
  refine p1 (Ach u175 sz174 (by kernel_rfl) rfl rfl (by omega) (Dh (by rw[W8.len];omega))) ?_
  refine pA (pA (Ac (t_n (Aa ?_))))
  refine pM ?_
  refine p1 (A6 u175 sz174 rfl rfl (by omega)) ?_
  refine p1 (Ae un174 rfl (hB2.cell (Dh (by rw[Jq,W8.len];omega)))) ?_
  refine pM ?_
  refine p1 (C8 rfl rfl) ?_
  refine p1 (A6 u175 sz174 rfl rfl (by omega)) ?_
  refine Aw rfl (by conv=>lhs;whnf) rfl rfl sz174 hB2 (by rw[Cn,Jq,W8.len];omega) ?_
  intro w27 hP27
  have hX:=hX.put hP27 (by omega)
  have hB2:=hP27.blk
  rw[Jt] at hB2
  have hB4:=hP27.keep hB4 (by omega)
  refine Ac (b_n (t_n (Aa ?_)))
  refine p1 (A0 rfl rfl (Am (by omega) (by omega))) ?_
  refine pM (Ac ?_)
  refine t_n (aK (j+1) ⟨rfl,trivial⟩ ?_)
  exact⟨⟨hX,⟨by omega,hB2,hB4⟩⟩,by((show _<_);omega)⟩
 have h8:j=8:=by omega
 subst h8
 rw[Ace] at hB2
 refine A8 (t_e (t_e (Bq (t_n (Ab (Aa ?_))))))
 refine p1 (Aq ua175 rfl hB2 (by rw[Cn];exact sz175)) ?_
 refine Al rfl (by conv=>lhs;whnf) (Hc _) (by rw[Cn];exact sz175) hB4 (by rfl) ?_
 intro w28 hP28
 have hX:=hX.put hP28 (by omega)
 have hB2:=hP28.keep hB2 (by omega)
 have hB4:=hP28.blk
 refine Ac (t_n (Ao ?_))
 refine end1c rfl ua175 rfl hB4 (by rw[Cn];exact sz175) ?_
 exact⟨by rw[hXX,hWW];rfl,hX⟩
end Go.Proofs.Eng
end
section
set_option maxRecDepth 100000
set_option maxHeartbeats 4000000
namespace Go.Proofs.Eng
open Go.RowKit
open Extern.Stop (cell)
theorem nb104:Instr.fill (fun i=>([(0,8),(8,64),(72,1),(73,1)]:List (Nat×Nat))[i]?) (Value.agg #[.int .u32 0,.int .u32 0,.int .u32 0,.int .u32 0,.int .u32 0,.int .u32 0,.int .u32 0,.int .u32 0,.int .u8 0,.int .u8 0,.int .u8 0,.int .u8 0,.int .u8 0,.int .u8 0,.int .u8 0,.int .u8 0,.int .u8 0,.int .u8 0,.int .u8 0,.int .u8 0,.int .u8 0,.int .u8 0,.int .u8 0,.int .u8 0,.int .u8 0,.int .u8 0,.int .u8 0,.int .u8 0,.int .u8 0,.int .u8 0,.int .u8 0,.int .u8 0,.int .u8 0,.int .u8 0,.int .u8 0,.int .u8 0,.int .u8 0,.int .u8 0,.int .u8 0,.int .u8 0,.int .u8 0,.int .u8 0,.int .u8 0,.int .u8 0,.int .u8 0,.int .u8 0,.int .u8 0,.int .u8 0,.int .u8 0,.int .u8 0,.int .u8 0,.int .u8 0,.int .u8 0,.int .u8 0,.int .u8 0,.int .u8 0,.int .u8 0,.int .u8 0,.int .u8 0,.int .u8 0,.int .u8 0,.int .u8 0,.int .u8 0,.int .u8 0,.int .u8 0,.int .u8 0,.int .u8 0,.int .u8 0,.int .u8 0,.int .u8 0,.int .u8 0,.int .u8 0,.int .i64 0,.int .i64 0]).cells [(0,.agg (wds s0W.l))]=some (hst s0W (List.replicate 64 0) 0 0):=by kernel_rfl
theorem Ac0 (w:World) (hbt:Bt w) :
    Ret Tryz.prog 81 [] w (fun v w'=>(∃ g,v = .pointer (some ⟨g,0,none⟩)∧g=w.heap.size∧Hs w' g [])∧Ext w w'):=by
 have hX:=Ext.refl w
 refine eN 4 Tryz.func81 ?_
 refine Ab (Aa ?_)
 refine pA (Ac (t_n (Ab (Aa ?_))))
 refine p1 (Cb ua175 rfl (by rw[List.length_map];exact sz175) (hbt.ext hX).range) ?_
 refine p1 (Eb (ps:=[(0,.agg (wds s0W.l))]) (cs:=hst s0W (List.replicate 64 0) 0 0) pl178 rfl nb104) ?_
 refine Bu (by conv=>lhs;whnf) ?_
 intro w1 g3 hN3
 have hE1:=hN3.ext
 have hX:=hX.ext hE1
 have hB3:=hN3.blk
 refine pA (Ac (t_n (Ao ?_)))
 refine eR1 ?_
 exact⟨⟨g3,rfl,hN3.g_eq,s0W,_,0,HsP.new _ (by simp),hB3⟩,hX⟩
theorem J1 (all xs:List UInt8) (e:TypeId) (B g:Nat) (p:Option Addr) (n c:Nat) (w:World) (hs:Hs w g all) (hl:Sl kByte e B w p n c xs) (he:e≠178) (hBg:B≤g) (hn:all.length+n≤100000000000000) (hrt:Rt w) (h4:1<g) :
    Ret Tryz.prog 82 [.pointer (some ⟨g,0,none⟩),.slice p n c] w (fun v w'=>Hs w' g (all++xs)∧But g 178 w w'):=by
 obtain⟨s,wt,k,hp,hH⟩:=hs
 have hE:∀ u∈e :: kByte.E,u≠178:=by intro u hu;simp[kByte,Kind.pure] at hu;exact hu ▸ he
 have hlen:=hl.len
 have hlcap:=hl.cap
 have hlfit:=hl.fit
 have hX:=But.refl g 178 w
 refine eN 60 Tryz.func82 ?_
 refine Ab (Ab (Aa ?_))
 refine pM ?_
 refine p1 (Cc u132 rfl rfl) ?_
 refine Ac (t_n ?_)
 refine c_f (rfl) ?_
 refine Ak (t_n (Ab (Aa ?_)))
 refine pM ?_
 refine p1 (Ag rfl) ?_
 refine p1 (Ad S8 sz3 rfl) ?_
 refine p1 (Ae un3 rfl (hH.cell (Ad5 hp.wl))) ?_
 refine pM ?_
 refine p1 (Ar u23 rfl) ?_
 refine p1 ((A0 rfl rfl (Am (by omega) (by omega))).cast (congrArg _ (by omega:((all.length:Nat):Int)+(n:Int)=((all.length+n:Nat):Int)))) ?_
 refine p1 (Ag rfl) ?_
 refine p1 (Ad S8 sz3 rfl) ?_
 refine Aw rfl (by conv=>lhs;whnf) rfl rfl sz3 hH (by rw[F6 hp.wl];omega) ?_
 intro w1 hP1
 have hX:=hX.trans (But.ofPut hP1)
 have hH:=hP1.blk
 rw[Abe hp.wl] at hH
 refine Ac (t_n (Ap ?_))
 refine Bc (ι:=Option Addr×Nat×Nat×List UInt8×List UInt8×W8×List UInt8×Nat) ([1,4]++rg 16 44) (fun (q,r,d,rest,done,s,wt,k)=>[(1,.slice q r d)]) (fun (q,r,d,rest,done,s,wt,k) w'=>But g 178 w w'∧(HsP s wt k done∧Blk w' g (hst s wt k (all.length+n)) 178∧Sl kByte e B w' q r d rest∧done++rest=all++xs)) (fun (q,r,d,rest,done,s,wt,k)=>r) ((p,n,c,xs,all,s,wt,k)) ⟨rfl,trivial⟩ ⟨hX,⟨hp,hH,hl.but hX hBg hE,rfl⟩⟩ ?_
 rintro⟨q,r,d,rest,done,s,wt,k⟩ GL0 w2 ⟨hE2,hp,hH,hS,hD⟩
 have hX:=hE2
 have hwl:=hp.wl
 have hklt:=hp.lt
 have hrl:=hS.len
 have hrfit:=hS.fit
 have hrcap:=hS.cap
 refine Ab (Ab (Aa ?_))
 refine pM ?_
 refine p1 (Ar u23 rfl) ?_
 refine p1 (Cw rfl rfl) ?_
 refine Ac (t_n ?_)
 refine As rfl (fun hc18=>?_) (fun hc18=>?_)
 ·refine Ak (t_n (Ap (Ab ?_)))
  refine Cx 9 mixed (by kernel_rfl) ?_
  intro w3 hE3
  have hX:=hX.ext hE3
  have hH:=hH.ext hE3
  have hS:=hS.ext hE3
  refine s1 (Af (by conv=>lhs;whnf)) ?_
  refine s1 (Ag rfl) ?_
  refine s1 (Ad Xz sz176 rfl) ?_
  refine s1 (Af (by conv=>lhs;whnf)) ?_
  refine s1 (Ag rfl) ?_
  refine s1 (Ad Kc sz3 rfl) ?_
  refine s1 (Ae un3 rfl (hH.cell (Xv hwl))) ?_
  refine s1 (Qf u176 sz5 rfl rfl (by omega)) ?_
  refine s1 (Af (by conv=>lhs;whnf)) ?_
  refine Bx ?_
  refine Ada u23 sz5 rfl rfl hH (by rw[F6 hwl];omega) hS (by omega) ?_
  intro w4 hP4
  have hX:=hX.trans (But.ofPut hP4)
  have hS:=hS.but (But.ofPut hP4) hBg hE
  have hH:=hP4.blk
  rw[Abf hwl rest k _ (by omega) (by omega)] at hH
  obtain⟨j,hjj⟩:∃ j,j=min r (64 - k):=⟨_,rfl⟩
  rw[← hjj] at hH ⊢
  obtain⟨wt2,hwt2⟩:∃ x,x=wt.take k++rest.take j++wt.drop (k+j):=⟨_,rfl⟩
  have hwl2:wt2.length=64:=by rw[hwt2];simp;omega
  rw[← hwt2] at hH
  refine pA (Ac (t_n (Ab (Aa ?_))))
  refine pM ?_
  refine p1 (Ag rfl) ?_
  refine p1 (Ad Kc sz3 rfl) ?_
  refine p1 (Ae un3 rfl (hH.cell (Xv hwl2))) ?_
  refine pM ?_
  refine p1 ((A0 rfl rfl (Am (by omega) (by omega))).cast (congrArg _ (by omega:((k:Nat):Int)+((j:Nat):Int)=((k+j:Nat):Int)))) ?_
  refine p1 (Ag rfl) ?_
  refine p1 (Ad Kc sz3 rfl) ?_
  refine Aw rfl (by conv=>lhs;whnf) rfl rfl sz3 hH (by rw[F6 hwl2];omega) ?_
  intro w5 hP5
  have hX:=hX.trans (But.ofPut hP5)
  have hH:=hP5.blk
  rw[Us hwl2] at hH
  have hS:=hS.but (But.ofPut hP5) hBg hE
  refine Ac (t_n (Ab (Aa ?_)))
  refine pM (pM ?_)
  refine p1 (Bs u23 sz5 rfl rfl (by omega)) ?_
  refine pA (Ac (t_n (Ab (Aa ?_))))
  refine pM ?_
  refine p1 (Ag rfl) ?_
  refine p1 (Ad Kc sz3 rfl) ?_
  refine p1 (Ae un3 rfl (hH.cell (Xv hwl2))) ?_
  refine p1 (Bw rfl rfl) ?_
  refine Ac (t_n ?_)
  refine As rfl (fun hc44=>?_) (fun hc44=>?_)
  ·have hkj:k+j=64:=by omega
   have hp2:=hp.full rest (j:=j) (by omega) hkj
   rw[← hwt2] at hp2
   refine Ab ?_
   refine Bj (fun _ w2=>RwB w2 g wt2) mixed ?_
   intro w6 hE6
   have hX:=hX.ext hE6
   have hH:=hH.ext hE6
   have hS:=hS.ext hE6
   have hSr7:(fun _ w2=>RwB w2 g wt2) w6 w6:=Jc hH
   have hRw:RwB _ g wt2:=Jc hH
   refine hT 0 rfl hSr7 (fun wS hSS=>by(exact(Af (by conv=>lhs;whnf)))) ?_
   refine hT 1 rfl hSr7 (fun wS hSS=>by(exact(Af (by conv=>lhs;whnf)))) ?_
   refine hT 2 rfl hSr7 (fun wS hSS=>by(exact(Ag rfl))) ?_
   refine hT 3 rfl hSr7 (fun wS hSS=>by(exact(Ad S9 sz175 rfl))) ?_
   refine hT 5 rfl hSr7 (fun wS hSS=>by(exact(Af (by conv=>lhs;whnf)))) ?_
   refine hT 6 rfl hSr7 (fun wS hSS=>by(exact(Ag rfl))) ?_
   refine hT 7 rfl hSr7 (fun wS hSS=>by(exact(Ad Xz sz176 rfl))) ?_
   refine hT 8 rfl hSr7 (fun wS hSS=>by(have hRw:=hSS;exact(Cb ua176 rfl (by rw[List.length_map,hwl2];exact sz176) hRw))) ?_
   refine h1L 4 (fun Q4 hQ4=>?_)
   refine p1 (Cb ua175 rfl (by rw[List.length_map];exact sz175) (Ut hH)) ?_
   refine An hQ4 ⟨hSr7,?_⟩
   refine h1L 9 (fun Q9 hQ9=>?_)
   refine oC Tryz.func126 (Acz s wt2 _ hwl2 (hrt.but hX h4)) ?_
   rintro v7 w7 ⟨rfl,hE7⟩
   have hX:=hX.ext hE7
   have hH:=hH.ext hE7
   have hS:=hS.ext hE7
   have hSr7:=hSr7.ext hE7
   refine An hQ9 ⟨hSr7,?_⟩
   refine hT 10 rfl hSr7 (fun wS hSS=>by(exact(Ag rfl))) ?_
   refine hT 11 rfl hSr7 (fun wS hSS=>by(exact(Ad S9 sz175 rfl))) ?_
   refine h1L 12 (fun Q12 hQ12=>?_)
   refine Ff rfl rfl (Hc _) (by rw[Cn];exact sz175) hH (by rw[F6 hwl2,Cn,W8.len];omega) ?_
   intro w8 hP8
   have hX:=hX.trans (But.ofPut hP8)
   have hH:=hP8.blk
   rw[Abd] at hH
   have hS:=hS.but (But.ofPut hP8) hBg hE
   have hSr7:=Jc hH
   refine An hQ12 ⟨hSr7,?_⟩
   refine A7 (by kernel_rfl) ?_
   refine t_n (Aa ?_)
   refine pM ?_
   refine p1 (Ag rfl) ?_
   refine p1 (Ad Kc sz3 rfl) ?_
   refine Aw rfl (by conv=>lhs;whnf) rfl rfl sz3 hH (by rw[F6 hwl2];omega) ?_
   intro w9 hP9
   have hX:=hX.trans (But.ofPut hP9)
   have hH:=hP9.blk
   rw[show (Value.int .i64 0) = .int .i64 ((0:Nat):Int) from rfl,Us hwl2] at hH
   have hS:=hS.but (But.ofPut hP9) hBg hE
   refine Ac (b_n ?_)
   exact t_n (aK ((_,r - j,_,rest.drop j,done++rest.take j,mixF s wt2,wt2,0)) ⟨rfl,trivial⟩ ⟨⟨hX,⟨hp2,hH,hS.dropI j (by omega),by rw[List.append_assoc,List.take_append_drop];exact hD⟩⟩,by(dsimp only;omega)⟩)
  have hkj:k+j<64:=by omega
  have hp2:=hp.part rest (j:=j) (by omega) hkj
  rw[← hwt2] at hp2
  refine Ak (b_n ?_)
  exact t_n (aK ((_,r - j,_,rest.drop j,done++rest.take j,s,wt2,k+j)) ⟨rfl,trivial⟩ ⟨⟨hX,⟨hp2,hH,hS.dropI j (by omega),by rw[List.append_assoc,List.take_append_drop];exact hD⟩⟩,by(dsimp only;omega)⟩)
 have hr0:rest=[]:=List.length_eq_zero_iff.1 (by omega)
 rw[hr0,List.append_nil] at hD
 refine A8 (t_e (t_e (Bq ?_)))
 refine end0n rfl ?_
 exact⟨⟨s,wt,k,hD ▸ hp,by rw[List.length_append,hl.len];exact hH⟩,hX⟩
theorem Aaf (all:List UInt8) (g0:Nat) (w:World) (hs:Hs w g0 all) (hn:all.length≤10000000000000) (hrt:Rt w) (h4:1<w.heap.size) :
    Ret Tryz.prog 83 [.pointer (some ⟨g0,0,none⟩)] w (fun v w'=>v = .agg (hv (shaF all))∧Ext w w'):=by
 obtain⟨s0,wt0,k0,hp0,hH⟩:=hs
 have hX:=Ext.refl w
 refine eN 62 Tryz.func83 ?_
 refine Ab (Aa ?_)
 refine Ay zr64 ?_
 intro w1 g2 hN2
 have hE1:=hN2.ext
 have hX:=hX.ext hE1
 have hH:=hH.ext hE1
 have hB2:=hN2.blk
 refine Ac (t_n (Ab (Ab (Aa ?_))))
 have hB2:Blk _ g2 (bcs (List.replicate 32 0)) 64:=hB2
 refine pM ?_
 refine p1 (Cc u132 rfl rfl) ?_
 refine Ac (t_n ?_)
 refine c_f (rfl) ?_
 refine Ak (t_n (Ab (Aa ?_)))
 refine pM ?_
 refine p1 (Ag rfl) ?_
 refine p1 (Aq ua178 rfl hH (by rw[F6 hp0.wl];exact sz178)) ?_
 have sX:=hX.size
 have l2:=hB2.lt
 have lH:=hH.lt
 refine Ay zr178 ?_
 intro w2 g3 hN3
 have hE2:=hN3.ext
 have hX:=hX.ext hE2
 have hH:=hH.ext hE2
 have hB2:=hB2.ext hE2
 have hB3:=hN3.blk
 have e3:=hN3.g_eq
 have hg3:w.heap.size≤g3:=by omega
 have h23:g2<g3:=by omega
 refine Al rfl (by conv=>lhs;whnf) Adl (by rw[F6 hp0.wl];exact sz178) hB3 (by rw[F6 hp0.wl];rfl) ?_
 intro w3 hP3
 have hX:=hX.put hP3 (by omega)
 have hH:=hP3.keep hH (by omega)
 have hB2:=hP3.keep hB2 (by omega)
 have hB3:=hP3.blk
 refine Ac (t_n (Ab (Aa ?_)))
 refine pM ?_
 refine p1 (Ag rfl) ?_
 refine p1 (Ad S8 sz3 rfl) ?_
 refine p1 (Ae un3 rfl (hH.cell (Ad5 hp0.wl))) ?_
 refine p1 (B8 u180 us3 rfl (Ct (by omega) (by omega))) ?_
 refine p1 ((M1 rfl rfl (by omega)).cast (congrArg _ (shl3 (by omega)))) ?_
 refine pA (Ac (t_n (Ab (Aa ?_))))
 refine Av u23 inf5 rfl (by decide) (fun base hb=>Br (by rfl) base hb) ?_
 intro w4 g21 hN21
 have hE4:=hN21.ext
 have hX:=hX.ext hE4
 have hB2:=hB2.ext hE4
 have hB3:=hB3.ext hE4
 have hJ:=G4 (b:=128) hN21 (B0:=0) (Nat.zero_le _)
 have hHs:Hs _ g3 all:=⟨s0,wt0,k0,hp0,hB3⟩
 refine oC Tryz.func82 (J1 (all) ([128]) 5 0 g3 _ _ _ _ hHs hJ.sl (by decide) (Nat.zero_le _) (by simp[Iw];omega) (hrt.ext hX) (by omega)) ?_
 rintro v5 w5 ⟨hHs,hM5⟩
 have hX:=hM5.extTo hX hg3
 have hB2:=hB2.but hM5 (.inl (by omega))
 skip
 refine Ac (t_n (Ab (Ap ?_)))
 refine Bc (ι:=Nat) [23,24,25,26,27] (fun j=>[]) (fun j w'=>Ext w w'∧(j≤padZ all.length∧Blk w' g2 (bcs (List.replicate 32 0)) 64∧Hs w' g3 (all++[128]++List.replicate j 0))) (fun j=>padZ all.length - j) (0) trivial ⟨hX,⟨by omega,hB2,by rw[List.replicate_zero,List.append_nil];exact hHs⟩⟩ ?_
 rintro j GL0 w6 ⟨hE6,hj,hB2,hHs⟩
 have hX:=hE6
 have hHs0:=hHs
 obtain⟨s1,wt1,k1,hp1,hB3⟩:=hHs0
 have hk1:=hp1.kk
 have hl1:(all++[128]++List.replicate j 0).length=all.length+1+j:=by simp;omega
 rw[hl1] at hk1
 have hpm:=Pb all.length
 have hpz:=N8 all.length
 refine Ab (Ab (Aa ?_))
 refine p1 (Ad Kc sz3 rfl) ?_
 refine p1 (Ae un3 rfl (hB3.cell (Xv hp1.wl))) ?_
 refine p1 (A2 rfl rfl) ?_
 refine Ac (t_n ?_)
 refine As rfl (fun hc25=>?_) (fun hc25=>?_)
 ·have hjlt:j<padZ all.length:=by omega
  refine Ak (t_n (Ap (Aa ?_)))
  refine Av u23 inf5 rfl (by decide) (fun base hb=>Br (by rfl) base hb) ?_
  intro w7 g26 hN26
  have hE7:=hN26.ext
  have hX:=hX.ext hE7
  have hB2:=hB2.ext hE7
  have hHs:=hHs.ext hE7
  have hJ:=G4 (b:=0) hN26 (B0:=0) (Nat.zero_le _)
  refine oC Tryz.func82 (J1 (all++[128]++List.replicate j 0) ([0]) 5 0 g3 _ _ _ _ hHs hJ.sl (by decide) (Nat.zero_le _) (by simp[Iw];omega) (hrt.ext hX) (by omega)) ?_
  rintro v8 w8 ⟨hHs,hM8⟩
  have hX:=hM8.extTo hX hg3
  have hB2:=hB2.but hM8 (.inl (by omega))
  rw[List.append_assoc,← List.replicate_succ'] at hHs
  refine Ac (b_n ?_)
  refine t_n (aK (j+1) trivial ?_)
  exact⟨⟨hX,⟨by omega,hB2,hHs⟩⟩,by((show _<_);omega)⟩
 have hje:j=padZ all.length:=Classical.byContradiction fun h=>Xl (n:=all.length) (j:=j) (by omega) (by omega)
 subst hje
 refine A8 (t_e (t_e (Bq (t_n (Ab (Aa ?_))))))
 have l3:=hHs.lt
 have sX8:=hX.size
 refine Ay zr181 ?_
 intro w9 g5 hN5
 have hE9:=hN5.ext
 have hX:=hX.ext hE9
 have hB2:=hB2.ext hE9
 have hHs:=hHs.ext hE9
 have hB5:=hN5.blk
 refine Ac (t_n (Ab (Ab (Aa ?_))))
 have e5:=hN5.g_eq
 have h35:g3<g5:=by omega
 have hB5:Blk _ g5 (bcs (List.replicate 8 0)) 181:=hB5
 refine pM (Ac (t_n (Ap ?_)))
 refine Bc (ι:=Nat) ([6]++rg 28 13) (fun i=>[(28,.int .i64 (i:Int))]) (fun i w'=>Ext w w'∧(i≤8∧Blk w' g2 (bcs (List.replicate 32 0)) 64∧Hs w' g3 (all++[128]++List.replicate (padZ all.length) 0)∧Blk w' g5 (bcs (setB (beB all.length) (List.replicate 8 0) i)) 181)) (fun i=>8 - i) (0) ⟨rfl,trivial⟩ ⟨hX,⟨by omega,hB2,hHs,hB5⟩⟩ ?_
 rintro i GL2 w10 ⟨hE10,hi,hB2,hHs,hB5⟩
 have hX:=hE10
 refine Ab (Aa ?_)
 refine p1 (Bi rfl rfl) ?_
 refine Ac (t_n (Ab ?_))
 refine As rfl (fun hc29=>?_) (fun hc29=>?_)
 ·refine Ak (t_n (Ab (Ap (Ab (Aa ?_)))))
  refine pM (pA (Ac (t_n (Aa ?_))))
  refine pM (pM (pM ?_))
  refine p1 (Iy rfl rfl (Am (by omega) (by omega))) ?_
  refine p1 (Dg rfl rfl (Am (by omega) (by omega))) ?_
  refine p1 (B8 u86 us3 rfl (Ct (by omega) (by omega))) ?_
  refine p1 (Fa rfl rfl (by omega)) ?_
  refine p1 ((Fd u5 us180 rfl).cast (congrArg _ (wrapI _))) ?_
  refine p1 (A6 u181 sz5 rfl rfl (by omega)) ?_
  refine Aw rfl (by conv=>lhs;whnf) rfl rfl sz5 hB5 (by rw[Jo,Ld,List.length_replicate];omega) ?_
  intro w11 hP11
  have hX:=hX.put hP11 (by omega)
  have hB2:=hP11.keep hB2 (by omega)
  have hHs:=hHs.keep hP11 (by omega)
  have hB5:=hP11.blk
  rw[Tg] at hB5
  refine Ac (b_n (t_n (Aa ?_)))
  refine p1 (A0 rfl rfl (Am (by omega) (by omega))) ?_
  refine pM (Ac ?_)
  refine t_n (aK (i+1) ⟨rfl,trivial⟩ ?_)
  exact⟨⟨hX,⟨by omega,hB2,hHs,hB5⟩⟩,by((show _<_);omega)⟩
 have h8:i=8:=by omega
 subst h8
 rw[N6 _ _ 8 (by simp),List.drop_of_length_le (by simp),List.append_nil] at hB5
 have hB5:Blk _ g5 (bcs (be8 all.length)) 181:=hB5
 refine A8 (t_e (t_e (Bq (t_n (Ab (Aa ?_))))))
 refine p1 (Tk u181 sz5 rfl) ?_
 refine oC Tryz.func82 (J1 (all++[128]++List.replicate (padZ all.length) 0) (be8 all.length) 181 0 g3 _ _ _ _ hHs (Aef hB5 (Iw _) (by decide)) (by decide) (Nat.zero_le _) (by simp[Iw];omega) (hrt.ext hX) (by omega)) ?_
 rintro v12 w12 ⟨hHs,hM12⟩
 have hX:=hM12.extTo hX hg3
 have hB2:=hB2.but hM12 (.inl (by omega))
 have hHs:Hs _ g3 (padF all):=hHs
 have l3b:=hHs.lt
 refine Ac (t_n (Ab (Aa ?_)))
 refine Ay zr64 ?_
 intro w13 g7 hN7
 have hE13:=hN7.ext
 have hX:=hX.ext hE13
 have hB2:=hB2.ext hE13
 have hHs:=hHs.ext hE13
 have hB7:=hN7.blk
 refine Ac (t_n (Ab (Ab (Aa ?_))))
 have sX9:=hX.size
 have e7:=hN7.g_eq
 have h37:g3<g7:=by omega
 have hB7:Blk _ g7 (bcs (List.replicate 32 0)) 64:=hB7
 obtain⟨sF,wF,kF,hpF,hB3⟩:=hHs
 have hwF:=hpF.wl
 refine pM (Ac (t_n (Ap ?_)))
 refine Bc (ι:=Nat) ([8]++rg 43 18) (fun i=>[(43,.int .i64 (i:Int))]) (fun i w'=>Ext w w'∧(i≤32∧Blk w' g2 (bcs (List.replicate 32 0)) 64∧Blk w' g3 (hst sF wF kF (padF all).length) 178∧Blk w' g7 (bcs (setB (ouB sF) (List.replicate 32 0) i)) 64)) (fun i=>32 - i) (0) ⟨rfl,trivial⟩ ⟨hX,⟨by omega,hB2,hB3,hB7⟩⟩ ?_
 rintro i GL4 w14 ⟨hE14,hi,hB2,hB3,hB7⟩
 have hX:=hE14
 refine Ab (Aa ?_)
 refine p1 (Bi rfl rfl) ?_
 refine Ac (t_n (Ab ?_))
 refine As rfl (fun hc44=>?_) (fun hc44=>?_)
 ·refine Ak (t_n (Ab (Ap (Ab (Aa ?_)))))
  refine pM (pA (Ac (t_n (Aa ?_))))
  refine pM (pM ?_)
  refine p1 ((Tl rfl rfl (by omega) (by omega) (Am (by omega) (by omega))).cast (congrArg _ (by omega:((i:Nat):Int) / 4=((i / 4:Nat):Int)))) ?_
  refine p1 (Ad S9 sz175 rfl) ?_
  refine p1 (A6 (i:=i / 4) u175 sz174 rfl rfl (by omega)) ?_
  refine p1 (Ae un174 rfl (hB3.cell (Afd (by omega)))) ?_
  refine pM ?_
  refine p1 ((Kl rfl rfl (by omega) (by omega)).cast (congrArg _ (by omega:((i:Nat):Int) % 4=((i % 4:Nat):Int)))) ?_
  refine p1 (Iy rfl rfl (Am (by omega) (by omega))) ?_
  refine p1 (Dg rfl rfl (Am (by omega) (by omega))) ?_
  refine p1 (B8 u86 us3 rfl (Ct (by omega) (by omega))) ?_
  refine p1 (Fa rfl rfl (by omega)) ?_
  refine p1 ((Fd u5 us174 rfl).cast (congrArg _ (wrapI _))) ?_
  refine p1 (A6 u64 sz5 rfl rfl (by omega)) ?_
  refine Aw rfl (by conv=>lhs;whnf) rfl rfl sz5 hB7 (by rw[Jo,Ld,List.length_replicate];omega) ?_
  intro w15 hP15
  have hX:=hX.put hP15 (by omega)
  have hB2:=hP15.keep hB2 (by omega)
  have hB3:=hP15.keep hB3 (by omega)
  have hB7:=hP15.blk
  rw[Tg] at hB7
  refine Ac (b_n (t_n (Aa ?_)))
  refine p1 (A0 rfl rfl (Am (by omega) (by omega))) ?_
  refine pM (Ac ?_)
  refine t_n (aK (i+1) ⟨rfl,trivial⟩ ?_)
  exact⟨⟨hX,⟨by omega,hB2,hB3,hB7⟩⟩,by((show _<_);omega)⟩
 have h32:i=32:=by omega
 subst h32
 rw[N6 _ _ 32 (by simp),List.drop_of_length_le (by simp),List.append_nil] at hB7
 have hB7:Blk _ g7 (hv (outH sF)) 64:=hB7
 refine A8 (t_e (t_e (Bq (t_n (Ab (Aa ?_))))))
 refine p1 (Aq ua64 rfl hB7 (C4 sz64 _)) ?_
 refine Al rfl rfl (E6 _) (C4 sz64 _) hB2 (by rw[Hi];simp[Jo]) ?_
 intro w16 hP16
 have hX:=hX.put hP16 (by have e2:=hN2.g_eq;omega)
 have hB2:=hP16.blk
 have hB3:=hP16.keep hB3 (by omega)
 have hB7:=hP16.keep hB7 (by omega)
 refine Ac (t_n (Ao ?_))
 refine end1c rfl ua64 rfl hB2 (C4 sz64 _) ?_
 exact⟨by rw[hpF.st];rfl,hX⟩
theorem Xk (xs:List UInt8) (B:Nat) (p:Option Addr) (n c:Nat) (w:World) (hl:Sl kByte 5 B w p n c xs) (hn:n≤10000000000000) (hBw:B≤w.heap.size) (hrt:Rt w) (hbt:Bt w) (h4:1<w.heap.size) :
    Ret Tryz.prog 34 [.slice p n c] w (fun v w'=>v = .agg (hv (shaF xs))∧Ext w w'):=by
 have hX:=Ext.refl w
 refine eN 10 Tryz.func34 ?_
 refine Ab (Aa ?_)
 refine Ay zr64 ?_
 intro w1 g2 hN2
 have hE1:=hN2.ext
 have hX:=hX.ext hE1
 have hB2:=hN2.blk
 refine Ac (t_n (Ab (Aa ?_)))
 have l2:=hB2.lt
 have sX:=hX.size
 refine oC Tryz.func81 (Ac0 _ (hbt.ext hX)) ?_
 rintro v2 w2 ⟨⟨gh,rfl,hgh,hHs⟩,hE2⟩
 have hX:=hX.ext hE2
 have hB2:=hB2.ext hE2
 refine pA (Ac (t_n (Ab (Aa ?_))))
 refine pM (pM ?_)
 refine oC Tryz.func82 (J1 [] xs 5 B gh _ _ _ _ hHs (hl.ext hX) (by decide) (by omega) (by simp;omega) (hrt.ext hX) (by omega)) ?_
 rintro v3 w3 ⟨hHs,hM3⟩
 have hX:=hM3.extTo hX (by omega)
 have hB2:=hB2.but hM3 (.inl (by omega))
 rw[List.nil_append] at hHs
 refine Ac (t_n (Ab (Aa ?_)))
 refine pM ?_
 refine oC Tryz.func83 (Aaf xs gh _ hHs (by have:=hl.len;omega) (hrt.ext hX) (by have:=hX.size;omega)) ?_
 rintro v4 w4 ⟨rfl,hE4⟩
 have hX:=hX.ext hE4
 have hB2:=hB2.ext hE4
 refine Al rfl rfl (E6 _) (C4 sz64 _) hB2 (Hi _) ?_
 intro w5 hP5
 have hX:=hX.put hP5 (by have e2:=hN2.g_eq;omega)
 have hB2:=hP5.blk
 refine Ac (t_n (Ao ?_))
 refine end1c rfl ua64 rfl hB2 (C4 sz64 _) ?_
 exact⟨rfl,hX⟩
end Go.Proofs.Eng
end
section
set_option maxRecDepth 100000
set_option maxHeartbeats 4000000
namespace Go.Proofs.Eng
open Go.RowKit
open Extern.Stop (cell)
theorem Sj (xs:List UInt8) (B:Nat) (p:Option Addr) (n c:Nat) (w:World) (hl:Sl kByte 5 B w p n c xs) (hn:n≤10000000000000) :
    Ret Tryz.prog 158 [.slice p n c] w (fun v w'=>(∃ q m c',v = .slice q m c'∧Own kByte 5 0 w.heap.size w' q m c' (padF xs))∧Ext w w'):=by
 have hX:=Ext.refl w
 refine eN 37 Tryz.func158 ?_
 refine Ab (Aa ?_)
 refine pA (Ac (t_n (Ab (Aa ?_))))
 refine pA (Ac (t_n (Ab (Aa ?_))))
 have hlen:=hl.len
 refine pM (pM ?_)
 have hO:Own kByte 5 0 w.heap.size w none 0 0 []:=Own.nil _ _ _ _ _
 have hB0:=hX.size
 have hl2:=hl.ext hX
 refine Az (d:=kByte) (xs) u23 inf5 rfl Bb rfl rfl hO (Fo u23 hl2) hl2.len (B6 _ _ _) (Bf _) (by omega) (by omega) (by omega) (by omega) (by decide) ?_
 intro p8 c8 w1 hO hM1
 have hX:=hX.mod hM1 (Nat.le_refl _)
 rw[List.nil_append] at hO
 refine Av u23 inf5 rfl (by decide) (fun base hb=>Br (by rfl) base hb) ?_
 intro w2 g9 hN9
 have hE2:=hN9.ext
 have hX:=hX.ext hE2
 have hO:=hO.ext hE2
 have hJ:=G4 (b:=128) hN9 (B0:=0) (Nat.zero_le _)
 have hB1:=hX.size
 refine Az (d:=kByte) ([128]) u23 inf5 rfl Bb rfl rfl hO (Fo u23 hJ.sl) rfl (B6 _ _ _) (Bf _) (by omega) (by omega) (by omega) (by omega) (by decide) ?_
 intro p10 c10 w3 hO hM3
 have hX:=hX.mod hM3 (Nat.le_refl _)
 refine pA (Ac (t_n (Ab (Ap ?_))))
 refine Bc (ι:=Option Addr×Nat×Nat) [3,11,12,13,14,15,16,17] (fun (q,d,j)=>[(3,.slice q (0+n+1+j) d)]) (fun (q,d,j) w'=>Ext w w'∧(j≤padZ n∧Own kByte 5 0 w.heap.size w' q (0+n+1+j) d (xs++[128]++List.replicate j 0))) (fun (q,d,j)=>padZ n - j) ((p10,c10,0)) ⟨rfl,trivial⟩ ⟨hX,⟨by omega,by rw[List.replicate_zero,List.append_nil];exact hO⟩⟩ ?_
 rintro⟨q,d,j⟩ GL0 w4 ⟨hE4,hj,hO⟩
 have hX:=hE4
 have hpm:=Pb n
 have hpz:=N8 n
 have hol:=hO.len
 refine Ab (Ab (Aa ?_))
 refine pM ?_
 refine p1 (Ar u23 rfl) ?_
 refine p1 ((Kl rfl rfl (by omega) (by omega)).cast (congrArg _ (by omega:(((0+n+1+j:Nat):Int) % 64)=(((0+n+1+j) % 64:Nat):Int)))) ?_
 refine p1 (A2 rfl rfl) ?_
 refine Ac (t_n ?_)
 refine As rfl (fun hc14=>?_) (fun hc14=>?_)
 ·have hjlt:j<padZ n:=by omega
  refine Ak (t_n (Ap (Aa ?_)))
  refine pM ?_
  refine Av u23 inf5 rfl (by decide) (fun base hb=>Br (by rfl) base hb) ?_
  intro w5 g16 hN16
  have hE5:=hN16.ext
  have hX:=hX.ext hE5
  have hO:=hO.ext hE5
  have hJ:=G4 (b:=0) hN16 (B0:=0) (Nat.zero_le _)
  have hB1:=hX.size
  refine Az (d:=kByte) ([0]) u23 inf5 rfl Bb rfl rfl hO (Fo u23 hJ.sl) rfl (B6 _ _ _) (Bf _) (by omega) (by omega) (by omega) (by omega) (by decide) ?_
  intro p17 c17 w6 hO hM6
  have hX:=hX.mod hM6 (Nat.le_refl _)
  rw[List.append_assoc,← List.replicate_succ'] at hO
  refine pA (Ac (b_n ?_))
  refine t_n (aK ((p17,c17,j+1)) ⟨rfl,trivial⟩ ?_)
  exact⟨⟨hX,⟨by omega,hO⟩⟩,by(dsimp only;omega)⟩
 have hje:j=padZ n:=Classical.byContradiction fun h=>Xl (n:=n) (j:=j) (by omega) (by omega)
 subst hje
 refine A8 (t_e (t_e (Bq (t_n (Ab (Aa ?_))))))
 refine pM ?_
 refine p1 (Ar u23 rfl) ?_
 refine p1 (B8 u180 us3 rfl (Ct (by omega) (by omega))) ?_
 refine p1 ((Iy rfl rfl (Ct (by omega) (by omega))).cast (congrArg _ (by omega:((n:Nat):Int) * 8=((n * 8:Nat):Int)))) ?_
 refine pA (Ac (t_n (Ab (Ab (Aa ?_)))))
 refine pA (Ac (t_n (Ap ?_)))
 refine Bc (ι:=Option Addr×Nat×Nat) ([3,5]++rg 22 14) (fun (q,d,i)=>[(3,.slice q (0+n+1+padZ n+i) d),(5,.int .i64 (i:Int))]) (fun (q,d,i) w'=>Ext w w'∧(i≤8∧Own kByte 5 0 w.heap.size w' q (0+n+1+padZ n+i) d (xs++[128]++List.replicate (padZ n) 0++(be8 n).take i))) (fun (q,d,i)=>8 - i) ((q,d,0)) ⟨rfl,rfl,trivial⟩ ⟨hX,⟨by omega,by rw[List.take_zero,List.append_nil];exact hO⟩⟩ ?_
 rintro⟨q,d,i⟩ GL2 w7 ⟨hE7,hi,hO⟩
 have hX:=hE7
 have hpz2:=N8 n
 have hol2:=hO.len
 refine Ab (Ab (Aa ?_))
 refine pM ?_
 refine p1 (Bi rfl rfl) ?_
 refine Ac (t_n ?_)
 refine As rfl (fun hc23=>?_) (fun hc23=>?_)
 ·refine Ak (t_n (Ab (Ap (Aa ?_))))
  refine pM (pM (pM ?_))
  refine p1 (Iy rfl rfl (Am (by omega) (by omega))) ?_
  refine p1 (Dg rfl rfl (Am (by omega) (by omega))) ?_
  refine p1 (B8 u86 us3 rfl (Ct (by omega) (by omega))) ?_
  refine p1 (Fa rfl rfl (by omega)) ?_
  refine p1 ((Fd u5 us180 rfl).cast (congrArg _ (wrapI _))) ?_
  refine Av u23 inf5 rfl (by decide) (fun base hb=>Br (by rfl) base hb) ?_
  intro w8 g34 hN34
  have hE8:=hN34.ext
  have hX:=hX.ext hE8
  have hO:=hO.ext hE8
  have hJ:=G4 (b:=beB n i) hN34 (B0:=0) (Nat.zero_le _)
  have hB1:=hX.size
  refine Az (d:=kByte) ([beB n i]) u23 inf5 rfl Bb rfl rfl hO (Fo u23 hJ.sl) rfl (B6 _ _ _) (Bf _) (by omega) (by omega) (by omega) (by omega) (by decide) ?_
  intro p35 c35 w9 hO hM9
  have hX:=hX.mod hM9 (Nat.le_refl _)
  rw[List.append_assoc,Ab7 n (by omega)] at hO
  refine pA (Ac (b_n (t_n (Aa ?_))))
  refine pM ?_
  refine p1 (A0 rfl rfl (Am (by omega) (by omega))) ?_
  refine pA (Ac ?_)
  refine t_n (aK ((p35,c35,i+1)) ⟨rfl,rfl,trivial⟩ ?_)
  exact⟨⟨hX,⟨by omega,hO⟩⟩,by(dsimp only;omega)⟩
 have h8:i=8:=by omega
 subst h8
 rw[List.take_of_length_le (by rw[Iw];omega)] at hO
 refine A8 (t_e (t_e (Bq (t_n (Ab (Aa ?_))))))
 refine pM (pA (Ac (t_n (Ao ?_))))
 refine eR1 ?_
 exact⟨⟨_,_,_,rfl,by rw[padF,hlen];exact hO⟩,hX⟩
theorem Qv (xs:List UInt8) (B:Nat) (p:Option Addr) (n c:Nat) (w:World) (hl:Sl kByte 5 B w p n c xs) (hn:n≤10000000000000) :
    Ret Tryz.prog 115 [.slice p n c] w (fun v w'=>v = .agg (hv (shaF xs))∧Ext w w'):=by
 have hX:=Ext.refl w
 refine eN 42 Tryz.func115 ?_
 refine Ab (Aa ?_)
 refine Ay zr64 ?_
 intro w1 g2 hN2
 have hE1:=hN2.ext
 have hX:=hX.ext hE1
 have hB2:=hN2.blk
 refine Ac (t_n (Ab (Aa ?_)))
 have e2:=hN2.g_eq
 have l2:=hB2.lt
 have hB2:Blk _ g2 (bcs (List.replicate 32 0)) 64:=hB2
 refine p1 (Ol s0W rfl) ?_
 refine Ay zr175 ?_
 intro w2 g3 hN3
 have hE2:=hN3.ext
 have hX:=hX.ext hE2
 have hB2:=hB2.ext hE2
 have hB3:=hN3.blk
 have e3:=hN3.g_eq
 have sX:=hX.size
 have h23:g2<g3:=by omega
 refine Al rfl (by conv=>lhs;whnf) (Hc _) (by rw[Cn];exact sz175) hB3 (by rfl) ?_
 intro w3 hP3
 have hX:=hX.put hP3 (by omega)
 have hB2:=hP3.keep hB2 (by omega)
 have hB3:=hP3.blk
 refine Ac (t_n (Ab (Aa ?_)))
 refine pM ?_
 refine oC Tryz.func158 (Sj xs _ _ _ _ _ (hl.ext hX) hn) ?_
 rintro v4 w4 ⟨⟨qp,mp,cp,rfl,hP⟩,hE4⟩
 have hX:=hX.ext hE4
 have hB2:=hB2.ext hE4
 have hB3:=hB3.ext hE4
 have hPs:=hP.sl
 have hPl:(padF xs).length=mp:=hP.len
 have hpm:=Aar xs
 have hlen:=hl.len
 have hpl:=Ub xs
 have hpz:=N8 xs.length
 have hpc:=hPs.cap
 have hpf:=hPs.fit
 refine pA (Ac (t_n (Ab (Ab (Aa ?_)))))
 refine pA (Ac (t_n (Ap ?_)))
 refine Bc (ι:=Nat) ([5]++rg 11 13) (fun m=>[(5,.int .i64 ((64 * m:Nat):Int))]) (fun m w'=>Ext w w'∧(64 * m≤mp∧Blk w' g2 (bcs (List.replicate 32 0)) 64∧Blk w' g3 (wds (stN (padF xs) m).l) 175∧Sl kByte 5 0 w' qp mp cp (padF xs))) (fun m=>mp - 64 * m) (0) ⟨rfl,trivial⟩ ⟨hX,⟨by omega,hB2,hB3,hPs⟩⟩ ?_
 rintro m GL0 w5 ⟨hE5,hm,hB2,hB3,hPs⟩
 have hX:=hE5
 refine Ab (Ab (Aa ?_))
 refine pM (pM ?_)
 refine p1 (Ar u23 rfl) ?_
 refine p1 (Bi rfl rfl) ?_
 refine Ac (t_n ?_)
 refine As rfl (fun hc14=>?_) (fun hc14=>?_)
 ·refine Ak (t_n (Ab (Ap ?_)))
  refine Cx 6 mixed (by kernel_rfl) ?_
  intro w6 hE6
  have hX:=hX.ext hE6
  have hB2:=hB2.ext hE6
  have hB3:=hB3.ext hE6
  have hPs:=hPs.ext hE6
  refine s1 (Aq ua175 rfl hB3 (by rw[Cn];exact sz175)) ?_
  refine s1 (Af (by conv=>lhs;whnf)) ?_
  refine s1 (Af (by conv=>lhs;whnf)) ?_
  refine s1 (Af (by conv=>lhs;whnf)) ?_
  refine s1 ((A0 rfl rfl (Am (by omega) (by omega))).cast (congrArg _ (by omega:((64 * m:Nat):Int)+64=((64 * m+64:Nat):Int)))) ?_
  refine s1 ((Hb u23 sz5 rfl rfl rfl (by omega) (by omega)).cast (by rw[show 64 * m+64 - 64 * m=64 by omega])) ?_
  refine Bx ?_
  refine oC Tryz.func159 (T5 (stN (padF xs) m) (((padF xs).drop (64 * m)).take 64) _ _ _ _ ((hPs.dropI (64 * m) (by omega)).take 64 (by omega))) ?_
  rintro v7 w7 ⟨rfl,hE7⟩
  have hX:=hX.ext hE7
  have hB2:=hB2.ext hE7
  have hB3:=hB3.ext hE7
  have hPs:=hPs.ext hE7
  refine Al rfl (by conv=>lhs;whnf) (Hc _) (by rw[Cn];exact sz175) hB3 (by rfl) ?_
  intro w8 hP8
  have hX:=hX.put hP8 (by omega)
  have hB2:=hP8.keep hB2 (by omega)
  have hB3:=hP8.blk
  have hPs:=hPs.but (But.ofPut hP8) (Nat.zero_le _) (by simp[kByte,Kind.pure])
  refine Ac (b_n (t_n (Aa ?_)))
  refine pM ?_
  refine p1 ((A0 rfl rfl (Am (by omega) (by omega))).cast (congrArg _ (by omega:((64 * m:Nat):Int)+64=((64 * (m+1):Nat):Int)))) ?_
  refine pA (Ac ?_)
  refine t_n (aK (m+1) ⟨rfl,trivial⟩ ?_)
  exact⟨⟨hX,⟨by omega,hB2,hB3,hPs⟩⟩,by((show _<_);omega)⟩
 have hme:m=(padF xs).length / 64:=by omega
 refine A8 (t_e (t_e (Bq (t_n (Ab (Aa ?_))))))
 have sX7:=hX.size
 have l3:=hB3.lt
 refine Ay zr64 ?_
 intro w9 g6 hN6
 have hE9:=hN6.ext
 have hX:=hX.ext hE9
 have hB2:=hB2.ext hE9
 have hB3:=hB3.ext hE9
 have hB6:=hN6.blk
 refine Ac (t_n (Ab (Ab (Aa ?_))))
 have e6:=hN6.g_eq
 have h36:g3<g6:=by omega
 have hB6:Blk _ g6 (bcs (List.replicate 32 0)) 64:=hB6
 obtain⟨sF,hsF⟩:∃ s,s=stN (padF xs) m:=⟨_,rfl⟩
 rw[← hsF] at hB3
 refine pA (Ac (t_n (Ap ?_)))
 refine Bc (ι:=Nat) ([7]++rg 24 17) (fun i=>[(7,.int .i64 (i:Int))]) (fun i w'=>Ext w w'∧(i≤32∧Blk w' g2 (bcs (List.replicate 32 0)) 64∧Blk w' g3 (wds sF.l) 175∧Blk w' g6 (bcs (setB (ouB sF) (List.replicate 32 0) i)) 64)) (fun i=>32 - i) (0) ⟨rfl,trivial⟩ ⟨hX,⟨by omega,hB2,hB3,hB6⟩⟩ ?_
 rintro i GL2 w10 ⟨hE10,hi,hB2,hB3,hB6⟩
 have hX:=hE10
 refine Ab (Ab (Aa ?_))
 refine pM ?_
 refine p1 (Bi rfl rfl) ?_
 refine Ac (t_n ?_)
 refine As rfl (fun hc25=>?_) (fun hc25=>?_)
 ·refine Ak (t_n (Ab (Ap (Aa ?_))))
  refine pM (pM ?_)
  refine p1 ((Tl rfl rfl (by omega) (by omega) (Am (by omega) (by omega))).cast (congrArg _ (by omega:((i:Nat):Int) / 4=((i / 4:Nat):Int)))) ?_
  refine p1 (A6 (i:=i / 4) u175 sz174 rfl rfl (by omega)) ?_
  refine p1 (Ae un174 rfl (hB3.cell (Dh (by rw[W8.len];omega)))) ?_
  refine pM ?_
  refine p1 ((Kl rfl rfl (by omega) (by omega)).cast (congrArg _ (by omega:((i:Nat):Int) % 4=((i % 4:Nat):Int)))) ?_
  refine p1 (Iy rfl rfl (Am (by omega) (by omega))) ?_
  refine p1 (Dg rfl rfl (Am (by omega) (by omega))) ?_
  refine p1 (B8 u86 us3 rfl (Ct (by omega) (by omega))) ?_
  refine p1 (Fa rfl rfl (by omega)) ?_
  refine p1 ((Fd u5 us174 rfl).cast (congrArg _ (wrapI _))) ?_
  refine p1 (A6 u64 sz5 rfl rfl (by omega)) ?_
  refine Aw rfl (by conv=>lhs;whnf) rfl rfl sz5 hB6 (by rw[Jo,Ld,List.length_replicate];omega) ?_
  intro w11 hP11
  have hX:=hX.put hP11 (by omega)
  have hB2:=hP11.keep hB2 (by omega)
  have hB3:=hP11.keep hB3 (by omega)
  have hB6:=hP11.blk
  rw[Tg] at hB6
  refine Ac (b_n (t_n (Aa ?_)))
  refine pM ?_
  refine p1 (A0 rfl rfl (Am (by omega) (by omega))) ?_
  refine pA (Ac ?_)
  refine t_n (aK (i+1) ⟨rfl,trivial⟩ ?_)
  exact⟨⟨hX,⟨by omega,hB2,hB3,hB6⟩⟩,by((show _<_);omega)⟩
 have h32:i=32:=by omega
 subst h32
 rw[N6 _ _ 32 (by simp),List.drop_of_length_le (by simp),List.append_nil] at hB6
 have hB6:Blk _ g6 (hv (outH sF)) 64:=hB6
 refine A8 (t_e (t_e (Bq (t_n (Ab (Aa ?_))))))
 refine p1 (Aq ua64 rfl hB6 (C4 sz64 _)) ?_
 refine Al rfl rfl (E6 _) (C4 sz64 _) hB2 (by rw[Hi];simp[Jo]) ?_
 intro w12 hP12
 have hX:=hX.put hP12 (by omega)
 have hB2:=hP12.blk
 have hB3:=hP12.keep hB3 (by omega)
 have hB6:=hP12.keep hB6 (by omega)
 refine Ac (t_n (Ao ?_))
 refine end1c rfl ua64 rfl hB2 (C4 sz64 _) ?_
 exact⟨by rw[hsF,hme];rfl,hX⟩
end Go.Proofs.Eng
end
section
set_option maxRecDepth 100000
set_option maxHeartbeats 4000000
namespace Go.Proofs.Eng
open Go.RowKit
open Extern.Stop (cell)
theorem Do:A3 Tryz.prog 91 1=some (3,1):=by kernel_rfl
theorem un30:(Tryz.prog.underlying 30).map TypeDesc.isRow=some false:=by kernel_rfl
end Go.Proofs.Eng
end
section
set_option maxRecDepth 100000
set_option maxHeartbeats 4000000
namespace Go.Proofs.Eng
open Go.RowKit
open Extern.Stop (cell)
theorem Aek (gd:Nat) (S:Nat→Prop) (D:DS) (w:World) (hD:Dsk S w gd D) (hok:DOk D) (hst:D.steps<4611686018427380000) (hle:D.left≤9223372036854775807) (hnm:∀ x∈D.l,Bg x.1=true) (hS:∀ k,S k→6≤k) (hg:Gt w) (b0:Nat) (hb0:Blk w b0 #[.pointer (some ⟨gd,0,none⟩)] 34) :
    Ret Tryz.prog 46 [.pointer (some ⟨b0,0,none⟩)] w (fun v w'=>v = .int .i64 (cleanD D (toStr [])).2∧Dsk (grow S w w') w' gd (cleanD D (toStr [])).1∧ModS S ED w w'):=by
 have hX:=Ext.refl w
 refine eN 4 Tryz.func46 ?_
 refine Ab (Aa ?_)
 refine pA (Ac (t_n (Ab (Aa ?_))))
 refine p1 (Ae un34 rfl (hb0.cell (rfl))) ?_
 have hXs:=hX.size
 refine oC Tryz.func47 (Iu gd S D _ hD hok hst hle hnm hS hg (toStr [])) ?_
 rintro v1 w1 ⟨rfl,hD2,hM2⟩
 refine pA (Ac (t_n (Ao ?_)))
 refine eR1 ?_
 exact⟨rfl,hD2.wide hXs,(ModS.ofExt hX).trans hM2 (fun _ _ h=>h)⟩
theorem Aej (gd:Nat) (S:Nat→Prop) (D:DS) (w:World) (hD:Dsk S w gd D) (hok:DOk D) (hst:D.steps<4611686018427380000) (hle:D.left≤9223372036854775807) (hnm:∀ x∈D.l,Bg x.1=true) (hS:∀ k,S k→6≤k) (hg:Gt w) (b0 b1 gs:Nat) (cs:Array Value) (hb0:Blk w b0 #[.pointer (some ⟨gd,0,none⟩)] 34) (hb1:Blk w b1 #[.pointer (some ⟨gs,0,none⟩)] 30) (hs:Blk w gs cs 91) (hs1:cs[1]? = some (.int .i64 1)) :
    Ret Tryz.prog 48 [.pointer (some ⟨b0,0,none⟩),.pointer (some ⟨b1,0,none⟩)] w (fun v w'=>v = .int .i64 (A9 D (nSeg 1)).2∧Dsk (grow S w w') w' gd (A9 D (nSeg 1)).1∧ModS S ED w w'):=by
 have hX:=Ext.refl w
 refine eN 10 Tryz.func48 ?_
 refine Ab (Aa ?_)
 refine pA (Ac (t_n (Ab ?_)))
 refine Bj (fun w1 w2=>ModS S ED w1 w2) mixed ?_
 intro w1 hE1
 have hX:=hX.ext hE1
 have hD:=hD.ext hE1
 have hb0:=hb0.ext hE1
 have hb1:=hb1.ext hE1
 have hs:=hs.ext hE1
 have hSr1:(fun w1 w2=>ModS S ED w1 w2) w1 w1:=ModS.refl S ED _
 refine hT 0 rfl hSr1 (fun wS hSS=>by(have hb0:=hb0.modS hSS (.inr (by decide));have hb1:=hb1.modS hSS (.inr (by decide));have hs:=hs.modS hSS (.inr (by decide));exact(Ae un34 rfl (hb0.cell (rfl))))) ?_
 refine hT 1 rfl hSr1 (fun wS hSS=>by(have hb0:=hb0.modS hSS (.inr (by decide));have hb1:=hb1.modS hSS (.inr (by decide));have hs:=hs.modS hSS (.inr (by decide));exact(Ae un30 rfl (hb1.cell (rfl))))) ?_
 refine hT 2 rfl hSr1 (fun wS hSS=>by(exact(Ag rfl))) ?_
 refine hT 3 rfl hSr1 (fun wS hSS=>by(exact(Ad Do sz3 rfl))) ?_
 refine hT 4 rfl hSr1 (fun wS hSS=>by(have hb0:=hb0.modS hSS (.inr (by decide));have hb1:=hb1.modS hSS (.inr (by decide));have hs:=hs.modS hSS (.inr (by decide));exact(Ae un3 rfl (hs.cell (hs1))))) ?_
 refine h1L 5 (fun Q5 hQ5=>?_)
 refine oC Tryz.func49 (Bk 1 _ (hg.ext hX).l) ?_
 rintro v2 w2 ⟨rfl,hE2⟩
 have hX:=hX.ext hE2
 have hD:=hD.ext hE2
 have hSr1:=hSr1.ext hE2
 refine An hQ5 ⟨hSr1,?_⟩
 refine h1L 6 (fun Q6 hQ6=>?_)
 have hXs:=hX.size
 refine oC Tryz.func18 (Ji gd S D _ hD hok (by omega) hle (nSeg 1) (by decide)) ?_
 rintro v3 w3 ⟨rfl,hD2,hM2⟩
 have hSr1:=hSr1.trans hM2 (fun _ _ h=>h)
 refine An hQ6 ⟨hSr1,?_⟩
 refine hT 7 rfl hSr1 (fun wS hSS=>by(exact(Ah (by conv=>lhs;whnf)))) ?_
 refine A7 (by kernel_rfl) ?_
 refine t_n (Ao ?_)
 refine eR1 ?_
 exact⟨rfl,hD2.wide hXs,(ModS.ofExt hX).trans hM2 (fun _ _ h=>h)⟩
theorem Aei (gd:Nat) (S:Nat→Prop) (D:DS) (w:World) (hD:Dsk S w gd D) (hok:DOk D) (hst:D.steps<4611686018427380000) (hle:D.left≤9223372036854775807) (hnm:∀ x∈D.l,Bg x.1=true) (hS:∀ k,S k→6≤k) (hg:Gt w) (b0 b1 gs:Nat) (cs:Array Value) (hb0:Blk w b0 #[.pointer (some ⟨gd,0,none⟩)] 34) (hb1:Blk w b1 #[.pointer (some ⟨gs,0,none⟩)] 30) (hs:Blk w gs cs 91) (hs1:cs[1]? = some (.int .i64 1)) :
    Ret Tryz.prog 50 [.pointer (some ⟨b0,0,none⟩),.pointer (some ⟨b1,0,none⟩)] w (fun v w'=>v = .int .i64 (writeM D ⟨1,0,[]⟩).2∧Dsk (grow S w w') w' gd (writeM D ⟨1,0,[]⟩).1∧ModS S ED w w'):=by
 have hX:=Ext.refl w
 refine eN 10 Tryz.func50 ?_
 refine Ab (Aa ?_)
 refine pA (Ac (t_n (Ab ?_)))
 refine Cx 6 mixed (by kernel_rfl) ?_
 intro w1 hE1
 have hX:=hX.ext hE1
 have hD:=hD.ext hE1
 have hb0:=hb0.ext hE1
 have hb1:=hb1.ext hE1
 have hs:=hs.ext hE1
 refine s1 (Ae un34 rfl (hb0.cell (rfl))) ?_
 refine s1 (Ae un30 rfl (hb1.cell (rfl))) ?_
 refine s1 (Ag rfl) ?_
 refine s1 (Ad Do sz3 rfl) ?_
 refine s1 (Ae un3 rfl (hs.cell (hs1))) ?_
 refine s1 (M6 pl99 rfl rfl) ?_
 refine Bx ?_
 have hXs:=hX.size
 refine oC Tryz.func51 (It gd S D _ hD hok hst hle hnm 1 0 [] 0 0 none 0 0 (Sl.nil _ _ _ _ _ _ (by omega)) (hg.ext hX).l.q) ?_
 rintro v2 w2 ⟨rfl,hD2,hM2⟩
 refine pA (Ac (t_n (Ao ?_)))
 refine eR1 ?_
 exact⟨rfl,hD2.wide hXs,(ModS.ofExt hX).trans hM2 (fun _ _ h=>h)⟩
end Go.Proofs.Eng
end
section
set_option maxRecDepth 100000
set_option maxHeartbeats 4000000
namespace Go.Proofs.Eng
open Go.RowKit
open Extern.Stop (cell)
theorem Ea:A3 Tryz.prog 91 0=some (34,0):=by kernel_rfl
theorem E1:A3 Tryz.prog 91 2=some (3,2):=by kernel_rfl
theorem Mq:A3 Tryz.prog 91 3=some (23,3):=by kernel_rfl
theorem Hq:A3 Tryz.prog 91 4=some (88,4):=by kernel_rfl
theorem sz34:(Tryz.prog.info? 34).map (·.size)=some 1:=by kernel_rfl
theorem sz88:(Tryz.prog.info? 88).map (·.size)=some 1:=by kernel_rfl
theorem u88:Tryz.prog.underlying 88=some (.map 64 23):=by kernel_rfl
theorem un88:(Tryz.prog.underlying 88).map TypeDesc.isRow=some false:=by kernel_rfl
end Go.Proofs.Eng
end
section
set_option maxRecDepth 100000
set_option maxHeartbeats 4000000
namespace Go.Proofs.Eng
open Go.RowKit
open Extern.Stop (cell)
theorem Vv (gd:Nat) (S:Nat→Prop) (D:DS) (w:World) (hD:Dsk S w gd D) (hok:DOk D) (hst:D.steps<4611686018427370000) (hle:D.left≤9223372036854775807) (hnm:∀ x∈D.l,Bg x.1=true) (hS:∀ k,S k→6≤k) (hg:Gt w) (hSb:∀ j,S j→j<w.heap.size) (g r:Nat) (hb:Blk w g #[.pointer (some ⟨gd,0,none⟩),.int .i64 1,.int .i64 0,.slice none 0 0,.map (some r),.pointer none,.bool false] 91) (hM:Mp Dd vCh 0 0 w r (fun _=>none)) (hrS:¬ S r) (hg6:6≤g) (hr6:6≤r) (raw:By) (e B:Nat) (p:Option Addr) (n c:Nat) (hl:Sl kByte 5 B w p n c raw) :
    Ret Tryz.prog 44 [.pointer (some ⟨g,0,none⟩),.slice p n c] w (fun v w'=>v = .int .i64 (loadC D raw).2∧((loadC D raw).2=0→Cst (grow (fun j=>S j∨j=g∨j=r) w w') w' g gd (loadC D raw).1)∧Dsk (grow S w w') w' gd (loadC D raw).1.D∧ModS (fun j=>S j∨j=g∨j=r) EC w w'):=by
 have hgs:=hg.size
 have hbl:=hb.lt
 have hGd:Good D D.steps:=⟨hok,Nat.le_refl _,hle,hnm⟩
 have hX:=ModS.refl (fun j=>S j∨j=g∨j=r) EC w
 refine eN 113 Tryz.func44 ?_
 refine Ab (Aa ?_)
 refine pA ?_
 refine Ac (t_n (Ab (Aa ?_)))
 refine pM ?_
 refine oC Tryz.func93 (Sv raw _ _ _ _ _ hl hg.l.q) ?_
 rintro v1 w1 ⟨⟨seg,size,qi,mi,ci,e0,rfl,hdis⟩,hE1⟩
 have hX:=hX.ext hE1
 have hD:=hD.ext hE1
 have hb:=hb.ext hE1
 have hM:=hM.ext hE1
 have hg:=hg.ext hE1
 have hIx:∀ w2,Ext w1 w2→e0=0→∃ M:Mf,ManOf raw M∧seg=(M.seg:Int)∧size=(M.size:Int)∧FB (nS S) w2 qi mi ci M.index:=fun w2 hx he=>by
   obtain⟨_,M,h1,h2,h3,h4⟩:=hdis.resolve_right (fun h=>by omega)
   exact⟨M,h1,h2,h3,(FB.ofOwn h4 (fun k _ hk hs=>by have:=hSb k hs;omega)).ext hx⟩
 have hIn:e0≠0→¬ ∃ M,ManOf raw M:=fun he=>(hdis.resolve_left (fun h=>he h.1)).2
 have hG:=Ext.refl w1
 refine pM ?_
 refine p1 (Aj rfl rfl) ?_
 refine p1 (Aj rfl rfl) ?_
 have hz5:=hX.size
 refine Ay zr99 ?_
 intro w2 g5 hN5
 have hE2:=hN5.ext
 have hX:=hX.ext hE2
 have hD:=hD.ext hE2
 have hb:=hb.ext hE2
 have hM:=hM.ext hE2
 have hg:=hg.ext hE2
 have hG:=hG.ext hE2
 have hB5:=hN5.blk
 have hq5:=hN5.g_eq
 refine Al rfl (by conv=>lhs;whnf) (by simp[Value.oneCell']) (by exact sz99) hB5 (by rfl) ?_
 intro w3 hP3
 have hX:=hX.new hP3 (by omega)
 have hD:=hD.modT (hP3.mod 0 (Nat.zero_le _)) (by decide)
 have hb:=hP3.keep hb (by omega)
 have hM:=hM.mod (hP3.mod 0 (Nat.zero_le _)) (Nat.zero_le _) (by decide)
 have hg:=hg.put hP3 (by omega)
 have hG:=hG.put hP3 (by omega)
 have hB5:=hP3.blk
 refine pA ?_
 refine Ac (t_n (Ab (Ab (Aa ?_))))
 refine pM ?_
 refine p1 (A2 rfl rfl) ?_
 refine Ac (t_n ?_)
 refine As rfl (fun hc20=>?_) (fun hc20=>?_)
 ·try simp only[dA,dB,dC,dD,dE,dF,dG,Int.not_lt,Int.not_le] at hc20
  have hp:loadC D raw=_:=I9 (hIn hc20)
  refine Ab (Aa ?_)
  refine pA ?_
  refine Ac (t_n (Ao (t_r ?_)))
  refine eR1 ?_
  (rw[hp];exact⟨rfl,fun h=>absurd (show (50:Int)=0 from h) (by decide),hD.mono (fun j hj h => .inl h),hX⟩)
 try simp only[dA,dB,dC,dD,dE,dF,dG,Int.not_lt,Int.not_le] at hc20
 have he0:e0=0:=by omega
 obtain⟨M,hMO,rfl,rfl,hI⟩:=hIx _ hG he0
 have hlm:=Gs (D:=D) hMO
 have hlo:=hMO.1.lo
 have hhi:=hMO.1.hi
 have hsz:=hMO.1.sz
 refine Ak (t_n (Ab (Aa ?_)))
 refine p1 (Ad Pw sz3 rfl) ?_
 refine p1 (Ae un3 rfl (hB5.cell (rfl))) ?_
 refine oC Tryz.func49 (Bk (M.seg:Int) _ hg.l) ?_
 rintro v4 w4 ⟨rfl,hE4⟩
 have hX:=hX.ext hE4
 have hD:=hD.ext hE4
 have hb:=hb.ext hE4
 have hM:=hM.ext hE4
 have hg:=hg.ext hE4
 have hG:=hG.ext hE4
 have hB5:=hB5.ext hE4
 have hI:=hI.ext hE4
 refine pA ?_
 refine Ac (t_n (Ab (Aa ?_)))
 refine pM ?_
 refine p1 (Ag rfl) ?_
 refine p1 (Ad Ea sz34 rfl) ?_
 refine p1 (Ae un34 rfl (hb.cell (rfl))) ?_
 refine pM ?_
 refine oC Tryz.func37 (H8 gd S D _ hD hok (nSeg M.seg) (C0 M.seg)) ?_
 rintro v5 w5 ⟨⟨qb,nb,cb,rfl,hO⟩,hE5⟩
 have hX:=hX.ext hE5
 have hD:=hD.ext hE5
 have hb:=hb.ext hE5
 have hM:=hM.ext hE5
 have hg:=hg.ext hE5
 have hB5:=hB5.ext hE5
 have hI:=hI.ext hE5
 have hO:=hO.lower (Nat.zero_le _)
 have hOl:=hO.len
 have hOc:=hO.sl.cap
 have hOf:=hO.sl.fit
 refine pM ?_
 refine p1 (Aj rfl rfl) ?_
 refine p1 (Aj rfl rfl) ?_
 refine pA ?_
 refine pA ?_
 refine Ac (t_n (Ab (Ab ?_)))
 have hWr6:=Ext.refl w5
 refine Dn (ι:=Unit) (rg 33 9) (fun _=>[(41,.bool (decide ((readD D (nSeg M.seg)).2≠0∨(readD D (nSeg M.seg)).1.length<M.size)))]) (fun _ w'=>Ext w5 w') ?_ ?_
 ·skip
  refine Aa ?_
  refine pM ?_
  refine p1 (A2 rfl rfl) ?_
  refine p1b (Af (by conv=>lhs;whnf)) (fun hb6_2=>?_) (fun hb6_2=>?_)
  ·try simp only[dA,dB,dC,dD,dE,dF,dG,Int.not_lt,Int.not_le] at hb6_2
   refine gF 35 ?_
   refine gF 35 ?_
   refine gF 35 ?_
   refine gF 35 ?_
   refine gF 35 ?_
   refine p1 (Ax rfl (by conv=>lhs;whnf)) ?_
   refine Ac ?_
   refine t_n (aK () ⟨congrArg Value.bool (by exact(decide_eq_true (by omega)).symm),trivial⟩ hWr6)
  try simp only[dA,dB,dC,dD,dE,dF,dG,Int.not_lt,Int.not_le] at hb6_2
  refine gM 35 ?_
  refine Eng.g1 35 rfl rfl (Ar u23 rfl) ?_
  refine Eng.g1 35 rfl rfl (Ad Jf sz3 rfl) ?_
  refine Eng.g1 35 rfl rfl (Ae un3 rfl (hB5.cell (rfl))) ?_
  refine Eng.g1 35 rfl rfl (Bi rfl rfl) ?_
  refine p1 (Au rfl (by conv=>lhs;whnf)) ?_
  refine Ac ?_
  refine t_n (aK () ⟨congrArg Value.bool (by exact decide_eq_decide.2 (by omega)),trivial⟩ hWr6)
 rintro _ Gr6 w6 hE6
 have hX:=hX.ext hE6
 have hD:=hD.ext hE6
 have hb:=hb.ext hE6
 have hM:=hM.ext hE6
 have hg:=hg.ext hE6
 have hB5:=hB5.ext hE6
 have hI:=hI.ext hE6
 have hO:=hO.ext hE6
 refine t_n ?_
 refine As rfl (fun hc41=>?_) (fun hc41=>?_)
 ·try simp only[dA,dB,dC,dD,dE,dF,dG,Int.not_lt,Int.not_le] at hc41
  have hp:loadC D raw=(loadS D M,50):=by rw[hlm,if_pos (hc41.elim .inl (fun h => .inr (.inl h)))]
  refine Ab (Aa ?_)
  refine pA ?_
  refine Ac (t_n (Ao (t_r ?_)))
  refine eR1 ?_
  (rw[hp];exact⟨rfl,fun h=>absurd (show (50:Int)=0 from h) (by decide),hD.mono (fun j hj h => .inl h),hX⟩)
 try simp only[dA,dB,dC,dD,dE,dF,dG,Int.not_lt,Int.not_le] at hc41
 refine Ak (t_n (Ab (Aa ?_)))
 refine pM ?_
 refine p1 (Ad Jf sz3 rfl) ?_
 refine p1 (Ae un3 rfl (hB5.cell (rfl))) ?_
 refine p1 (Cv u23 sz5 rfl rfl (by omega)) ?_
 obtain⟨BL,hBL⟩:∃ b,b=w6.heap.size:=⟨_,rfl⟩
 obtain⟨LL,hLL⟩:∃ l,l=(getSg ((readD D (nSeg M.seg)).1.take M.size)).1:=⟨_,rfl⟩
 refine oC Tryz.func38 (Tt ((readD D (nSeg M.seg)).1.take M.size) _ _ _ _ _ (hO.sl.take M.size (by omega)) hg.l.q (Nat.zero_le _) (by omega)) ?_
 rintro v7 w7 ⟨⟨ql,ml,cl,rfl,hLs⟩,hE7⟩
 have hX:=hX.ext hE7
 have hD:=hD.ext hE7
 have hb:=hb.ext hE7
 have hM:=hM.ext hE7
 have hg:=hg.ext hE7
 have hB5:=hB5.ext hE7
 have hI:=hI.ext hE7
 have hO:=hO.ext hE7
 rw[← hBL,← hLL] at hLs
 have hLl:=hLs.len
 have hLc:=hLs.sl.cap
 have hLf:=hLs.sl.fit
 refine pM ?_
 refine p1 (Aj rfl rfl) ?_
 refine p1 (Aj rfl rfl) ?_
 refine pA ?_
 refine pA ?_
 refine Ac (t_n (Ab (Ab (Aa ?_))))
 refine pM ?_
 refine p1 (A2 rfl rfl) ?_
 refine Ac (t_n ?_)
 refine As rfl (fun hc51=>?_) (fun hc51=>?_)
 ·try simp only[dA,dB,dC,dD,dE,dF,dG,Int.not_lt,Int.not_le] at hc51
  have hp:loadC D raw=(loadS D M,50):=by rw[hlm,if_pos (.inr (.inr hc51))]
  refine Ab (Aa ?_)
  refine pA ?_
  refine Ac (t_n (Ao (t_r ?_)))
  refine eR1 ?_
  (rw[hp];exact⟨rfl,fun h=>absurd (show (50:Int)=0 from h) (by decide),hD.mono (fun j hj h => .inl h),hX⟩)
 try simp only[dA,dB,dC,dD,dE,dF,dG,Int.not_lt,Int.not_le] at hc51
 have hlp:=hlm.trans (if_neg (by rintro (h | h | h) <;> omega))
 have hlc:∀ i,(LL.getD i []).length≤16777216:=fun i=>by
   rw[hLL]
   have h1:=Uy ((readD D (nSeg M.seg)).1.take M.size) i
   omega
 refine Ak (t_n (Ab (Ab (Aa ?_))))
 refine pM ?_
 refine p1 (Ar u22 rfl) ?_
 refine pM ?_
 refine Ac (t_n (Ap ?_))
 refine Bc (ι:=Nat) ([11,12]++rg 54 22) (fun k=>[(54,.int .i64 (k:Int))]) (fun k w'=>ModS (fun j=>S j∨j=g∨j=r) EC w w'∧(k≤ml∧Dsk S w' gd D∧Blk w' g #[.pointer (some ⟨gd,0,none⟩),.int .i64 1,.int .i64 0,.slice none 0 0,.map (some r),.pointer none,.bool false] 91∧(∃ μ,Mp Dd vCh 0 0 w' r μ∧Chs S w' μ (LL.take k))∧Gt w'∧FB (nS S) w' qi mi ci M.index∧Own kByte 5 0 0 w' qb nb cb (readD D (nSeg M.seg)).1∧Blk w' g5 #[.int .i64 (M.seg:Int),.int .i64 (M.size:Int),.slice qi mi ci] 99∧Own (kOb BL) 23 0 BL w' ql ml cl LL)) (fun k=>ml - k) (0) ⟨rfl,trivial⟩ ⟨hX,Nat.zero_le _,hD,hb,⟨_,hM,by rw[List.take_zero];exact Chs.none_ S _⟩,hg,hI,hO,hB5,hLs⟩ ?_
 rintro k GL0 w8 ⟨hE8,hk,hD,hb,⟨μ,hM,hC⟩,hg,hI,hO,hB5,hLs⟩
 have hX:=hE8
 refine Ab (Aa ?_)
 refine p1 (Bi rfl rfl) ?_
 refine Ac (t_n (Ab ?_))
 refine As rfl (fun hc55=>?_) (fun hc55=>?_)
 ·try simp only[dA,dB,dC,dD,dE,dF,dG,Int.not_lt,Int.not_le] at hc55
  refine Ak (t_n (Ab (Ap (Ab ?_))))
  obtain⟨qk,mk,ck,hck,hrow⟩:=hLs.sl.obAt k (by omega)
  have hlek:=hlc k
  have hrl:=hrow.len
  refine Aa ?_
  refine p1 (Cr (i:=k) u22 sz23 rfl rfl (hLs.sl.adr Im (by omega)) (by omega)) ?_
  refine p1 (Ae un23 rfl hck) ?_
  refine pA ?_
  refine Ac (t_n (Ab (Aa ?_)))
  refine pM ?_
  refine oC Tryz.func34 (Xk (LL.getD k []) _ _ _ _ _ hrow.sl (by omega) (Nat.zero_le _) hg.r hg.b (by have:=hg.size;omega)) ?_
  rintro v9 w9 ⟨rfl,hE9⟩
  have hX:=hX.ext hE9
  have hD:=hD.ext hE9
  have hb:=hb.ext hE9
  have hM:=hM.ext hE9
  have hC:=hC.ext hE9
  have hg:=hg.ext hE9
  have hI:=hI.ext hE9
  have hO:=hO.ext hE9
  have hB5:=hB5.ext hE9
  have hLs:=hLs.ext hE9
  have hrow:=hrow.ext hE9
  have hz12:=hX.size
  have hl12_5:=hB5.lt
  refine Ay zr64 ?_
  intro w10 g12 hN12
  have hE10:=hN12.ext
  have hX:=hX.ext hE10
  have hD:=hD.ext hE10
  have hb:=hb.ext hE10
  have hM:=hM.ext hE10
  have hC:=hC.ext hE10
  have hg:=hg.ext hE10
  have hI:=hI.ext hE10
  have hO:=hO.ext hE10
  have hB5:=hB5.ext hE10
  have hLs:=hLs.ext hE10
  have hrow:=hrow.ext hE10
  have hB12:=hN12.blk
  have hq12:=hN12.g_eq
  refine Al rfl rfl (E6 _) (C4 sz64 _) hB12 (Hi _) ?_
  intro w11 hP11
  have hX:=hX.new hP11 (by omega)
  have hD:=hD.modT (hP11.mod 0 (Nat.zero_le _)) (by decide)
  have hb:=hP11.keep hb (by omega)
  have hM:=hM.mod (hP11.mod 0 (Nat.zero_le _)) (Nat.zero_le _) (by decide)
  have hC:=hC.mod (hP11.mod 0 (Nat.zero_le _)) (Nat.zero_le _) (by decide)
  have hg:=hg.put hP11 (by omega)
  have hI:=hI.mod (hP11.mod 0 (Nat.zero_le _)) (Nat.zero_le _) (by decide)
  have hO:=hO.mod (hP11.mod 0 (Nat.zero_le _)) (Nat.zero_le _) (by decide)
  have hB5:=hP11.keep hB5 (by omega)
  have hLs:=hLs.mod (hP11.mod 0 (Nat.zero_le _)) (Nat.zero_le _) (by simp[kOb])
  have hrow:=hrow.mod (hP11.mod 0 (Nat.zero_le _)) (Nat.zero_le _) (by decide)
  have hB12:=hP11.blk
  refine Ac (t_n (Ab ?_))
  refine Cy mixed (by kernel_rfl) ?_
  intro w12 hE12
  have hX:=hX.ext hE12
  have hD:=hD.ext hE12
  have hb:=hb.ext hE12
  have hM:=hM.ext hE12
  have hC:=hC.ext hE12
  have hg:=hg.ext hE12
  have hI:=hI.ext hE12
  have hO:=hO.ext hE12
  have hB5:=hB5.ext hE12
  have hLs:=hLs.ext hE12
  have hrow:=hrow.ext hE12
  have hB12:=hB12.ext hE12
  refine s1 (Af (by conv=>lhs;whnf)) ?_
  refine s1 (Ag rfl) ?_
  refine s1 (Ad Hq sz88 rfl) ?_
  refine s1 (Ae un88 rfl (hb.cell (rfl))) ?_
  refine s1 (Aq ua64 rfl hB12 (C4 sz64 _)) ?_
  obtain⟨⟨p0,n0,c0⟩,hr0⟩:∃ x:R3,x=(μ (shaF (LL.getD k []))).getD r30:=⟨_,rfl⟩
  obtain⟨hC0a,hC0b⟩:=hC.get (shaF (LL.getD k []))
  rw[← hr0] at hC0a hC0b
  simp only at hC0a hC0b
  refine s1 (((lookC u88 zr23 (Es u64 u5 sz5) hM (shaF (LL.getD k [])) rfl rfl)).cast (by rw[← hr0];rfl:r3V _=Value.slice p0 n0 c0)) ?_
  refine s1 (E4 u23 rfl rfl) ?_
  refine Bx (t_n ?_)
  refine As rfl (fun hc66=>?_) (fun hc66=>?_)
  ·try simp only[dA,dB,dC,dD,dE,dF,dG,Int.not_lt,Int.not_le] at hc66
   refine Bj (fun w1 w2=>ModS (fun j=>j=r) [tMap] w1 w2) mixed ?_
   intro w13 hE13
   have hX:=hX.ext hE13
   have hD:=hD.ext hE13
   have hb:=hb.ext hE13
   have hM:=hM.ext hE13
   have hC:=hC.ext hE13
   have hg:=hg.ext hE13
   have hI:=hI.ext hE13
   have hO:=hO.ext hE13
   have hB5:=hB5.ext hE13
   have hLs:=hLs.ext hE13
   have hrow:=hrow.ext hE13
   have hB12:=hB12.ext hE13
   have hSr16:(fun w1 w2=>ModS (fun j=>j=r) [tMap] w1 w2) w13 w13:=ModS.refl _ _ _
   refine hT 0 rfl hSr16 (fun wS hSS=>by(exact(Af (by conv=>lhs;whnf)))) ?_
   refine hT 1 rfl hSr16 (fun wS hSS=>by(exact(Ag rfl))) ?_
   refine hT 2 rfl hSr16 (fun wS hSS=>by(exact(Ad Hq sz88 rfl))) ?_
   refine hT 3 rfl hSr16 (fun wS hSS=>by(have hb:=hb.modS hSS (.inr (by decide));have hB12:=hB12.modS hSS (.inr (by decide));exact(Ae un88 rfl (hb.cell (rfl))))) ?_
   refine hT 4 rfl hSr16 (fun wS hSS=>by(have hb:=hb.modS hSS (.inr (by decide));have hB12:=hB12.modS hSS (.inr (by decide));exact(Aq ua64 rfl hB12 (C4 sz64 _)))) ?_
   refine hT 6 rfl hSr16 (fun wS hSS=>by(exact(Af (by conv=>lhs;whnf)))) ?_
   refine h1L 5 (fun Q5 hQ5=>?_)
   have hXz:=hX.size
   have hSq:=hSr16
   refine Av u23 inf5 rfl (by decide) (fun base hb=>by have h0:base=#[]:=Array.eq_empty_of_size_eq_zero (by simpa using hb);subst h0;rfl) ?_
   intro wJ g72 hN72
   have hE72:=hN72.ext
   have hSr16:=hSr16.ext hE72
   have hJ:Own kByte 5 0 w13.heap.size wJ (some ⟨g72,0,none⟩) 0 0 []:=B4 (B0:=w13.heap.size) ([]:List UInt8) hN72 (Nat.le_refl _) (by simp)
   refine An hQ5 ⟨hSr16,?_⟩
   refine h1L 7 (fun Q7 hQ7=>?_)
   have hrl:=hrow.sl.len
   refine Re (d:=kByte) (LL.getD k []) u23 inf5 rfl Bb rfl rfl hJ (Ba u23 (hrow.sl.ext hE72) (by decide)) hrl (B6 _ _ _) rfl (by omega) (by omega) hE72.size (Nat.zero_le _) (by decide) ?_
   intro p74 c74 w14 hA hM14 hp74 hon74
   rw[List.nil_append] at hA
   have hE14:Ext w13 w14:=hE72.mod hM14 (Nat.le_refl _)
   have hpn:p74≠none:=by rcases hp74 with h | ⟨g,h,_⟩ <;> rw[h] <;> simp
   have hSr16:=hSq
   have hX:=hX.ext hE14
   have hD:=hD.ext hE14
   have hb:=hb.ext hE14
   have hM:=hM.ext hE14
   have hC:=hC.ext hE14
   have hg:=hg.ext hE14
   have hI:=hI.ext hE14
   have hO:=hO.ext hE14
   have hB5:=hB5.ext hE14
   have hLs:=hLs.ext hE14
   have hrow:=hrow.ext hE14
   have hB12:=hB12.ext hE14
   have hSr16:=hSr16.ext hE14
   refine An hQ7 ⟨hSr16,?_⟩
   refine h1L 8 (fun Q8 hQ8=>?_)
   have hMt15:=hM.tyOf
   refine Fs (a:=(shaF (LL.getD k []))) (b:=(p74,0+mk,c74)) u88 (Es u64 u5 sz5) rfl rfl rfl hM rfl (Nat.zero_le _) (by decide) ?_
   intro w15 hM hMm15 hne15
   have hO115:=One.ofMod hMm15 hMt15 hne15
   have hSr16:=hSr16.trans hO115.mods (fun _ _ h=>h)
   have hFA:=FB.ofOwn (S:=nS S) hA (fun j _ hj hs=>by have:=hSb j hs;have:=hXz;omega)
   have hX:=hX.one hO115 ⟨.inl (.inr (.inr rfl)),by decide⟩
   have hD:=hD.oneF hO115 hrS (by decide)
   have hb:=hb.one hO115 (by decide)
   have hC:=hC.one hO115 (by decide)
   have hg:=hg.one hO115 hr6
   have hI:=hI.one hO115 (by decide)
   have hO:=hO.mod (hO115.mod (Nat.zero_le _)) (Nat.zero_le _) (by decide)
   have hB5:=hB5.one hO115 (by decide)
   have hLs:=hLs.mod (hO115.mod (Nat.zero_le _)) (Nat.zero_le _) (by show tMap∉[23,5];decide)
   have hFA:=hFA.one hO115 (by decide)
   have hCn:=hC.put (hC0a.1 hc66) (p74,0+mk,c74) hpn hFA
   rw[← Hx (by omega)] at hCn
   refine An hQ8 ⟨hSr16,?_⟩
   refine A7 (by kernel_rfl) ?_
   refine b_n (t_n (Aa ?_))
   refine p1 (A0 rfl rfl (Am (by omega) (by omega))) ?_
   refine pM ?_
   refine Ac ?_
   refine t_n (aK (k+1) ⟨rfl,trivial⟩ ?_)
   exact⟨⟨hX,by omega,hD,hb,⟨_,hM,hCn⟩,hg,hI,hO,hB5,hLs⟩,by((show _<_);omega)⟩
  try simp only[dA,dB,dC,dD,dE,dF,dG,Int.not_lt,Int.not_le] at hc66
  have hCn:=hC.dup (c:=LL.getD k []) (fun e=>hc66 (hC0a.2 e))
  rw[← Hx (by omega)] at hCn
  refine Ak (b_n (t_n (Aa ?_)))
  refine p1 (A0 rfl rfl (Am (by omega) (by omega))) ?_
  refine pM ?_
  refine Ac ?_
  refine t_n (aK (k+1) ⟨rfl,trivial⟩ ?_)
  exact⟨⟨hX,by omega,hD,hb,⟨_,hM,hCn⟩,hg,hI,hO,hB5,hLs⟩,by((show _<_);omega)⟩
 try simp only[dA,dB,dC,dD,dE,dF,dG,Int.not_lt,Int.not_le] at hc55
 have hkk:LL.take k=LL:=List.take_of_length_le (by omega)
 rw[hkk] at hC
 refine A8 (t_e (t_e (Bq (t_n (Ab ?_)))))
 refine Bj (fun _ w2=>Blk w2 g5 #[.int .i64 (M.seg:Int),.int .i64 (M.size:Int),.slice qi mi ci] 99) mixed ?_
 intro w16 hE16
 have hX:=hX.ext hE16
 have hD:=hD.ext hE16
 have hb:=hb.ext hE16
 have hM:=hM.ext hE16
 have hC:=hC.ext hE16
 have hg:=hg.ext hE16
 have hI:=hI.ext hE16
 have hO:=hO.ext hE16
 have hB5:=hB5.ext hE16
 have hLs:=hLs.ext hE16
 have hSr18:(fun _ w2=>Blk w2 g5 #[.int .i64 (M.seg:Int),.int .i64 (M.size:Int),.slice qi mi ci] 99) w16 w16:=hB5
 refine hT 0 rfl hSr18 (fun wS hSS=>by(exact(Af (by conv=>lhs;whnf)))) ?_
 refine hT 1 rfl hSr18 (fun wS hSS=>by(exact(Af (by conv=>lhs;whnf)))) ?_
 refine hT 2 rfl hSr18 (fun wS hSS=>by(exact(Af (by conv=>lhs;whnf)))) ?_
 refine hT 3 rfl hSr18 (fun wS hSS=>by(exact(Ad Pw sz3 rfl))) ?_
 refine hT 4 rfl hSr18 (fun wS hSS=>by(have hB5:=hSS;exact(Ae un3 rfl (hB5.cell (rfl))))) ?_
 refine hT 5 rfl hSr18 (fun wS hSS=>by(exact(Ad Jf sz3 rfl))) ?_
 refine hT 6 rfl hSr18 (fun wS hSS=>by(have hB5:=hSS;exact(Ae un3 rfl (hB5.cell (rfl))))) ?_
 refine hT 7 rfl hSr18 (fun wS hSS=>by(exact(Ad S3 sz23 rfl))) ?_
 refine hT 8 rfl hSr18 (fun wS hSS=>by(have hB5:=hSS;exact(Ae un23 rfl (hB5.cell (rfl))))) ?_
 refine hT 9 rfl hSr18 (fun wS hSS=>by(exact(Ag rfl))) ?_
 refine hT 10 rfl hSr18 (fun wS hSS=>by(exact(Ad Do sz3 rfl))) ?_
 refine h1L 11 (fun Q11 hQ11=>?_)
 refine Aw rfl (by conv=>lhs;whnf) rfl rfl sz3 hb (by simp) ?_
 intro w17 hP17
 have hX:=hX.put hP17 (⟨.inl (.inr (.inl rfl)),by decide⟩)
 have hD:=hD.modT (hP17.mod 0 (Nat.zero_le _)) (by decide)
 have hb:=hP17.blk
 try simp only[List.setIfInBounds_toArray,List.set_cons_zero,List.set_cons_succ] at hb
 have hM:=hM.mod (hP17.mod 0 (Nat.zero_le _)) (Nat.zero_le _) (by decide)
 have hC:=hC.mod (hP17.mod 0 (Nat.zero_le _)) (Nat.zero_le _) (by decide)
 have hg:=hg.put hP17 (by omega)
 have hI:=hI.mod (hP17.mod 0 (Nat.zero_le _)) (Nat.zero_le _) (by decide)
 have hO:=hO.mod (hP17.mod 0 (Nat.zero_le _)) (Nat.zero_le _) (by decide)
 have hB5:=hP17.keep hB5 (by omega)
 have hLs:=hLs.mod (hP17.mod 0 (Nat.zero_le _)) (Nat.zero_le _) (by simp[kOb])
 have hSr18:=hP17.keep hSr18 (by omega)
 refine An hQ11 ⟨hSr18,?_⟩
 refine hT 12 rfl hSr18 (fun wS hSS=>by(exact(Ag rfl))) ?_
 refine hT 13 rfl hSr18 (fun wS hSS=>by(exact(Ad E1 sz3 rfl))) ?_
 refine h1L 14 (fun Q14 hQ14=>?_)
 refine Aw rfl (by conv=>lhs;whnf) rfl rfl sz3 hb (by simp) ?_
 intro w18 hP18
 have hX:=hX.put hP18 (⟨.inl (.inr (.inl rfl)),by decide⟩)
 have hD:=hD.modT (hP18.mod 0 (Nat.zero_le _)) (by decide)
 have hb:=hP18.blk
 try simp only[List.setIfInBounds_toArray,List.set_cons_zero,List.set_cons_succ] at hb
 have hM:=hM.mod (hP18.mod 0 (Nat.zero_le _)) (Nat.zero_le _) (by decide)
 have hC:=hC.mod (hP18.mod 0 (Nat.zero_le _)) (Nat.zero_le _) (by decide)
 have hg:=hg.put hP18 (by omega)
 have hI:=hI.mod (hP18.mod 0 (Nat.zero_le _)) (Nat.zero_le _) (by decide)
 have hO:=hO.mod (hP18.mod 0 (Nat.zero_le _)) (Nat.zero_le _) (by decide)
 have hB5:=hP18.keep hB5 (by omega)
 have hLs:=hLs.mod (hP18.mod 0 (Nat.zero_le _)) (Nat.zero_le _) (by simp[kOb])
 have hSr18:=hP18.keep hSr18 (by omega)
 refine An hQ14 ⟨hSr18,?_⟩
 refine hT 15 rfl hSr18 (fun wS hSS=>by(exact(Ag rfl))) ?_
 refine hT 16 rfl hSr18 (fun wS hSS=>by(exact(Ad Mq sz23 rfl))) ?_
 refine h1L 17 (fun Q17 hQ17=>?_)
 refine Aw rfl (by conv=>lhs;whnf) rfl rfl sz23 hb (by simp) ?_
 intro w19 hP19
 have hX:=hX.put hP19 (⟨.inl (.inr (.inl rfl)),by decide⟩)
 have hD:=hD.modT (hP19.mod 0 (Nat.zero_le _)) (by decide)
 have hb:=hP19.blk
 try simp only[List.setIfInBounds_toArray,List.set_cons_zero,List.set_cons_succ] at hb
 have hM:=hM.mod (hP19.mod 0 (Nat.zero_le _)) (Nat.zero_le _) (by decide)
 have hC:=hC.mod (hP19.mod 0 (Nat.zero_le _)) (Nat.zero_le _) (by decide)
 have hg:=hg.put hP19 (by omega)
 have hI:=hI.mod (hP19.mod 0 (Nat.zero_le _)) (Nat.zero_le _) (by decide)
 have hO:=hO.mod (hP19.mod 0 (Nat.zero_le _)) (Nat.zero_le _) (by decide)
 have hB5:=hP19.keep hB5 (by omega)
 have hLs:=hLs.mod (hP19.mod 0 (Nat.zero_le _)) (Nat.zero_le _) (by simp[kOb])
 have hSr18:=hP19.keep hSr18 (by omega)
 have hCX:CstX (fun j=>S j∨j=g∨j=r) S _ g gd r μ qi mi ci none (loadS D M):=⟨fun k h => .inl h,hD,hb,hM,by show Chs S _ μ (getSg _).1;rw[← hLL];exact hC,hI,.inr (.inl rfl),.inr (.inr rfl),hrS,rfl⟩
 refine An hQ17 ⟨hSr18,?_⟩
 refine A7 (by kernel_rfl) ?_
 refine t_n (Ab (Ab (Aa ?_)))
 refine pM ?_
 refine p1 (Ar u23 rfl) ?_
 refine p1 (Ad Jf sz3 rfl) ?_
 refine p1 (Ae un3 rfl (hB5.cell (rfl))) ?_
 refine p1 (Cw rfl rfl) ?_
 refine Ac (t_n ?_)
 refine As rfl (fun hc95=>?_) (fun hc95=>?_)
 ·try simp only[dA,dB,dC,dD,dE,dF,dG,Int.not_lt,Int.not_le] at hc95
  refine Ab ?_
  refine Cx 7 mixed (by kernel_rfl) ?_
  intro w20 hE20
  have hX:=hX.ext hE20
  have hD:=hD.ext hE20
  have hb:=hb.ext hE20
  have hM:=hM.ext hE20
  have hC:=hC.ext hE20
  have hg:=hg.ext hE20
  have hI:=hI.ext hE20
  have hO:=hO.ext hE20
  have hB5:=hB5.ext hE20
  have hLs:=hLs.ext hE20
  have hCX:=hCX.ext hE20
  refine s1 (Af (by conv=>lhs;whnf)) ?_
  refine s1 (Ag rfl) ?_
  refine s1 (Ad Ea sz34 rfl) ?_
  refine s1 (Ae un34 rfl (hb.cell (rfl))) ?_
  refine s1 (Af (by conv=>lhs;whnf)) ?_
  refine s1 (Ad Jf sz3 rfl) ?_
  refine s1 (Ae un3 rfl (hB5.cell (rfl))) ?_
  refine Bx ?_
  have hXs:=hX.size
  refine oC Tryz.func94 (P3 gd S D _ hCX.d hok (by omega) hle (nSeg M.seg) (C0 _) (M.size:Int) (by omega) (by omega)) ?_
  rintro v21 w21 ⟨rfl,hD2,hM2⟩
  have hz20:=hX.size
  have hCX:=hCX.turn hM2 hD2
  have hX:=hX.trans (hM2.wideE fun k h => .inl h) (fun _ _ h=>h)
  have hg:=hg.modS hM2 hS
  have hGd:=Lr hGd (nSeg M.seg) (M.size:Int)
  have hXs3:=hX.size
  have hmc:=hM2.size
  have hb:=hCX.b
  refine pA ?_
  refine Ac (t_n (Ab (Aa ?_)))
  refine pM ?_
  refine p1 (A2 rfl rfl) ?_
  refine Ac (t_n ?_)
  refine As rfl (fun hc105=>?_) (fun hc105=>?_)
  ·try simp only[dA,dB,dC,dD,dE,dF,dG,Int.not_lt,Int.not_le] at hc105
   have hlr:loadR D M=cutD D (nSeg M.seg) M.size:=by unfold loadR;rw[if_pos (by omega),andD,if_neg hc105]
   refine Ab (Aa ?_)
   refine pM ?_
   refine pA ?_
   refine Ac (t_n (Ao (t_r ?_)))
   refine eR1 ?_
   (rw[hlp,hlr];exact⟨rfl,fun h=>absurd h hc105,hCX.d.mono (into1 hz20),hX⟩)
  try simp only[dA,dB,dC,dD,dE,dF,dG,Int.not_lt,Int.not_le] at hc105
  have hlr:loadR D M=cleanD (cutD D (nSeg M.seg) M.size).1 (nSeg M.seg):=by unfold loadR;rw[if_pos (by omega),andD,if_pos (by omega)]
  refine Ak (t_n (Ab (Aa ?_)))
  refine pM ?_
  refine p1 (Ag rfl) ?_
  refine p1 (Ad Ea sz34 rfl) ?_
  refine p1 (Ae un34 rfl (hb.cell (rfl))) ?_
  refine pM ?_
  have hXs2:=hX.size
  refine oC Tryz.func47 (Iu gd _ _ _ hCX.d hGd.ok (Nat.lt_of_le_of_lt hGd.steps (by omega)) hGd.left hGd.names (by exact Jg hS (by omega)) hg (nSeg M.seg)) ?_
  rintro v22 w22 ⟨rfl,hDZ,hMZ⟩
  have hCZ:=hCX.turn hMZ hDZ
  have hX:=hX.trans (hMZ.wideE fun k h=>h) (by exact fun j hj h=>h.elim .inl (fun q=>absurd q.1 (by omega)))
  refine pA ?_
  refine Ac (t_n (Ao ?_))
  refine eR1 ?_
  (rw[hlp,hlr];exact⟨rfl,fun _=>hCZ.fin.mono (into2 hz20 hXs2),hDZ.mono (into2 hz20 hXs2),hX⟩)
 try simp only[dA,dB,dC,dD,dE,dF,dG,Int.not_lt,Int.not_le] at hc95
 have hlr:loadR D M=cleanD D (nSeg M.seg):=by unfold loadR;rw[if_neg (by omega)];rfl
 refine Ak (t_n (Ab (Aa ?_)))
 refine pM ?_
 refine p1 (Ag rfl) ?_
 refine p1 (Ad Ea sz34 rfl) ?_
 refine p1 (Ae un34 rfl (hb.cell (rfl))) ?_
 refine pM ?_
 have hXs2:=hX.size
 refine oC Tryz.func47 (Iu gd _ _ _ hCX.d hGd.ok (Nat.lt_of_le_of_lt hGd.steps (by omega)) hGd.left hGd.names (by exact hS) hg (nSeg M.seg)) ?_
 rintro v23 w23 ⟨rfl,hDZ,hMZ⟩
 have hCZ:=hCX.turn hMZ hDZ
 have hX:=hX.trans (hMZ.wideE fun k h=>h) (by exact fun j _ h => .inl h)
 refine pA ?_
 refine Ac (t_n (Ao ?_))
 refine eR1 ?_
 (rw[hlp,hlr];exact⟨rfl,fun _=>hCZ.fin.mono (into1 hXs2),hDZ.mono (into1 hXs2),hX⟩)
end Go.Proofs.Eng
end
section
set_option maxRecDepth 100000
set_option maxHeartbeats 4000000
namespace Go.Proofs.Eng
open Go.RowKit
open Extern.Stop (cell)
theorem fb46:Tryz.f46.body.isNone=false:=by kernel_rfl
theorem fb48:Tryz.f48.body.isNone=false:=by kernel_rfl
theorem fb50:Tryz.f50.body.isNone=false:=by kernel_rfl
theorem fn46 : ngB Tryz.f46 = false := by kernel_rfl
theorem fn48 : ngB Tryz.f48 = false := by kernel_rfl
theorem fn50 : ngB Tryz.f50 = false := by kernel_rfl
theorem pl91:Co Tryz.prog 91=some (.agg #[.pointer none,.int .i64 0,.int .i64 0,.slice none 0 0,.map none,.pointer none,.bool false],[(0,1),(1,1),(2,1),(3,1),(4,1),(5,1),(6,1)]):=by kernel_rfl
theorem sz30:(Tryz.prog.info? 30).map (·.size)=some 1:=by kernel_rfl
theorem zr30:(Tryz.prog.info? 30).map (·.zero)=some (some (.pointer none)):=by kernel_rfl
end Go.Proofs.Eng
end
section
set_option maxRecDepth 100000
set_option maxHeartbeats 4000000
namespace Go.Proofs.Eng
open Go.RowKit
open Extern.Stop (cell)
theorem Jn (gd:Nat) (S:Nat→Prop) (D:DS) (w:World) (hD:Dsk S w gd D) (hok:DOk D) (hst:D.steps<4611686018427360000) (hle:D.left≤9223372036854775807) (hnm:∀ x∈D.l,Bg x.1=true) (hS:∀ k,S k→6≤k) (hg:Gt w) :
    Ret Tryz.prog 12 [.pointer (some ⟨gd,0,none⟩)] w (fun v w'=>(∃ pv,v = .tuple #[pv,.int .i64 (openC D).2]∧(((openC D).2=0∧∃ g,pv = .pointer (some ⟨g,0,none⟩)∧Cst (grow S w w') w' g gd (openC D).1)∨((openC D).2≠0∧pv = .pointer none∧Dsk (grow S w w') w' gd (openC D).1.D)))∧ModS S EC w w'):=by
 have hgs:=hg.size
 have hD:=hD.narrow (Nat.le_refl _)
 have hS1:∀ k,(fun j=>S j∧j<w.heap.size) k→6≤k:=fun k h=>hS k h.1
 have hSb:∀ k,(fun j=>S j∧j<w.heap.size) k→k<w.heap.size:=fun k h=>h.2
 have hX:=ModS.refl S EC w
 refine eN 35 Tryz.func12 ?_
 refine Ab (Aa ?_)
 have hz1:=hX.size
 refine D9 (by conv=>lhs;whnf) rfl ?_
 intro w1 g1 hN1
 have hE1:=hN1.ext
 have hX:=hX.ext hE1
 have hD:=hD.ext hE1
 have hg:=hg.ext hE1
 have hB1:=hN1.blk
 have hq1:=hN1.g_eq
 refine pA (pA (Ac (t_n (Ab (Ab (Aa ?_))))))
 refine p1 (Ae un34 rfl (hB1.cell (rfl))) ?_
 refine p1 ((Cc u34 rfl rfl).cast (congrArg _ (decide_eq_false (by simp)))) ?_
 refine Ac (t_n ?_)
 refine c_f rfl ?_
 refine Ak (t_n (Ab (Aa ?_)))
 refine p1 (Ae un34 rfl (hB1.cell (rfl))) ?_
 have hXs:=hX.size
 refine K1 (κ:=Hash) (ν:=R3) ?_
 intro w2 g10 hE2 hK10
 have hX:=hX.ext hE2
 have hD:=hD.ext hE2
 have hg:=hg.ext hE2
 have hB1:=hB1.ext hE2
 have hM:=hK10 Dd vCh 0 w.heap.size (hXs)
 refine p1 (Zv pl91 rfl rfl rfl) ?_
 have hMl:=hM.low
 have hMt:=hM.lt
 have hz12:=hX.size
 have hl12_1:=hB1.lt
 refine Bu (by conv=>lhs;whnf) ?_
 intro w3 g12 hN12
 have hE3:=hN12.ext
 have hX:=hX.ext hE3
 have hD:=hD.ext hE3
 have hg:=hg.ext hE3
 have hB1:=hB1.ext hE3
 have hM:=hM.ext hE3
 have hB12:=hN12.blk
 have hq12:=hN12.g_eq
 have hz4:=hX.size
 have hl4_1:=hB1.lt
 have hl4_12:=hB12.lt
 refine Ay zr30 ?_
 intro w4 g4 hN4
 have hE4:=hN4.ext
 have hX:=hX.ext hE4
 have hD:=hD.ext hE4
 have hg:=hg.ext hE4
 have hB1:=hB1.ext hE4
 have hM:=hM.ext hE4
 have hB12:=hB12.ext hE4
 have hB4:=hN4.blk
 have hq4:=hN4.g_eq
 refine Aw rfl (by conv=>lhs;whnf) rfl rfl sz30 hB4 (by exact Nat.zero_lt_one) ?_
 intro w5 hP5
 have hX:=hX.new hP5 (by omega)
 have hD:=hD.modT (hP5.mod 0 (Nat.zero_le _)) (by decide)
 have hg:=hg.put hP5 (by omega)
 have hB1:=hP5.keep hB1 (by omega)
 have hM:=hM.mod (hP5.mod 0 (Nat.zero_le _)) (Nat.zero_le _) (by decide)
 have hB12:=hP5.keep hB12 (by omega)
 have hB4:=hP5.blk
 try simp only[List.setIfInBounds_toArray,List.set_cons_zero,List.set_cons_succ] at hB4
 refine Ac (t_n (Ab (Aa ?_)))
 refine p1 (Ae un34 rfl (hB1.cell (rfl))) ?_
 refine oC Tryz.func37 (H8 gd (fun j=>S j∧j<w.heap.size) D _ hD hok nMan (by decide)) ?_
 rintro v6 w6 ⟨⟨qb,nb,cb,rfl,hO⟩,hE6⟩
 have hX:=hX.ext hE6
 have hD:=hD.ext hE6
 have hg:=hg.ext hE6
 have hB1:=hB1.ext hE6
 have hM:=hM.ext hE6
 have hB12:=hB12.ext hE6
 have hB4:=hB4.ext hE6
 refine pM ?_
 refine p1 (Aj rfl rfl) ?_
 refine p1 (Aj rfl rfl) ?_
 refine pA (pA (Ac (t_n (Ab (Ab (Aa ?_))))))
 refine pM (Ac (t_n (Ap (Ab (Aa ?_)))))
 refine p1 (Bw rfl rfl) ?_
 refine pA (Ac (t_n ?_))
 refine As rfl (fun hc19=>?_) (fun hc19=>?_)
 ·have hoc:=Fr hc19
  refine Aa ?_
  refine p1 (Ae un30 rfl (hB4.cell (rfl))) ?_
  refine pM ?_
  have hXs:=hX.size
  refine oC Tryz.func44 (Vv gd (fun j=>S j∧j<w.heap.size) D _ hD hok (by omega) hle hnm hS1 hg (fun j h=>Nat.lt_of_lt_of_le h.2 hXs) g12 g10 hB12 (hM.lower (Nat.zero_le _)) (fun h=>by have:=h.2;omega) (by omega) (by omega) (readD D nMan).1 0 _ _ _ _ hO.sl) ?_
  rintro v7 w7 ⟨rfl,hCs,hD2,hM2⟩
  have hX:=hX.trans hM2 (fun j hj h=>by rcases h with h | h | h <;> first | exact h.1 | (exfalso;omega))
  have hB4:=hB4.modS hM2 (.inr (by decide))
  have hMs:=hM2.size
  refine pA (Ac (b_n (t_n (Ab (Ab (Aa ?_))))))
  refine pM ?_
  refine p1 (A2 rfl rfl) ?_
  refine Ac (t_n ?_)
  refine As rfl (fun hc32=>?_) (fun hc32=>?_)
  ·refine Ab (Aa ?_)
   refine pM (pA (pA (Ac (t_n (Ao (t_r ?_))))))
   refine eR2 ?_
   (rw[hoc];exact⟨⟨_,rfl,.inr ⟨hc32,rfl,hD2.mono (fun j hj h=>h.imp (fun h=>h.1) fun ⟨a,_⟩=>⟨by omega,hj⟩)⟩⟩,hX⟩)
  refine Ak (t_n (Ab (Aa ?_)))
  refine p1 (Ae un30 rfl (hB4.cell (rfl))) ?_
  refine pA (pA (Ac (t_n (Ao ?_))))
  refine eR2 ?_
  (rw[hoc]
   have h0:(loadC D (readD D nMan).1).2=0:=by omega
   refine⟨⟨_,by rw[h0],.inl ⟨h0,_,rfl,(hCs h0).mono (fun j hj h=>?_)⟩⟩,hX⟩
   rcases h with (h | h | h) | ⟨h,_⟩
   · exact .inl h.1
   · exact .inr ⟨by omega,hj⟩
   · exact .inr ⟨by omega,hj⟩
   · exact .inr ⟨by omega,hj⟩)
 refine Ab (Aa ?_)
 refine p1 (Bw rfl rfl) ?_
 refine pA (Ac (t_n ?_))
 refine As rfl (fun hc24=>?_) (fun hc24=>?_)
 ·have hoc:=Gq hc24
  refine Aa ?_
  refine p1 (Ch (fs:=[]) (cs:=[.pointer (some ⟨g1,0,none⟩)]) rfl rfl) ?_
  refine p1 (Ch (fs:=[]) (cs:=[.pointer (some ⟨g1,0,none⟩),.pointer (some ⟨g4,0,none⟩)]) rfl rfl) ?_
  refine p1 (Ch (fs:=[]) (cs:=[.pointer (some ⟨g1,0,none⟩),.pointer (some ⟨g4,0,none⟩)]) rfl rfl) ?_
  refine Av u149 inf95 rfl (by decide) (fun base hb=>Ed [fcv (46,[.pointer (some ⟨g1,0,none⟩)]),fcv (48,[.pointer (some ⟨g1,0,none⟩),.pointer (some ⟨g4,0,none⟩)]),fcv (50,[.pointer (some ⟨g1,0,none⟩),.pointer (some ⟨g4,0,none⟩)])] (by intro v hv';simp only[List.mem_cons,List.not_mem_nil,or_false] at hv';rcases hv' with rfl | rfl | rfl <;> rfl) base hb) ?_
  intro w8 g29 hN29
  have hE8:=hN29.ext
  have hX:=hX.ext hE8
  have hD:=hD.ext hE8
  have hg:=hg.ext hE8
  have hB1:=hB1.ext hE8
  have hM:=hM.ext hE8
  have hB12:=hB12.ext hE8
  have hB4:=hB4.ext hE8
  have hS29:Sl kFn 95 0 w8 (some ⟨g29,0,none⟩) 3 3 [(46,[.pointer (some ⟨g1,0,none⟩)]),(48,[.pointer (some ⟨g1,0,none⟩),.pointer (some ⟨g4,0,none⟩)]),(50,[.pointer (some ⟨g1,0,none⟩),.pointer (some ⟨g4,0,none⟩)])]:=(B4 (B0:=0) ([(46,[.pointer (some ⟨g1,0,none⟩)]),(48,[.pointer (some ⟨g1,0,none⟩),.pointer (some ⟨g4,0,none⟩)]),(50,[.pointer (some ⟨g1,0,none⟩),.pointer (some ⟨g4,0,none⟩)])]:List Clo) hN29 (Nat.zero_le _) (by simp)).sl
  have hXs:=hX.size
  refine oC Tryz.func45 (Qe [(46,[.pointer (some ⟨g1,0,none⟩)]),(48,[.pointer (some ⟨g1,0,none⟩),.pointer (some ⟨g4,0,none⟩)]),(50,[.pointer (some ⟨g1,0,none⟩),.pointer (some ⟨g4,0,none⟩)])] [fun D=>cleanD D (toStr []),fun D=>A9 D (nSeg 1),fun D=>writeM D ⟨1,0,[]⟩] (fun i=>D.steps+64 * i) gd (fun j=>S j∧j<w.heap.size) D _ _ _ _ hD (⟨hok,Nat.le_refl _,hle,hnm⟩) hS29 rfl (fun i hi=>?_)) ?_
  · rcases i with _ | _ | _ | i
    · exact⟨Tryz.f46,Tryz.func46,fn46,fb46,fun Di w1 hDi m hgi=>(Aek gd _ Di w1 hDi hgi.ok (Nat.lt_of_le_of_lt hgi.steps (by show _+_<_;omega)) hgi.left hgi.names (Jg hS1 (by omega)) (hg.modS m hS1) g1 (hB1.modS m (.inr (by decide)))).dg ((Good.cleanD hgi _).mono (by show D.steps+64 * 0+64≤D.steps+64 * 1;omega))⟩
    · exact⟨Tryz.f48,Tryz.func48,fn48,fb48,fun Di w1 hDi m hgi=>(Aej gd _ Di w1 hDi hgi.ok (Nat.lt_of_le_of_lt hgi.steps (by show _+_<_;omega)) hgi.left hgi.names (Jg hS1 (by omega)) (hg.modS m hS1) g1 g4 g12 _ (hB1.modS m (.inr (by decide))) (hB4.modS m (.inr (by decide))) (hB12.modS m (.inr (by decide))) rfl).dg ((Good.create hgi _).mono (by show D.steps+64 * 1+1≤D.steps+64 * 2;omega))⟩
    · exact⟨Tryz.f50,Tryz.func50,fn50,fb50,fun Di w1 hDi m hgi=>(Aei gd _ Di w1 hDi hgi.ok (Nat.lt_of_le_of_lt hgi.steps (by show _+_<_;omega)) hgi.left hgi.names (Jg hS1 (by omega)) (hg.modS m hS1) g1 g4 g12 _ (hB1.modS m (.inr (by decide))) (hB4.modS m (.inr (by decide))) (hB12.modS m (.inr (by decide))) rfl).dg ((Good.writeM hgi ⟨1,0,[]⟩).mono (by show D.steps+64 * 2+4≤D.steps+64 * 3;omega))⟩
    · exact absurd hi (by omega)
  rintro v9 w9 ⟨rfl,hD2,hM2⟩
  have hM8:=hM.lt
  have hB12:=hB12.modS hM2 (.inr (by decide))
  have hB4:=hB4.modS hM2 (.inr (by decide))
  have hMs:=hM2.size
  have hXw:=hX.size
  have hX:=hX.trans (hM2.wideE fun k h=>h) (fun j hj h=>h.1)
  have hMz:=(hM.lower (Nat.zero_le _)).turn hM2 (fun h=>by have:=h.2;omega) rfl
  have hl12:=hB12.lt
  refine pA (Ac (b_n (t_n (Ab (Ab (Aa ?_))))))
  refine pM ?_
  refine p1 (A2 rfl rfl) ?_
  refine Ac (t_n ?_)
  refine As rfl (fun hc32=>?_) (fun hc32=>?_)
  ·refine Ab (Aa ?_)
   refine pM (pA (pA (Ac (t_n (Ao (t_r ?_))))))
   refine eR2 ?_
   (rw[hoc];exact⟨⟨_,rfl,.inr ⟨hc32,rfl,hD2.mono (fun j hj h=>h.imp (fun h=>h.1) fun ⟨a,_⟩=>⟨by omega,hj⟩)⟩⟩,hX⟩)
  refine Ak (t_n (Ab (Aa ?_)))
  refine p1 (Ae un30 rfl (hB4.cell (rfl))) ?_
  refine pA (pA (Ac (t_n (Ao ?_))))
  refine eR2 ?_
  (rw[hoc]
   have h0:(runD openOps D).2=0:=by exact Classical.byContradiction hc32
   refine⟨⟨_,by rw[h0],.inl ⟨h0,_,rfl,grow (fun j=>S j∧j<w.heap.size) _ _,g10,_,none,0,0,none,⟨fun k h=>?_,hD2,hB12,hMz,Chs.none_ _ _,FB.nil _ _,.inr ⟨by omega,hl12⟩,.inr ⟨by omega,hMz.lt⟩,fun h=>?_,rfl⟩⟩⟩,hX⟩
   · exact h.imp (fun h=>h.1) fun ⟨a,b⟩=>⟨by omega,b⟩
   · rcases h with h | ⟨h, _⟩
     · have:=h.2;omega
     · omega)
 have hoc:=H3 hc19 hc24
 refine Ak (b_n (t_n (Ab (Ab (Aa ?_)))))
 refine pM ?_
 refine p1 (A2 rfl rfl) ?_
 refine Ac (t_n ?_)
 refine As rfl (fun hc32=>?_) (fun hc32=>?_)
 ·refine Ab (Aa ?_)
  refine pM (pA (pA (Ac (t_n (Ao (t_r ?_))))))
  refine eR2 ?_
  (rw[hoc];exact⟨⟨_,rfl,.inr ⟨hc32,rfl,hD.mono (fun j hj h => .inl h.1)⟩⟩,hX⟩)
 refine Ak (t_n (Ab (Aa ?_)))
 refine p1 (Ae un30 rfl (hB4.cell (rfl))) ?_
 refine pA (pA (Ac (t_n (Ao ?_))))
 refine eR2 ?_
 exact absurd (by omega:(readD D nMan).2=0) hc19
end Go.Proofs.Eng
end
section
set_option maxRecDepth 100000
set_option maxHeartbeats 4000000
namespace Go.Proofs.Eng
open Go.RowKit
open Extern.Stop (cell)
theorem Lc (xs:List Hash) (B:Nat) (p:Option Addr) (n c:Nat) (w:World) (hl:Sl kHash 64 B w p n c xs) (hs:n≤4194304000) :
    Ret Tryz.prog 88 [.slice p n c] w (fun v w'=>(∃ q c',v = .slice q n c'∧Own kHash 64 0 w.heap.size w' q n c' xs)∧Ext w w'):=by
 have hX:=Ext.refl w
 refine eN 8 Tryz.func88 ?_
 refine Ab (Aa ?_)
 refine pA (Ac (t_n (Ab (Ab (Aa ?_)))))
 refine pM ?_
 refine p1 (E4 u54 rfl rfl) ?_
 refine Ac (t_n ?_)
 refine As rfl (fun hc4=>?_) (fun hc4=>?_)
 ·have hn:n=0:=by
    rcases Nat.eq_zero_or_pos n with h | h
    · exact h
    · have:=hl.adr A5 h;rw[hc4] at this;cases this
  have hx0:xs=[]:=List.eq_nil_of_length_eq_zero (by rw[hl.len,hn])
  have hp:Own kHash 64 0 w.heap.size w none 0 0 xs:=by rw[hx0];exact Own.nil _ _ _ _ _
  refine Ab (Aa ?_)
  refine pA (Ac (t_n (Ao (t_r ?_))))
  refine eR1 ?_
  (subst hn;exact⟨⟨none,0,rfl,hp⟩,hX⟩)
 refine Ak (t_n (Ab (Aa ?_)))
 refine Av u54 inf64 rfl (by decide) (fun base hb=>by have h0:base=#[]:=Array.eq_empty_of_size_eq_zero (by simpa using hb);subst h0;rfl) ?_
 intro w1 g5 hN5
 have hE1:=hN5.ext
 have hX:=hX.ext hE1
 have hO:Own kHash 64 0 w.heap.size w1 (some ⟨g5,0,none⟩) 0 0 []:=Own.made kHash 64 0 _ hN5 [] [] 0 0 rfl trivial (by have:=hX.size;have:=hN5.g_eq;have:=hN5.ext.size;omega) (by omega) (by omega) (by rfl) (by simp)
 refine pM ?_
 have hB0:=hX.size
 have hl2:=hl.ext hX
 refine Az (d:=kHash) (xs) u54 inf64 rfl A5 rfl rfl hO (Ba u54 hl2 (by decide)) hl.len (Ca _ _ _) (rfl) (by omega) (by omega) (by omega) (by omega) (by decide) ?_
 intro p7 c7 w2 hO hM2
 have hX:=hX.mod hM2 (Nat.le_refl _)
 refine pA (Ac (t_n (Ao ?_)))
 refine eR1 ?_
 exact⟨⟨_,_,by rw[Nat.zero_add],by rw[List.nil_append,Nat.zero_add] at hO;exact hO⟩,hX⟩
theorem Kj (xs:List Hash) (B0:Nat) (p:Option Addr) (n c:Nat) (w:World) (hO:Own kHash 64 0 B0 w p n c xs) :
    Ret Tryz.prog 91 [.slice p n c] w (fun v w'=>∃ m,m≤n∧v = .slice p m c∧Own kHash 64 0 B0 w' p m c (cpt xs n)∧Mod B0 64 w w'):=by
 have hX:=Mod.refl B0 64 w
 refine eN 61 Tryz.func91 ?_
 refine Ab (Aa ?_)
 refine pA (Ac (t_n (Ab (Ab ?_))))
 have hlen:=hO.len
 have hsm:=hO.small
 refine Aa ?_
 refine pM ?_
 refine p1 (Ar u54 rfl) ?_
 refine p1 (Bi rfl rfl) ?_
 refine Ac (t_n ?_)
 refine As rfl (fun hc8=>?_) (fun hc8=>?_)
 ·have hp:cpt xs n=xs:=by rw[L4 n (by omega) (fun i h1 h2=>by omega),List.take_of_length_le (by omega)]
  refine Ab (Aa ?_)
  refine pM (pA (Ac (t_n (Ao (t_r ?_)))))
  refine eR1 ?_
  exact⟨n,Nat.le_refl _,rfl,(by rw[hp];exact hO),hX⟩
 refine Ak (t_n (Ab (Ab (Aa ?_))))
 refine pA (Ac (t_n (Ap ?_)))
 have hWL0:=Ext.refl w
 refine Bc (ι:=Nat) ([2,3,4,5]++rg 10 50) (fun k=>[(3,.int .i64 (k:Int))]) (fun k w'=>Ext w w'∧(1≤k∧k≤n∧∀ i,0<i→i<k→xs.getD i default≠xs.getD (i - 1) default)) (fun k=>n - k) (1) ⟨rfl,trivial⟩ ⟨Ext.refl _,⟨by omega,by omega,fun i h1 h2=>by omega⟩⟩ ?_
 rintro k GL0 w1 ⟨hE1,hk1,hkn,hL⟩
 have hX:=hX.ext hE1
 have hO:=hO.ext hE1
 have hWL0:=hE1
 refine Ab (Ab (Aa ?_))
 refine pM (pM ?_)
 refine p1 (Ar u54 rfl) ?_
 refine p1 (Bi rfl rfl) ?_
 refine Ac (t_n ?_)
 refine As rfl (fun hc13=>?_) (fun hc13=>?_)
 ·refine Ak (t_n (Ab (Ap (Ab ?_))))
  refine Cy mixed (by kernel_rfl) ?_
  intro w2 hE2
  have hX:=hX.ext hE2
  have hO:=hO.ext hE2
  have hWL0:=hWL0.ext hE2
  refine s1 (Af (by conv=>lhs;whnf)) ?_
  refine s1 (Af (by conv=>lhs;whnf)) ?_
  refine s1 (Cs u54 sz64 rfl rfl (hO.sl.adr A5 (by omega)) (by omega) (by omega)) ?_
  refine s1 (Cb ua64 rfl (Gc sz64 _) (hO.sl.hashAt _ (by omega) (by omega))) ?_
  refine s1 (Af (by conv=>lhs;whnf)) ?_
  refine s1 (Af (by conv=>lhs;whnf)) ?_
  refine s1 (Dg rfl rfl (Am (by omega) (by omega))) ?_
  refine s1 (Cs u54 sz64 rfl rfl (hO.sl.adr A5 (by omega)) (by omega) (by omega)) ?_
  refine s1 (Cb ua64 rfl (Gc sz64 _) (hO.sl.hashAt _ (by omega) (by omega))) ?_
  refine s1 (En u64 u5 sz5 eg64 rfl rfl (xs.getD _ default).2 (xs.getD _ default).2) ?_
  refine Bx (t_n ?_)
  refine As rfl (fun hc25=>?_) (fun hc25=>?_)
  ·have hq:xs.getD k default=xs.getD (k - 1) default:=by have:=Subtype.ext hc25;rw[show ((k:Int) - 1).toNat=k - 1 from by omega,Int.toNat_natCast] at this;exact this
   have hq2:cpt xs (k+1)=xs.take k:=by rw[Ab2 (by omega) hq,L4 k (by omega) hL]
   refine Ab (Aa ?_)
   refine pM (pM ?_)
   refine p1 (Bs u54 sz64 rfl rfl (by omega)) ?_
   refine pA (Ac (t_n (Ab (Ab (Aa ?_)))))
   refine pA (Ac (t_n (Ap ?_)))
   refine Bc (ι:=Nat×Nat×List Hash) ([3,5]++rg 29 25) (fun (j,m,zs)=>[(3,.int .i64 (m:Int)),(5,.int .i64 (j:Int))]) (fun (j,m,zs) w'=>Mod B0 64 w w'∧(Own kHash 64 0 B0 w' p n c zs∧1≤j∧k+j≤n∧m<k+j∧m=(cpt xs (k+j)).length∧zs.take m=cpt xs (k+j)∧zs.drop (k+j - 1)=xs.drop (k+j - 1))) (fun (j,m,zs)=>n - k - j) ((1,k,xs)) ⟨rfl,rfl,trivial⟩ ⟨hX,⟨hO,by omega,by omega,by omega,by rw[hq2,List.length_take];omega,hq2.symm,rfl⟩⟩ ?_
   rintro⟨j,m,zs⟩ GL2 w3 ⟨hE3,hO,hj1,hjn,hmk,hml,hmt,hmd⟩
   have hX:=hE3
   refine Ab (Ab (Aa ?_))
   refine pM (pM ?_)
   refine p1 (Ar u54 rfl) ?_
   refine p1 (Bi rfl rfl) ?_
   refine Ac (t_n ?_)
   refine As rfl (fun hc32=>?_) (fun hc32=>?_)
   ·refine Ak (t_n (Ab (Ap (Ab ?_))))
    have hlz:=hO.len
    have ez:∀ i,k+j - 1≤k+i→(zs.drop k).getD i default=xs.getD (k+i) default:=fun i hi=>by
      have h1:=congrArg (fun l=>l.getD (k+i - (k+j - 1)) default) hmd
      simp only[List.getD_eq_getElem?_getD,List.getElem?_drop] at h1 ⊢
      rw[show k+j - 1+(k+i - (k+j - 1))=k+i from by omega] at h1
      exact h1
    refine Cy mixed (by kernel_rfl) ?_
    intro w4 hE4
    have hX:=hX.ext hE4
    have hO:=hO.ext hE4
    refine s1 (Af (by conv=>lhs;whnf)) ?_
    refine s1 (Af (by conv=>lhs;whnf)) ?_
    refine s1 (Cs u54 sz64 rfl rfl ((hO.sl.dropI k (by omega)).adr A5 (by omega)) (by omega) (by omega)) ?_
    refine s1 (Cb ua64 rfl (Gc sz64 _) ((hO.sl.dropI k (by omega)).hashAt _ (by omega) (by omega))) ?_
    refine s1 (Af (by conv=>lhs;whnf)) ?_
    refine s1 (Af (by conv=>lhs;whnf)) ?_
    refine s1 (Dg rfl rfl (Am (by omega) (by omega))) ?_
    refine s1 (Cs u54 sz64 rfl rfl ((hO.sl.dropI k (by omega)).adr A5 (by omega)) (by omega) (by omega)) ?_
    refine s1 (Cb ua64 rfl (Gc sz64 _) ((hO.sl.dropI k (by omega)).hashAt _ (by omega) (by omega))) ?_
    refine s1 (M3 u64 u5 sz5 eg64 rfl rfl ((zs.drop k).getD _ default).2 ((zs.drop k).getD _ default).2) ?_
    refine Bx (t_n ?_)
    refine As rfl (fun hc44=>?_) (fun hc44=>?_)
    ·have hne:xs.getD (k+j) default≠xs.getD (k+j - 1) default:=fun e=>hc44 (by rw[show ((j:Int) - 1).toNat=j - 1 from by omega,Int.toNat_natCast,ez j (by omega),ez (j - 1) (by omega),show k+(j - 1)=k+j - 1 from by omega,e])
     have hcp:cpt xs (k+j+1)=cpt xs (k+j)++[xs.getD (k+j) default]:=Aey hne
     have ey:(zs.drop k).getD ((j:Int)).toNat default=xs.getD (k+j) default:=by rw[Int.toNat_natCast,ez j (by omega)]
     refine Ab (Aa ?_)
     refine pM (pM (pM (pM ?_)))
     refine p1 (Cs u54 sz64 rfl rfl ((hO.sl.dropI k (by omega)).adr A5 (by omega)) (by omega) (by omega)) ?_
     refine p1 (Cb ua64 rfl (Gc sz64 _) ((hO.sl.dropI k (by omega)).hashAt _ (by omega) (by omega))) ?_
     refine p1 (Cs u54 sz64 rfl rfl (hO.sl.adr A5 (by omega)) (by omega) (by omega)) ?_
     refine Y0 (d:=kHash) (i:=m) ((zs.drop k).getD ((j:Int)).toNat default) rfl rfl hO (by omega) rfl sz64 (Nat.zero_le _) (by decide) ?_
     intro w5 hO hM5
     have hX:=hX.mod hM5 (trivial)
     refine Ac (t_n (Aa ?_))
     refine pM ?_
     refine p1 (A0 rfl rfl (Am (by omega) (by omega))) ?_
     refine pA (Ac (b_n (t_n (Aa ?_))))
     refine pM ?_
     refine p1 (A0 rfl rfl (Am (by omega) (by omega))) ?_
     refine pA (Ac ?_)
     exact t_n (At.mk ((j+1,m+1,zs.set m ((zs.drop k).getD ((j:Int)).toNat default))) (by repeat (first | exact Agr.refl _ _ | exact Agr.hav _ _ _ | refine Agr.upd rfl ?_ | refine Agr.updR rfl ?_ | refine Agr.updL ?_ _ rfl | refine Agr.hav' rfl ?_)) ⟨rfl,rfl,trivial⟩ ⟨⟨hX,hO,by omega,by omega,by omega,by rw[← Nat.add_assoc,hcp,List.length_append,← hml];rfl,by rw[← Nat.add_assoc,hcp,ey,List.take_succ_eq_append_getElem (by rw[List.length_set];omega),List.getElem_set_self,List.take_set_of_le (Nat.le_refl _),hmt],by rw[List.drop_set_of_lt (by omega)];exact R5 hmd (by omega)⟩,by(dsimp only;omega)⟩)
    have heq:xs.getD (k+j) default=xs.getD (k+j - 1) default:=by
      have h1:=Subtype.ext (Classical.byContradiction hc44)
      rw[show ((j:Int) - 1).toNat=j - 1 from by omega,Int.toNat_natCast,ez j (by omega),ez (j - 1) (by omega),show k+(j - 1)=k+j - 1 from by omega] at h1
      exact h1
    have hcp:cpt xs (k+j+1)=cpt xs (k+j):=Ab2 (by omega) heq
    refine Ak (b_n (t_n (Aa ?_)))
    refine pM ?_
    refine p1 (A0 rfl rfl (Am (by omega) (by omega))) ?_
    refine pA (Ac ?_)
    exact t_n (aK ((j+1,m,zs)) ⟨rfl,rfl,trivial⟩ ⟨⟨hX,hO,by omega,by omega,by omega,by rw[← Nat.add_assoc,hcp];exact hml,by rw[← Nat.add_assoc,hcp];exact hmt,R5 hmd (by omega)⟩,by(dsimp only;omega)⟩)
   have hjj:k+j=n:=by omega
   have hlz:=hO.len
   rw[hjj] at hmt
   refine A8 (t_e (t_e (Bq (t_n (Ab (Aa ?_))))))
   refine pM (pM ?_)
   refine p1 (Bs u54 sz64 rfl rfl (by omega)) ?_
   refine Adb (d:=kHash) u54 inf64 rfl (by decide) A5 rfl hO (by omega) (Nat.zero_le _) (by decide) ?_
   intro w6 hO hM6
   have hX:=hX.mod hM6 (trivial)
   refine Ac (t_n (Ab (Aa ?_)))
   refine pM (pM ?_)
   refine p1 (Cv u54 sz64 rfl rfl (by omega)) ?_
   refine pA (Ac (t_n (Ao (b_r (t_r (t_r (b_r (t_r ?_))))))))
   refine eR1 ?_
   exact⟨m,by omega,rfl,(by rw[← hmt];exact hO),hX⟩
  have hq:xs.getD k default≠xs.getD (k - 1) default:=fun e=>hc25 (by rw[show ((k:Int) - 1).toNat=k - 1 from by omega,Int.toNat_natCast,e])
  refine Ak (b_n (t_n (Aa ?_)))
  refine pM ?_
  refine p1 (A0 rfl rfl (Am (by omega) (by omega))) ?_
  refine pA (Ac ?_)
  refine t_n (aK (k+1) ⟨rfl,trivial⟩ ?_)
  exact⟨⟨hWL0,⟨by omega,by omega,fun i h1 h2=>if h:i<k then hL i h1 h else by rw[show i=k from by omega];exact hq⟩⟩,by((show _<_);omega)⟩
 have hp:cpt xs n=xs:=by rw[L4 n (by omega) (fun i h1 h2=>hL i h1 (by omega)),List.take_of_length_le (by omega)]
 refine A8 (t_e (t_e (Bq (t_n (Ab (Aa ?_))))))
 refine pM (pA (Ac (t_n (Ao ?_))))
 refine eR1 ?_
 exact⟨n,Nat.le_refl _,rfl,(by rw[hp];exact hO),hX⟩
end Go.Proofs.Eng
end
section
set_option maxRecDepth 100000
set_option maxHeartbeats 4000000
namespace Go.Proofs.Eng
open Go.RowKit
open Extern.Stop (cell)
theorem Uu (xs:List Hash) (B:Nat) (p:Option Addr) (n c:Nat) (w:World) (hl:Sl kHash 64 B w p n c xs) (hs:n≤4194304000) :
    Ret Tryz.prog 39 [.slice p n c] w (fun v w'=>(∃ q m c',v = .slice q m c'∧m≤n∧Own kHash 64 0 w.heap.size w' q m c' (srt xs))∧Ext w w'):=by
 have hX:=Ext.refl w
 refine eN 10 Tryz.func39 ?_
 refine Ab (Aa ?_)
 refine pA (Ac (t_n (Ab (Aa ?_))))
 refine pM ?_
 refine oC Tryz.func88 (Lc xs B p n c _ (hl.ext hX) hs) ?_
 rintro v1 w1 ⟨⟨q,c1,rfl,hO⟩,hE1⟩
 have hX:=hX.ext hE1
 refine pA (Ac (t_n (Ab (Aa ?_))))
 refine pM ?_
 refine oC Tryz.func89 (I2 xs _ _ _ _ _ hO hs) ?_
 rintro v2 w2 ⟨ys,hO,hpm,hso,hM2⟩
 have hX:=hX.mod hM2 (Nat.le_refl _)
 refine Ac (t_n (Ab (Aa ?_)))
 refine pM ?_
 refine oC Tryz.func91 (Kj ys _ _ _ _ _ hO) ?_
 rintro v3 w3 ⟨m,hm,rfl,hO2,hM3⟩
 have hX:=hX.mod hM3 (Nat.le_refl _)
 refine pA (Ac (t_n (Ao ?_)))
 refine eR1 ?_
 exact⟨⟨_,_,_,rfl,hm,by rw[← Acv hpm hso hO.len];exact hO2⟩,hX⟩
end Go.Proofs.Eng
end
section
set_option maxRecDepth 100000
set_option maxHeartbeats 4000000
namespace Go.Proofs.Eng
open Go.RowKit
open Extern.Stop (cell)
theorem fb125:Tryz.f125.body.isNone=false:=by kernel_rfl
theorem fn125 : ngB Tryz.f125 = false := by kernel_rfl
theorem sz54:(Tryz.prog.info? 54).map (·.size)=some 1:=by kernel_rfl
theorem un54:(Tryz.prog.underlying 54).map TypeDesc.isRow=some false:=by kernel_rfl
end Go.Proofs.Eng
end
section
set_option maxRecDepth 100000
set_option maxHeartbeats 4000000
namespace Go.Proofs.Eng
open Go.RowKit
open Extern.Stop (cell)
theorem Y8 (r gb N0:Nat) (μ:Hash→Option R3) (hks:∀ vs:List Hash,vs.Nodup→(∀ z∈vs,μ z≠none)→vs.length≤N0) (B9:Nat) (E:List TypeId) (hE:tMap∉E∧tIter∉E) (l:Nat) (J Jx:List Hash→World→Prop) (w:World) (hM:Mp Dd vCh 0 0 w r μ) (hb:Blk w gb #[.map (some r)] 88) (hB9:B9≤w.heap.size)
    (hJ:Hd J (Mod B9 tIter) [] w) (hY:∀ pre x W1,J pre W1→pre.length<N0→YieldAt (fnc none) 0 Tryz.prog l (encH x).toArray W1 fun e W'=>(e = .returned (.bool true)∧J (pre++[x]) W'∧Rnd E W1 W')∨(e = .returned (.bool false)∧Jx (pre++[x]) W')) :
    Ret Tryz.prog 125 [.func (.yield l) #[] #[],.pointer (some ⟨gb,0,none⟩)] w (fun v w'=>(∃ xs,(fun xs:List Hash=>xs.Nodup∧∀ z,z∈xs↔μ z≠none) xs∧J xs w')∨(∃ pre,True∧Jx pre w')):=by
 have hX:=Tv.mk
 refine eN 14 Tryz.func125 ?_
 refine Ab (Aa ?_)
 refine p1 (Ae un88 rfl (hb.cell (rfl))) ?_
 refine Ss u88 rfl hM ?_
 intro w1 it5 hE1 hit5 hK5
 have hX:=hX.ext hE1
 have hJ:=hJ.ext hE1
 have hR:=hK5 B9 hB9
 refine Ac (t_n (Ap ?_))
 refine Bc (ι:=List Hash) ([3]++rg 6 8) (fun vs=>[]) (fun vs w'=>Tv∧(Hd J (Mod B9 tIter) vs w'∧Rg Dd vCh 0 B9 w' r it5 μ vs)) (fun vs=>N0 - vs.length) ([]) trivial ⟨hX,⟨hJ,hR⟩⟩ ?_
 rintro vs GL0 w2 ⟨hE2,hJ,hR⟩
 have hX:=hE2
 have hvl:=hks vs hR.nd hR.sub
 refine Ab (Aa ?_)
 refine Wi rfl hR (Nat.zero_le _) (by decide) (fun hdone6=>?_) (fun w3 a6 b6 v6 hna6 hmu6 hR hM3=>?_)
 ·skip
  refine p1 (Aj rfl rfl) ?_
  refine Ac (t_n (Ab ?_))
  refine c_f rfl ?_
  have hall:∀ z,z∈vs↔μ z≠none:=fun z=>⟨hR.sub z,hdone6 z⟩
  refine A8 (t_e (t_e (Bq ?_)))
  refine end0n rfl ?_
  exact .inl ⟨vs,⟨hR.nd,hall⟩,hJ.h⟩
 skip
 have hX:=Tv.mk
 have hJ:=hJ.rel hM3
 have hvl2:=hks _ hR.nd hR.sub
 simp only[List.length_append,List.length_cons,List.length_nil] at hvl2
 refine p1 (Aj rfl rfl) ?_
 refine Ac (t_n (Ab ?_))
 refine c_t rfl ?_
 refine Ak (t_n (Ap (Ab ?_)))
 obtain⟨b6,v6,hb6,hv6,hen6⟩:=hR.entry
 have hJ0:=hJ
 have hR0:=hR
 refine Aa ?_
 refine p1 (hen6 rfl) ?_
 refine p1 (Aj rfl rfl) ?_
 refine Ay zr64 ?_
 intro w4 g3 hN3
 have hE4:=hN3.ext
 have hX:=hX.ext hE4
 have hJ:=hJ.ext hE4
 have hR:=hR.ext hE4
 have hB3:=hN3.blk
 refine Al rfl rfl (E6 _) (C4 sz64 _) hB3 (Hi _) ?_
 intro w5 hP5
 have hX:=hX.put hP5 (True.intro)
 have hJ:=hJ0.ext (hN3.ext.put hP5 (by rw[hN3.g_eq];exact Nat.le_refl _))
 have hR:=hR0.ext (hN3.ext.put hP5 (by rw[hN3.g_eq];exact Nat.le_refl _))
 have hB3:=hP5.blk
 refine Ac (t_n (Ab ?_))
 refine Wf.toWp (P0 2 rfl ?_)
 refine pM ?_
 refine p1 (Aq ua64 rfl hB3 (C4 sz64 _)) ?_
 refine Ac (t_n ?_)
 refine Sr rfl rfl (hY vs a6 _ hJ.h (by omega)) (fun e w0 hr=>by rcases hr with ⟨h,_⟩ | ⟨h,_⟩ <;> exact⟨_,h⟩) ?_
 rintro v6 w6 (⟨hv6,hJ6,hRn6⟩ | ⟨hv6,hJx6⟩) <;> cases hv6
 ·skip
  have hR:=hR.rnd hRn6 hE rfl
  have hJ:Hd J (Mod B9 tIter) (vs++[a6]) _:=hJ.to hJ6
  refine Mv rfl ?_
  refine p1 (Ht rfl) ?_
  refine Ac (t_n (t_n ?_))
  refine c_f rfl ?_
  refine Ak (b_n ?_)
  refine t_n (aK (vs++[a6]) trivial ?_)
  exact⟨⟨hX,⟨hJ,hR⟩⟩,by show N0 - (vs++[a6]).length<N0 - vs.length;simp only[List.length_append,List.length_cons,List.length_nil];omega⟩
 skip
 have hJx:=hJx6
 refine Mv rfl ?_
 refine p1 (Ht rfl) ?_
 refine Ac (t_n (t_n ?_))
 refine c_t rfl ?_
 refine Ao (b_r (t_r (b_r ?_)))
 refine end0 rfl ?_
 exact .inr ⟨_,trivial,hJx⟩
theorem Y7 (r gb N0:Nat) (μ:Hash→Option R3) (hks:∀ vs:List Hash,vs.Nodup→(∀ z∈vs,μ z≠none)→vs.length≤N0) (w:World) (hM:Mp Dd vCh 0 0 w r μ) (hb:Blk w gb #[.map (some r)] 88) (E:List TypeId) (hE:tMap∉E∧tIter∉E) :
    SeqOk Tryz.prog 125 [.pointer (some ⟨gb,0,none⟩)] encH (Rnd E) (fun xs:List Hash=>xs.Nodup∧∀ z,z∈xs↔μ z≠none) (fun _=>True) (fun pre _ _=>pre.length<N0) (Mod w.heap.size tIter) w :=
  ⟨fun l J Jx W hx hJ hJx hY h0=>Calls.mono (Y8 r gb N0 μ hks w.heap.size E hE l J Jx W (hM.ext hx) (hb.ext hx) hx.size ⟨h0,hJ,fun _ _ h => .ofExt h⟩ (fun pre x W1 h1 h2=>hY pre x W1 h1 h2)).out
    fun e w' ⟨v,he,hr⟩=>⟨⟨v,he⟩,hr⟩⟩
theorem Wl (r gb N0:Nat) (μ:Hash→Option R3) (hks:∀ vs:List Hash,vs.Nodup→(∀ z∈vs,μ z≠none)→vs.length≤N0) (w:World) (hM:Mp Dd vCh 0 0 w r μ) :
    Ret Tryz.prog 80 [.map (some r)] w (fun v w'=>(∃ lb:List Value,v = .func (.func 125) #[] lb.toArray∧SeqOk Tryz.prog 125 lb encH (Rnd [54,64]) (fun xs:List Hash=>xs.Nodup∧∀ z,z∈xs↔μ z≠none) (fun _=>True) (fun pre _ _=>pre.length<N0) (Mod w'.heap.size tIter) w')∧Ext w w'):=by
 have hX:=Ext.refl w
 refine eN 4 Tryz.func80 ?_
 refine Ab (Aa ?_)
 refine D9 (by conv=>lhs;whnf) rfl ?_
 intro w1 g1 hN1
 have hE1:=hN1.ext
 have hX:=hX.ext hE1
 have hM:=hM.ext hE1
 have hB1:=hN1.blk
 refine pA (Ac (t_n (Ab (Aa ?_))))
 refine p1 (Ch (fs:=[]) (cs:=[.pointer (some ⟨g1,0,none⟩)]) rfl rfl) ?_
 refine pA (Ac (t_n (Ao ?_)))
 refine eR1 ?_
 exact⟨⟨_,rfl,Y7 r g1 N0 μ hks _ hM hB1 [54,64] (by decide)⟩,hX⟩
theorem W9 (lb:List Value) (N0:Nat) (Sq:List Hash→Prop) (hN:N0≤4194304) (w:World) (hSeq:SeqOk Tryz.prog 125 lb encH (Rnd [54,64]) Sq (fun _=>True) (fun pre _ _=>pre.length<N0) (Mod w.heap.size tIter) w) :
    Ret Tryz.prog 124 [.slice none 0 0,.func (.func 125) #[] lb.toArray] w (fun v w'=>(∃ (xs:List Hash) (q:Option Addr) (m c:Nat),Sq xs∧v = .slice q m c∧Own kHash 64 0 w.heap.size w' q m c xs)∧Ext w w'):=by
 have hX:=Ext.refl w
 refine Aby 13 _ Tryz.func124 rfl rfl (Nat.le_of_ble_eq_true rfl) rfl ?_
 refine Ab (Aa ?_)
 have hz2:=hX.size
 refine D9 (by conv=>lhs;whnf) rfl ?_
 intro w1 g2 hN2
 have hE1:=hN2.ext
 have hX:=hX.ext hE1
 have hB2:=hN2.blk
 have hq2:=hN2.g_eq
 refine pA (Ac (t_n (Ab (Ab (Aa ?_)))))
 refine pM (Ac (t_n (Ap ?_)))
 have hXr:=hX.size
 obtain⟨B0,hB0⟩:∃ b,b=w.heap.size:=⟨_,rfl⟩
 have hg2:=hN2.g_eq
 refine Afg (ps:=[7]) ([]) (fun pre W=>Ext w W∧∃ q m c,Blk W g2 #[.slice q m c] 54∧Own kHash 64 0 w.heap.size W q m c pre) (fun c pre W=>False) (fun _ _ h => .ofExt h) rfl rfl Tryz.func125 fn125 fb125 (fun _ _ h=>h.size) (fun _ _ h => .ofLp h) (fun _ _ _ h k=>h.trans k) (hSeq.ext hX) (fun _ _ _ _ h _=>h) (fun _ _ h => .ofExt h) (Adk _) (fun _=>rfl) (by rintro s A B ⟨h1,q,m,c,h2,h3⟩ x;exact⟨h1.mod x (by omega),q,m,c,h2.mod x (by decide),h3.mod x (Nat.zero_le _) (by decide)⟩) (by rintro s A B ⟨h1,q,m,c,h2,h3⟩ x;exact⟨h1.lp x hXr,q,m,c,h2.lp x,h3.lp x (Nat.zero_le _)⟩) (fun _ _ _ _ h _=>h) (fun _ _ _ _ h _=>h) (⟨hX,none,0,0,hB2,Own.nil _ _ _ _ _⟩) ?_ ?_ ?_
 ·intro l pre x W hsz hI hXx
  obtain⟨hX,q,m,c,hB2,hO⟩:=hI
  have hol:=hO.len
  have hXa:=Ext.refl W
  refine Is rfl ?_
  have hOlt0:=hO.below
  have hz5:=hX.size
  have hl5_2:=hB2.lt
  refine Ay zr64 ?_
  intro w3 g5 hN5
  have hE3:=hN5.ext
  have hX:=hX.ext hE3
  have hB2:=hB2.ext hE3
  have hO:=hO.ext hE3
  have hXa:=hXa.ext hE3
  have hB5:=hN5.blk
  have hq5:=hN5.g_eq
  have hOlt:q=none∨ab q<g5:=by rw[hN5.g_eq];exact hOlt0
  refine Al rfl rfl (E6 _) (C4 sz64 _) hB5 (Hi _) ?_
  intro w4 hP4
  have hX:=hX.put hP4 (by omega)
  have hB2:=hP4.keep hB2 (by omega)
  have hO:=hO.modB (hP4.mod g5 (Nat.le_refl _)) (Nat.zero_le _) (by decide) hOlt
  have hXa:=hXa.put hP4 (by omega)
  have hB5:=hP4.blk
  refine Ac (t_n ?_)
  refine t_n ⟨_,rfl,hXa,fun w5 hLp=>?_⟩
  have hX:=hX.lp hLp hXr
  have hB2:=hB2.lp hLp
  have hO:=hO.lp hLp (Nat.zero_le _)
  have hB5:=hB5.lp hLp
  have hR:=Rnd.refl [54,64] w5
  have hZ:=Nn.refl w5
  have hXs:=hX.size
  refine X3 ?_
  refine Is rfl ?_
  refine p1 (Ae un54 rfl (hB2.cell (rfl))) ?_
  refine p1 (Aq ua64 rfl hB5 (C4 sz64 _)) ?_
  refine Av u54 inf64 rfl (by decide) (fun base hb=>Ed [.agg (hv x)] (by intro v hv';simp only[List.mem_singleton] at hv';subst hv';simp[Value.cells,hv,Ec]) base hb) ?_
  intro w6 g10 hN10
  have hE6:=hN10.ext
  have hX:=hX.ext hE6
  have hB2:=hB2.ext hE6
  have hO:=hO.ext hE6
  have hR:=hR.ext hE6
  have hZ:=hZ.ext hE6
  have hJ:Own kHash 64 0 0 w6 (some ⟨g10,0,none⟩) 1 1 [x]:=B4 [x] hN10 (Nat.zero_le _) (by simp)
  have hB1:=hX.size
  have hXl:pre.length<N0:=hXx
  refine Az (d:=kHash) ([x]) u54 inf64 rfl A5 rfl rfl hO (Ba u54 hJ.sl (by decide)) rfl (Ca _ _ _) (rfl) (by omega) (by omega) (by omega) (by omega) (by decide) ?_
  intro p11 c11 w7 hO hM7
  have hX:=hX.mod hM7 (Nat.le_refl _)
  have hB2:=hB2.mod hM7 (by decide)
  have hR:=hR.mod hM7 (by decide)
  have hZ:=hZ.mod hM7 
  refine Aw rfl (by conv=>lhs;whnf) rfl rfl sz54 hB2 (by first | exact Nat.zero_lt_one | simp) ?_
  intro w8 hP8
  have hX:=hX.put hP8 (by omega)
  have hB2:=hP8.blk
  try simp only[List.setIfInBounds_toArray,List.set_cons_zero,List.set_cons_succ] at hB2
  have hR:=hR.put hP8 (by decide)
  have hZ:=hZ.put hP8
  have hO:=hO.mod (hP8.mod 0 (Nat.zero_le _)) (Nat.zero_le _) (by decide)
  refine Ac (t_n (b_n ?_))
  exact⟨hR,fun k hn hk=>hZ.old k hk hn,hX,_,_,_,hB2,hO⟩
 ·rintro D zs_ w2 hsz hS ⟨hX,q,m,c,hB2,hO⟩ hDf
  have hDs:Dfs w.heap.size w2 [D]:=(Dfs.nil _ _).cons hDf (Nat.le_trans hXr hsz) (by simp)
  refine b_n (t_n (Ab (Aa ?_)))
  refine p1 (Ae un54 rfl (hB2.cell (rfl))) ?_
  refine pA (Ac (t_n (Ao ?_)))
  exact end1M [D] rfl rfl rfl hDs fun wz hLz=>⟨⟨_,_,_,_,hS,rfl,hO.lp hLz (Nat.zero_le _)⟩,hX.lp hLz (Nat.le_refl _)⟩
 intro D c pre W hsz hSp hx hDf
 exact hx.elim
end Go.Proofs.Eng
end
section
set_option maxRecDepth 100000
set_option maxHeartbeats 4000000
namespace Go.Proofs.Eng
open Go.RowKit
open Extern.Stop (cell)
theorem u30:Tryz.prog.underlying 30=some (.pointer 91):=by kernel_rfl
end Go.Proofs.Eng
end
section
set_option maxRecDepth 100000
set_option maxHeartbeats 4000000
namespace Go.Proofs.Eng
open Go.RowKit
open Extern.Stop (cell)
theorem Ab4 (lb:List Value) (N0:Nat) (Sq:List Hash→Prop) (hN:N0≤4194304) (w:World) (hSeq:SeqOk Tryz.prog 125 lb encH (Rnd [54,64]) Sq (fun _=>True) (fun pre _ _=>pre.length<N0) (Mod w.heap.size tIter) w) :
    Ret Tryz.prog 79 [.func (.func 125) #[] lb.toArray] w (fun v w'=>(∃ (xs:List Hash) (q:Option Addr) (m c:Nat),Sq xs∧v = .slice q m c∧Own kHash 64 0 w.heap.size w' q m c xs)∧Ext w w'):=by
 have hX:=Ext.refl w
 refine eN 5 Tryz.func79 ?_
 refine Ab (Aa ?_)
 refine pA (Ac (t_n (Ab (Aa ?_))))
 refine pM ?_
 refine oC Tryz.func124 (W9 lb N0 Sq hN _ hSeq) ?_
 rintro v1 w1 ⟨⟨xs,q,m,c,hS,rfl,hO⟩,hE1⟩
 have hX:=hX.ext hE1
 refine pA (Ac (t_n (Ao ?_)))
 refine eR1 ?_
 exact⟨⟨xs,q,m,c,hS,rfl,hO⟩,hX⟩
theorem H4 {S:Nat→Prop} {w:World} {μ:Hash→Option R3} {L:List By} (h:Chs S w μ L):∀ vs:List Hash,vs.Nodup→(∀ z∈vs,μ z≠none)→vs.length≤L.length:=fun vs h1 h2=>by
  have:=Uk h1 (ks:=L.map shaF) fun z hz=>by
    have h3:=h2 z hz
    rw[Ne,h.iff z] at h3
    obtain⟨c,hc⟩:=Option.ne_none_iff_exists'.1 h3
    obtain⟨e,hm⟩:=Ly hc
    exact List.mem_map.2 ⟨c,hm,e⟩
  rwa [List.length_map] at this
theorem Aba {S:Nat→Prop} {w:World} {μ:Hash→Option R3} {L:List By} (h:Chs S w μ L) {xs:List Hash} (hx:∀ z,z∈xs↔μ z≠none):srt xs=srt (L.map shaF) :=
  Aab (T1 xs) fun z=>by
    rw[mem_srt,hx,Ne,h.iff z,← Ne,List.mem_map]
    constructor
    · intro hne
      obtain⟨c,hc⟩:=Option.ne_none_iff_exists'.1 hne
      obtain⟨e,hm⟩:=Ly hc
      exact⟨c,hm,e⟩
    · rintro ⟨c, hm, e⟩ hn
      exact Lz.1 hn c hm e
theorem Ou (g gd r:Nat) (S Sd:Nat→Prop) (μ:Hash→Option R3) (pi nx:Option Addr) (ni ci:Nat) (C:CS) (k:Nat) (w:World) (hCX:CstX S Sd w g gd r μ pi ni ci nx C) (hn:CN C k) :
    Ret Tryz.prog 15 [.pointer (some ⟨g,0,none⟩)] w (fun v w'=>v = .int .i64 (C.size:Int)∧Ext w w'):=by
 have hb:=hCX.b
 have hM:=hCX.m
 have hC:=hCX.c
 have hI:=hCX.i
 have hX:=Ext.refl w
 refine eN 9 Tryz.func15 ?_
 refine Ab (Aa ?_)
 refine pA (Ac (t_n (Ab (Ab (Aa ?_)))))
 refine pM ?_
 refine p1 ((Cc u30 rfl rfl).cast (congrArg _ (decide_eq_false (by simp)))) ?_
 refine Ac (t_n ?_)
 refine c_f rfl ?_
 refine Ak (t_n (Ab (Aa ?_)))
 refine pM ?_
 refine p1 (Ag rfl) ?_
 refine p1 (Ad E1 sz3 rfl) ?_
 refine p1 (Ae un3 rfl (hb.cell (rfl))) ?_
 refine pA (Ac (t_n (Ao ?_)))
 refine eR1 ?_
 exact⟨rfl,hX⟩
theorem M9 (g gd r:Nat) (S Sd:Nat→Prop) (μ:Hash→Option R3) (pi nx:Option Addr) (ni ci:Nat) (C:CS) (k:Nat) (w:World) (hCX:CstX S Sd w g gd r μ pi ni ci nx C) (hn:CN C k) :
    Ret Tryz.prog 31 [.pointer (some ⟨g,0,none⟩)] w (fun v w'=>(∃ q n c,v = .slice q n c∧Own kByte 5 0 w.heap.size w' q n c C.index)∧Ext w w'):=by
 have hb:=hCX.b
 have hM:=hCX.m
 have hC:=hCX.c
 have hI:=hCX.i
 have hX:=Ext.refl w
 refine eN 10 Tryz.func31 ?_
 refine Ab (Aa ?_)
 refine pA (Ac (t_n (Ab (Ab (Aa ?_)))))
 refine pM ?_
 refine p1 ((Cc u30 rfl rfl).cast (congrArg _ (decide_eq_false (by simp)))) ?_
 refine Ac (t_n ?_)
 refine c_f rfl ?_
 refine Ak (t_n (Ab (Aa ?_)))
 refine pM ?_
 refine p1 (Ag rfl) ?_
 refine p1 (Ad Mq sz23 rfl) ?_
 refine p1 (Ae un23 rfl (hb.cell (rfl))) ?_
 refine oC Tryz.func58 (Cp _ _ _ _ _ _ _ hI.sl (by have:=hI.len;have:=hn.ix;omega)) ?_
 rintro v1 w1 ⟨⟨q4,c4,rfl,hO⟩,hE1⟩
 have hX:=hX.ext hE1
 refine pA (Ac (t_n (Ao ?_)))
 refine eR1 ?_
 exact⟨⟨_,_,_,rfl,hO⟩,hX⟩
theorem Yl (g gd r:Nat) (S Sd:Nat→Prop) (μ:Hash→Option R3) (pi nx:Option Addr) (ni ci:Nat) (C:CS) (k:Nat) (w:World) (hCX:CstX S Sd w g gd r μ pi ni ci nx C) (hn:CN C k) (h:Hash) :
    Ret Tryz.prog 28 [.pointer (some ⟨g,0,none⟩),.agg (hv h)] w (fun v w'=>(∃ q n c e,v = .tuple #[.slice q n c,.int .i64 e]∧((e=22∧findF C.L h=none)∨(e=0∧∃ x,findF C.L h=some x∧Own kByte 5 0 w.heap.size w' q n c x)))∧Ext w w'):=by
 have hb:=hCX.b
 have hM:=hCX.m
 have hC:=hCX.c
 have hI:=hCX.i
 have hX:=Ext.refl w
 refine eN 24 Tryz.func28 ?_
 refine Ab (Aa ?_)
 refine Bu (by conv=>lhs;whnf) ?_
 intro w1 g3 hN3
 have hE1:=hN3.ext
 have hX:=hX.ext hE1
 have hb:=hb.ext hE1
 have hM:=hM.ext hE1
 have hC:=hC.ext hE1
 have hB3:=hN3.blk
 refine pA (pA (Ac (t_n (Ab (Ap (Ab (Aa ?_)))))))
 refine pM ?_
 refine p1 ((Cc u30 rfl rfl).cast (congrArg _ (decide_eq_false (by simp)))) ?_
 refine pA (Ac (t_n ?_))
 refine c_f (rfl) ?_
 refine Ab ?_
 refine Cy mixed (by kernel_rfl) ?_
 intro w2 hE2
 have hX:=hX.ext hE2
 have hb:=hb.ext hE2
 have hM:=hM.ext hE2
 have hC:=hC.ext hE2
 have hB3:=hB3.ext hE2
 refine s1 (Af (by conv=>lhs;whnf)) ?_
 refine s1 (Ag rfl) ?_
 refine s1 (Ad Hq sz88 rfl) ?_
 refine s1 (Ae un88 rfl (hb.cell (rfl))) ?_
 refine s1 (Aq ua64 rfl hB3 (C4 sz64 _)) ?_
 obtain⟨⟨p0,n0,c0⟩,hr0⟩:∃ x:R3,x=(μ h).getD r30:=⟨_,rfl⟩
 obtain⟨hC0a,hC0b⟩:=hC.get h
 rw[← hr0] at hC0a hC0b
 simp only at hC0a hC0b
 refine s1 (((lookC u88 zr23 (Es u64 u5 sz5) hM h rfl rfl)).cast (by rw[← hr0];rfl:r3V _=Value.slice p0 n0 c0)) ?_
 refine s1 (E4 u23 rfl rfl) ?_
 refine s1 (Ah (by conv=>lhs;whnf)) ?_
 refine Bx (t_n ?_)
 refine As rfl (fun hc9=>?_) (fun hc9=>?_)
 ·have hnn:=hC0a.1 hc9
  refine Ab (Aa ?_)
  refine pA (pA (Ac (t_n (Ao (b_r (t_r ?_))))))
  refine eR2 ?_
  exact⟨⟨none,0,0,22,rfl,.inl ⟨rfl,hnn⟩⟩,hX⟩
 obtain⟨x,hx⟩:=Option.ne_none_iff_exists'.1 (fun e=>hc9 (hC0a.2 e))
 refine Ak (b_n (t_n (Ab ?_)))
 refine Cx 6 mixed (by kernel_rfl) ?_
 intro w3 hE3
 have hX:=hX.ext hE3
 have hb:=hb.ext hE3
 have hM:=hM.ext hE3
 have hC:=hC.ext hE3
 have hB3:=hB3.ext hE3
 refine s1 (Af (by conv=>lhs;whnf)) ?_
 refine s1 (Ag rfl) ?_
 refine s1 (Ad Hq sz88 rfl) ?_
 refine s1 (Ae un88 rfl (hb.cell (rfl))) ?_
 refine s1 (Aq ua64 rfl hB3 (C4 sz64 _)) ?_
 obtain⟨⟨p9,n9,c9⟩,hr9⟩:∃ x:R3,x=(μ h).getD r30:=⟨_,rfl⟩
 obtain⟨hC9a,hC9b⟩:=hC.get h
 rw[← hr9] at hC9a hC9b
 simp only at hC9a hC9b
 have hxl:=hC9b.len
 have hfl:∀ x,findF C.L h=some x→x.length≤1048576:=fun x hx=>hn.cl x (Ly hx).2
 have hXq:=hX.size
 refine s1 (((lookC u88 zr23 (Es u64 u5 sz5) hM h rfl rfl)).cast (by rw[← hr9];rfl:r3V _=Value.slice p9 n9 c9)) ?_
 refine Bx ?_
 refine oC Tryz.func58 (Cp _ _ _ _ _ _ _ hC9b.sl (by rw[hx] at hxl;have:=hfl x hx;simp only[Option.getD_some] at hxl;omega)) ?_
 rintro v4 w4 ⟨⟨q4,c4,rfl,hO⟩,hE4⟩
 have hX:=hX.ext hE4
 refine pA (pA (Ac (t_n (Ao ?_))))
 refine eR2 ?_
 (rw[hx] at hO;exact⟨⟨_,_,_,0,rfl,.inr ⟨rfl,x,hx,hO.lower hXq⟩⟩,hX⟩)
theorem Ov (g gd r:Nat) (S Sd:Nat→Prop) (μ:Hash→Option R3) (pi nx:Option Addr) (ni ci:Nat) (C:CS) (k:Nat) (w:World) (hCX:CstX S Sd w g gd r μ pi ni ci nx C) (hn:CN C k) :
    Ret Tryz.prog 30 [.pointer (some ⟨g,0,none⟩)] w (fun v w'=>(∃ q m c,v = .slice q m c∧Own kHash 64 0 w.heap.size w' q m c (srt (C.L.map shaF)))∧Ext w w'):=by
 have hb:=hCX.b
 have hM:=hCX.m
 have hC:=hCX.c
 have hI:=hCX.i
 have hX:=Ext.refl w
 refine eN 12 Tryz.func30 ?_
 refine Ab (Aa ?_)
 refine pA (Ac (t_n (Ab (Ab (Aa ?_)))))
 refine pM ?_
 refine p1 ((Cc u30 rfl rfl).cast (congrArg _ (decide_eq_false (by simp)))) ?_
 refine Ac (t_n ?_)
 refine c_f rfl ?_
 refine Ak (t_n (Ab (Aa ?_)))
 refine pM ?_
 refine p1 (Ag rfl) ?_
 refine p1 (Ad Hq sz88 rfl) ?_
 refine p1 (Ae un88 rfl (hb.cell (rfl))) ?_
 refine oC Tryz.func80 (Wl r 0 C.L.length μ (H4 hC) _ hM) ?_
 rintro v1 w1 ⟨⟨lb,rfl,hSq⟩,hE1⟩
 have hX:=hX.ext hE1
 refine oC Tryz.func79 (Ab4 lb C.L.length _ hn.ln _ hSq) ?_
 rintro v2 w2 ⟨⟨xs,q5,m5,c5,⟨hnd,hxs⟩,rfl,hO⟩,hE2⟩
 have hX:=hX.ext hE2
 have hml:=hO.len
 have hxl:=H4 hCX.c xs hnd (fun z hz=>(hxs z).1 hz)
 have hln:=hn.ln
 have hXq:=hX.size
 refine oC Tryz.func39 (Uu xs _ _ _ _ _ hO.sl (by omega)) ?_
 rintro v3 w3 ⟨⟨q6,m6,c6,rfl,hm6,hR⟩,hE3⟩
 have hX:=hX.ext hE3
 rw[Aba hCX.c hxs] at hR
 have hR:=hR.lower hXq
 refine pA (Ac (t_n (Ao ?_)))
 refine eR1 ?_
 exact⟨⟨_,_,_,rfl,hR⟩,hX⟩
theorem J6 (r r2 N0:Nat) (μ μ2:Hash→Option R3) (w:World) (hM:Mp Dd vCh 0 0 w r μ) (hM2:Mp Dd vCh 0 0 w r2 μ2) (hne:r2≠r) (hks:∀ vs:List Hash,vs.Nodup→(∀ z∈vs,μ2 z≠none)→vs.length≤N0) :
    Ret Tryz.prog 59 [.map (some r),.map (some r2)] w (fun v w'=>Mp Dd vCh 0 0 w' r (fun k=>(μ2 k).or (μ k))∧ModS (fun j=>j=r) [tMap] w w'):=by
 have hX:=ModS.refl (fun j=>j=r) [tMap] w
 refine eN 16 Tryz.func59 ?_
 refine Ab (Aa ?_)
 refine pM ?_
 have hXs:=hX.size
 refine Ss u88 rfl hM2 ?_
 intro w1 it7 hE1 hit7 hK7
 have hX:=hX.ext hE1
 have hM:=hM.ext hE1
 have hR:=hK7 w.heap.size hXs
 refine Ac (t_n (Ap ?_))
 refine Bc (ι:=List Hash) ([4,5]++rg 8 8) (fun vs=>[]) (fun vs w'=>ModS (fun j=>j=r) [tMap] w w'∧(Rg Dd vCh 0 w.heap.size w' r2 it7 μ2 vs∧Mp Dd vCh 0 0 w' r (fun k=>if k∈vs then (μ2 k).or (μ k) else μ k))) (fun vs=>N0 - vs.length) ([]) trivial ⟨hX,⟨hR,hM.congr (fun k=>by simp)⟩⟩ ?_
 rintro vs GL0 w2 ⟨hE2,hR,hM⟩
 have hX:=hE2
 have hvl:=hks vs hR.nd hR.sub
 refine Ab (Aa ?_)
 refine Wi rfl hR (Nat.zero_le _) (by decide) (fun hdone8=>?_) (fun w3 a8 b8 v8 hna8 hmu8 hR hM3=>?_)
 ·skip
  refine p1 (Aj rfl rfl) ?_
  refine Ac (t_n (Ab ?_))
  refine c_f rfl ?_
  have hM:=hM.congr (μ':=fun k=>(μ2 k).or (μ k)) (fun k=>by
    by_cases e:k∈vs
    · simp[e]
    · have : μ2 k = none := Classical.byContradiction fun h => e (hdone8 k h)
      simp[e,this])
  refine A8 (t_e (t_e (Bq ?_)))
  refine end0n rfl ?_
  exact⟨hM,hX⟩
 skip
 have hX:=hX.mod hM3 (Nat.le_refl _)
 have hM:=hM.mod hM3 (Nat.zero_le _) (by decide)
 have hvl2:=hks _ hR.nd hR.sub
 simp only[List.length_append,List.length_cons,List.length_nil] at hvl2
 refine p1 (Aj rfl rfl) ?_
 refine Ac (t_n (Ab ?_))
 refine c_t rfl ?_
 refine Ak (t_n (Ap (Ab ?_)))
 obtain⟨b8,v8,hb8,hv8,hen8⟩:=hR.entry
 have hv8:v8=r3V b8:=hv8
 subst hv8
 refine Aa ?_
 refine p1 (hen8 rfl) ?_
 refine p1 (Aj rfl rfl) ?_
 refine p1 (Aj rfl rfl) ?_
 have hz4:=hX.size
 refine Ay zr64 ?_
 intro w4 g4 hN4
 have hE4:=hN4.ext
 have hX:=hX.ext hE4
 have hM:=hM.ext hE4
 have hR:=hR.ext hE4
 have hB4:=hN4.blk
 have hq4:=hN4.g_eq
 refine Al rfl rfl (E6 _) (C4 sz64 _) hB4 (Hi _) ?_
 intro w5 hP5
 have hX:=hX.new hP5 (by omega)
 have hM:=hM.mod (hP5.mod 0 (Nat.zero_le _)) (Nat.zero_le _) (by decide)
 have hR:=hR.mod (hP5.mod 0 (Nat.zero_le _)) (Nat.zero_le _) (by decide)
 have hB4:=hP5.blk
 refine pA (Ac (t_n (Aa ?_)))
 refine pM ?_
 refine p1 (Aq ua64 rfl hB4 (C4 sz64 _)) ?_
 refine pM ?_
 have hMt6:=hM.tyOf
 refine Fs (a:=a8) (b:=b8) u88 (Es u64 u5 sz5) rfl rfl rfl hM rfl (Nat.zero_le _) (by decide) ?_
 intro w6 hM hMm6 hne6
 have hO16:=One.ofMod hMm6 hMt6 hne6
 have hX:=hX.one hO16 ⟨.inl rfl,by simp⟩
 have hR:=hR.other hO16 hne rfl
 have hM:=hM.congr (μ':=fun k=>if k∈vs++[a8] then (μ2 k).or (μ k) else μ k) (fun k=>by
   unfold mset
   by_cases e:k=a8
   · subst e;simp[hb8]
   · simp[e])
 refine Ac (b_n ?_)
 refine t_n (aK (vs++[a8]) trivial ?_)
 exact⟨⟨hX,⟨hR,hM⟩⟩,by show N0 - (vs++[a8]).length<N0 - vs.length;simp only[List.length_append,List.length_cons,List.length_nil];omega⟩
end Go.Proofs.Eng
end
section
set_option maxRecDepth 100000
set_option maxHeartbeats 4000000
namespace Go.Proofs.Eng
open Go.RowKit
open Extern.Stop (cell)
theorem Ir:A3 Tryz.prog 91 5=some (89,5):=by kernel_rfl
theorem Gd:A3 Tryz.prog 91 6=some (4,6):=by kernel_rfl
theorem sz89:(Tryz.prog.info? 89).map (·.size)=some 1:=by kernel_rfl
end Go.Proofs.Eng
end
section
set_option maxRecDepth 100000
set_option maxHeartbeats 4000000
namespace Go.Proofs.Eng
open Go.RowKit
open Extern.Stop (cell)
theorem fb53:Tryz.f53.body.isNone=false:=by kernel_rfl
theorem fb55:Tryz.f55.body.isNone=false:=by kernel_rfl
theorem fb56:Tryz.f56.body.isNone=false:=by kernel_rfl
theorem fn53 : ngB Tryz.f53 = false := by kernel_rfl
theorem fn55 : ngB Tryz.f55 = false := by kernel_rfl
theorem fn56 : ngB Tryz.f56 = false := by kernel_rfl
theorem zr9:(Tryz.prog.info? 9).map (·.zero)=some (some (.string ByteArray.empty)):=by kernel_rfl
end Go.Proofs.Eng
end
section
set_option maxRecDepth 100000
set_option maxHeartbeats 4000000
namespace Go.Proofs.Eng
open Go.RowKit
open Extern.Stop (cell)
theorem Ae9 (p:Option Addr) (n c:Nat) (w:World) :
    Ret Tryz.prog 53 [.slice p n c] w (fun v w'=>v = .bool (decide (1048576<n))∧Ext w w'):=by
 have hX:=Ext.refl w
 refine eN 6 Tryz.func53 ?_
 refine Ab (Aa ?_)
 refine pA (Ac (t_n (Ab (Aa ?_))))
 refine pM ?_
 refine p1 (Ar u23 rfl) ?_
 refine p1 (Cw rfl rfl) ?_
 refine pA (Ac (t_n (Ao ?_)))
 refine eR1 ?_
 exact⟨congrArg Value.bool (decide_eq_decide.2 (by omega)),hX⟩
theorem Wr (xss:List By) (B:Nat) (p:Option Addr) (n c:Nat) (w:World) (hl:Sl (kSl kByte 5) 23 B w p n c xss) :
    Ret Tryz.prog 103 [.slice p n c,.func (.func 53) #[] #[]] w (fun v w'=>(∃ i:Int,v = .int .i64 i∧(0≤i↔∃ x∈xss,1048576<x.length))∧Ext w w'):=by
 have hX:=Ext.refl w
 refine eN 19 Tryz.func103 ?_
 refine Ab (Aa ?_)
 refine pA (Ac (t_n (Ab (Ab (Aa ?_)))))
 refine pM ?_
 refine p1 (Ar u22 rfl) ?_
 refine pM (Ac (t_n (Ap ?_)))
 have hWL0:=Ext.refl w
 have hlen:=hl.len
 have hcap:=hl.cap
 have hfit:=hl.fit
 refine Bc (ι:=Nat) ([4,5]++rg 8 11) (fun k=>[(8,.int .i64 (k:Int))]) (fun k w'=>Ext w w'∧(k≤n∧∀ i,i<k→(xss.getD i []).length≤1048576)) (fun k=>n - k) (0) ⟨rfl,trivial⟩ ⟨Ext.refl _,by omega,fun i hi=>by omega⟩ ?_
 rintro k GL0 w1 ⟨hE1,hk,hL⟩
 have hX:=hX.ext hE1
 have hWL0:=hE1
 refine Ab (Aa ?_)
 refine p1 (Bi rfl rfl) ?_
 refine Ac (t_n (Ab ?_))
 refine As rfl (fun hc9=>?_) (fun hc9=>?_)
 ·refine Ak (t_n (Ab (Ap (Ab (Aa ?_)))))
  refine pM (pA (Ac (t_n (Ab ?_))))
  obtain⟨qk,mk,ck,hck,hrow⟩:=(hl.ext hX).slAt k (by omega)
  have hrl:=hrow.len
  refine Aa ?_
  refine pM (pM (pM ?_))
  refine p1 (Cr (i:=k) u22 sz23 rfl rfl ((hl.ext hX).adr J9 (by omega)) (by omega)) ?_
  refine p1 (Ae un23 rfl hck) ?_
  refine Li (fs:=[]) (cs:=[]) rfl Tryz.func53 fn53 fb53 rfl rfl (Ae9 _ _ _ _) ?_
  rintro v2 w2 ⟨rfl,hE2⟩
  have hX:=hX.ext hE2
  have hWL0:=hWL0.ext hE2
  refine Ac (t_n ?_)
  refine As rfl (fun hc16=>?_) (fun hc16=>?_)
  ·have hex:∃ x∈xss,1048576<x.length:=⟨_,Dq (z:=[]) (i:=k) (by omega) rfl,by omega⟩
   refine Ab (Aa ?_)
   refine pM (pA (Ac (t_n (Ao (b_r (t_r (t_r (b_r (t_r ?_)))))))))
   refine eR1 ?_
   exact⟨⟨_,rfl,⟨fun _=>hex,fun _=>by omega⟩⟩,hX⟩
  refine Ak (b_n (t_n (Aa ?_)))
  refine p1 (A0 rfl rfl (Am (by omega) (by omega))) ?_
  refine pM (Ac ?_)
  refine t_n (aK (k+1) ⟨rfl,trivial⟩ ?_)
  exact⟨⟨hWL0,by omega,fun i hi=>if h:i<k then hL i h else by rw[show i=k from by omega];omega⟩,by((show _<_);omega)⟩
 refine A8 (t_e (t_e (Bq (t_n (Ab (Aa ?_))))))
 refine pA (Ac (t_n (Ao ?_)))
 refine eR1 ?_
 exact⟨⟨_,rfl,⟨fun h=>absurd h (by omega),fun ⟨x,hx,h⟩=>by
   obtain⟨i,hi,e⟩:=List.mem_iff_getElem.1 hx
   have:=hL i (by omega)
   rw[List.getD_eq_getElem?_getD,List.getElem?_eq_getElem hi,Option.getD_some,e] at this
   omega⟩⟩,hX⟩
theorem Qm (xss:List By) (B:Nat) (p:Option Addr) (n c:Nat) (w:World) (hl:Sl (kSl kByte 5) 23 B w p n c xss) :
    Ret Tryz.prog 52 [.slice p n c,.func (.func 53) #[] #[]] w (fun v w'=>v = .bool (decide (∃ x∈xss,1048576<x.length))∧Ext w w'):=by
 have hX:=Ext.refl w
 refine eN 9 Tryz.func52 ?_
 refine Ab (Aa ?_)
 refine pA (Ac (t_n (Ab (Aa ?_))))
 refine pM (pM ?_)
 refine oC Tryz.func103 (Wr xss B _ _ _ _ (hl.ext hX)) ?_
 rintro v1 w1 ⟨⟨i,rfl,hi⟩,hE1⟩
 have hX:=hX.ext hE1
 refine p1 (M4 rfl rfl) ?_
 refine pA (Ac (t_n (Ao ?_)))
 refine eR1 ?_
 exact⟨congrArg Value.bool (decide_eq_decide.2 hi),hX⟩
theorem Ae8 (gd:Nat) (S:Nat→Prop) (D:DS) (w:World) (hD:Dsk S w gd D) (hok:DOk D) (hst:D.steps<4611686018427387904) (hle:D.left≤9223372036854775807) (hnm:∀ x∈D.l,Bg x.1=true) (b0 b1 gs:Nat) (cs:Array Value) (nm:ByteArray) (hnz:nm.size≤9223372036854775807) (hb0:Blk w b0 #[.pointer (some ⟨gs,0,none⟩)] 30) (hs:Blk w gs cs 91) (hs0:cs[0]? = some (.pointer (some ⟨gd,0,none⟩))) (hb1:Blk w b1 #[.string nm] 9) (b2 e B:Nat) (p:Option Addr) (n c:Nat) (ys:By) (hb2:Blk w b2 #[.slice p n c] 23) (hl:Sl kByte e B w p n c ys) :
    Ret Tryz.prog 55 [.pointer (some ⟨b0,0,none⟩),.pointer (some ⟨b1,0,none⟩),.pointer (some ⟨b2,0,none⟩)] w (fun v w'=>v = .int .i64 (Bm D nm ys).2∧Dsk (grow S w w') w' gd (Bm D nm ys).1∧ModS S ED w w'):=by
 have hX:=Ext.refl w
 refine eN 11 Tryz.func55 ?_
 refine Ab (Aa ?_)
 refine pA (Ac (t_n (Ab ?_)))
 refine Cx 6 mixed (by kernel_rfl) ?_
 intro w1 hE1
 have hX:=hX.ext hE1
 have hD:=hD.ext hE1
 have hb0:=hb0.ext hE1
 have hb1:=hb1.ext hE1
 have hs:=hs.ext hE1
 have hb2:=hb2.ext hE1
 have hl:=hl.ext hE1
 refine s1 (Ae un30 rfl (hb0.cell (rfl))) ?_
 refine s1 (Ag rfl) ?_
 refine s1 (Ad Ea sz34 rfl) ?_
 refine s1 (Ae un34 rfl (hs.cell (hs0))) ?_
 refine s1 (Ae un9 rfl (hb1.cell (rfl))) ?_
 refine s1 (Ae un23 rfl (hb2.cell (rfl))) ?_
 refine Bx ?_
 have hXs:=hX.size
 refine oC Tryz.func19 (Jj gd S D _ hD hok hst hle nm hnz e B _ _ _ _ hl) ?_
 rintro v2 w2 ⟨rfl,hD2,hM2⟩
 refine pA (Ac (t_n (Ao ?_)))
 refine eR1 ?_
 exact⟨rfl,hD2.wide hXs,(ModS.ofExt hX).trans hM2 (fun _ _ h=>h)⟩
theorem Ae7 (gd:Nat) (S:Nat→Prop) (D:DS) (w:World) (hD:Dsk S w gd D) (hok:DOk D) (hst:D.steps<4611686018427387904) (hle:D.left≤9223372036854775807) (hnm:∀ x∈D.l,Bg x.1=true) (b0 b1 gs:Nat) (cs:Array Value) (nm:ByteArray) (hnz:nm.size≤9223372036854775807) (hb0:Blk w b0 #[.pointer (some ⟨gs,0,none⟩)] 30) (hs:Blk w gs cs 91) (hs0:cs[0]? = some (.pointer (some ⟨gd,0,none⟩))) (hb1:Blk w b1 #[.string nm] 9) :
    Ret Tryz.prog 56 [.pointer (some ⟨b0,0,none⟩),.pointer (some ⟨b1,0,none⟩)] w (fun v w'=>v = .int .i64 (syncD D nm).2∧Dsk (grow S w w') w' gd (syncD D nm).1∧ModS S ED w w'):=by
 have hX:=Ext.refl w
 refine eN 9 Tryz.func56 ?_
 refine Ab (Aa ?_)
 refine pA (Ac (t_n (Ab ?_)))
 refine Cx 5 mixed (by kernel_rfl) ?_
 intro w1 hE1
 have hX:=hX.ext hE1
 have hD:=hD.ext hE1
 have hb0:=hb0.ext hE1
 have hb1:=hb1.ext hE1
 have hs:=hs.ext hE1
 refine s1 (Ae un30 rfl (hb0.cell (rfl))) ?_
 refine s1 (Ag rfl) ?_
 refine s1 (Ad Ea sz34 rfl) ?_
 refine s1 (Ae un34 rfl (hs.cell (hs0))) ?_
 refine s1 (Ae un9 rfl (hb1.cell (rfl))) ?_
 refine Bx ?_
 have hXs:=hX.size
 refine oC Tryz.func20 (Mx gd S D _ hD hok hst hle nm hnz) ?_
 rintro v2 w2 ⟨rfl,hD2,hM2⟩
 refine pA (Ac (t_n (Ao ?_)))
 refine eR1 ?_
 exact⟨rfl,hD2.wide hXs,(ModS.ofExt hX).trans hM2 (fun _ _ h=>h)⟩
end Go.Proofs.Eng
end
section
set_option maxRecDepth 100000
set_option maxHeartbeats 4000000
namespace Go.Proofs.Eng
open Go.RowKit
open Extern.Stop (cell)
end Go.Proofs.Eng
end
section
namespace Go.Proofs.Eng
open Go.RowKit
open Extern.Stop (cell)
set_option maxRecDepth 100000
set_option maxHeartbeats 4000000
def KeyE (L H:List By):Prop:=∀ z,z∈L.map shaF↔z∈H.map shaF
theorem KeyE.trans {A B D:List By} (h:KeyE A B) (h2:KeyE B D):KeyE A D:=fun z=>(h z).trans (h2 z)
theorem KeyE.symm {A B:List By} (h:KeyE A B):KeyE B A:=fun z=>(h z).symm
theorem Ext.someSize {a b:World} (_:Ext a b):∃ z,z=a.heap.size:=⟨_,rfl⟩
section
variable {S Sd : Nat → Prop} {w w' : World} {g gd r B : Nat} {μ : Hash → Option R3} {pi nx : Option Addr} {ni ci : Nat} {C : CS} {t : TypeId}
theorem Nxt.mod {o:Option (List Hash×Nat)} (h:Nxt S Sd w r nx o) (m:Mod B t w w') (h1:t≠tNxt) (h2:t≠tMap):Nxt S Sd w' r nx o:=by
  cases o with
  | none=>exact h
  | some gz =>
    obtain⟨gn,rn,a,b,c,d⟩:=h
    exact⟨gn,rn,a,b.mod m (fun e=>h1 e.symm),c.mod m (Nat.zero_le _) (by simp[vBool,h2]),d⟩
theorem CstX.modT (h:CstX S Sd w g gd r μ pi ni ci nx C) (m:Mod B t w w') (ht:t∉[tDisk,tMap,5,tSto,tNxt]):CstX S Sd w' g gd r μ pi ni ci nx C:=by
  simp only[List.mem_cons,List.not_mem_nil,or_false,not_or] at ht
  obtain⟨h1,h2,h3,h4,h5⟩:=ht
  exact⟨h.sub,h.d.modT m (by simp[h1,h2,h3]),h.b.mod m (fun e=>h4 e.symm),h.m.mod m (Nat.zero_le _) (by simp[vCh,h2]),h.c.mod m (Nat.zero_le _) (by simp[h3]),h.i.mod m (Nat.zero_le _) (by simp[h3]),h.sg,h.sr,h.nr,h.n.mod m h5 h2⟩
theorem Cst.modT (h:Cst S w g gd C) (m:Mod B t w w') (ht:t∉[tDisk,tMap,5,tSto,tNxt]):Cst S w' g gd C:=by
  obtain⟨Sd,r,μ,pi,ni,ci,nx,h⟩:=h;exact⟨Sd,r,μ,pi,ni,ci,nx,h.modT m ht⟩
end
section
variable {D : DS} {i : Nat}
theorem Qs:∀ l:List By,4 * l.length≤(l.flatMap (sealF 1)).length
  | []=>Nat.le_refl _
  | c :: l => by
    have h:=Qs l
    rw[List.flatMap_cons,List.length_append,H1,List.length_cons];omega
theorem Ze {b:By}:4 * (getSg b).1.length≤b.length:=by
  unfold getSg
  cases hc:Ce b with
  | none=>simp
  | some l =>
    have h1:=O9 b.length b (Nat.le_refl _) l hc
    have h2:=Qs l
    have h3:=h1.1
    rw[h3] at h2
    exact h2
theorem Abj {b:By}:∀ c∈(getSg b).1,c.length≤1048576:=fun c hc=>by
  obtain⟨j,hj,rfl⟩:=List.mem_iff_getElem.1 hc
  have:=Uy b j
  rwa [List.getD_eq_getElem?_getD,List.getElem?_eq_getElem hj] at this
theorem Wn (h:Good D i) (m:Mf):Good (loadR D m).1 (i+65):=by
  unfold loadR
  refine Good.andD (a:=i+1) (b:=i+65) ?_ (fun D hD=>(hD.cleanD _).mono (by omega)) (by omega)
  split
  · exact h.cut _ _
  · exact h.mono (by omega)
theorem We (h:Good D i):Good (runD openOps D).1 (i+69):=by
  simp only[openOps,runD,Ha]
  exact Good.andD (a:=i+64) (b:=i+69) (h.cleanD _) (fun D hD=>Good.andD (a:=i+65) (b:=i+69) (hD.create _) (fun D hD=>(hD.writeM _).mono (by omega)) (by omega)) (by omega)
theorem Ue (h:Good D i):Good (openC D).1.D (i+69):=by
  by_cases h1:(readD D nMan).2=0
  · rw [Fr h1]
    by_cases hm:∃ m,ManOf (readD D nMan).1 m
    · obtain ⟨m, hm⟩ := hm
      rw[Gs hm]
      split
      · exact h.mono (by omega)
      · exact(Wn h m).mono (by omega)
    · rw[I9 hm];exact h.mono (by omega)
  · by_cases h2 : (readD D nMan).2 = 22
    · rw[Gq h2];exact We h
    · rw[H3 h1 h2];exact h.mono (by omega)
theorem Pd:(openC D).1.next=none:=by
  by_cases h1:(readD D nMan).2=0
  · rw [Fr h1]
    by_cases hm:∃ m,ManOf (readD D nMan).1 m
    · obtain ⟨m, hm⟩ := hm
      rw[Gs hm]
      split <;> rfl
    · rw[I9 hm]
  · by_cases h2 : (readD D nMan).2 = 22
    · rw[Gq h2]
    · rw[H3 h1 h2]
theorem Aau (h:Good D i):CN (openC D).1 (i+69):=by
  have hg:=Ue h
  have hn:=Pd (D:=D)
  refine⟨hg,?_,?_,?_,(fun g z e=>by rw[hn] at e;cases e),?_,?_⟩
  all_goals
    by_cases h1:(readD D nMan).2=0
    · rw [Fr h1]
      by_cases hm:∃ m,ManOf (readD D nMan).1 m
      · obtain ⟨m, hm⟩ := hm
        have hhi:=hm.1.hi
        have hsz:=hm.1.sz
        have hix:=hm.1.ix
        have hfew:=Ze (b:=(readD D (nSeg m.seg)).1.take m.size)
        rw[List.length_take] at hfew
        have hcl:=Abj (b:=(readD D (nSeg m.seg)).1.take m.size)
        rw[Gs hm]
        have hS:(loadS D m).seg=m.seg∧(loadS D m).size=m.size∧(loadS D m).index=m.index∧(loadS D m).L=(getSg ((readD D (nSeg m.seg)).1.take m.size)).1:=⟨rfl,rfl,rfl,rfl⟩
        split <;> first | exact hcl | (simp only[hS];omega)
      · rw[I9 hm];simp
    · by_cases h2 : (readD D nMan).2 = 22
      · rw[Gq h2];simp
      · rw[H3 h1 h2];simp
end
structure FiA where
  nm:ByteArray
  data:By
instance : Inhabited FiA := ⟨⟨ByteArray.empty, []⟩⟩
def kFi:Kind FiA where
  sz:=2
  E:=[]
  K:=fun B w x cs=>∃ p n c,cs=[.string x.nm,.slice p n c]∧Lo B w p n c x.data∧x.nm.size≤9223372036854775807
  len:=by rintro _ _ _ _ ⟨p,n,c,rfl,_⟩;rfl
  one:=by
    rintro _ _ _ _ ⟨p,n,c,rfl,_⟩ v hv
    simp only[List.mem_cons,List.not_mem_nil,or_false] at hv
    rcases hv with rfl | rfl <;> rfl
  keep:=fun hs ⟨p,n,c,h1,h2,h3⟩=>⟨p,n,c,h1,h2.keep hs,h3⟩
  mono:=fun hB ⟨p,n,c,h1,h2,h3⟩=>⟨p,n,c,h1,h2.mono hB,h3⟩
theorem Gi:0<kFi.sz:=by decide
theorem Sl.fiAt {e B:Nat} {w:World} {p:Option Addr} {n c:Nat} {l:List FiA} (h:Sl kFi e B w p n c l) (i:Nat) (hi:i<n):∃ q m c1,w.rangeAt (ab p) (ao p+i * 2) [.string (l.getD i default).nm,.slice q m c1]∧Lo B w q m c1 (l.getD i default).data∧(l.getD i default).nm.size≤9223372036854775807:=by
  obtain⟨cs,⟨q,m,c1,rfl,hs⟩,hr⟩:=h.get default i hi
  exact⟨q,m,c1,hr,hs⟩
def OpS (S:Nat→Prop) (w:World) (gd:Nat) (C:CS) (e:Int) (po:Option Addr):Prop:=(e=0∧∃ g,po=some ⟨g,0,none⟩∧Cst S w g gd C)∨(e≠0∧po=none∧Dsk S w gd C.D)
def RfS (w:World) (C:CS) (e sg sz:Int) (pi:Option Addr) (ni ci:Nat) (pL:Option Addr) (nL cL:Nat):Prop:=e=0→sg=(C.seg:Int)∧sz=(C.size:Int)∧Sl kByte 5 0 w pi ni ci C.index∧Sl (kSl kByte 5) (23) 0 w pL nL cL C.L
section
variable {S S' : Nat → Prop} {w w' : World} {gd B : Nat} {C : CS} {e sg sz : Int} {po pi pL : Option Addr} {ni ci nL cL : Nat} {t : TypeId}
theorem OpS.ext (h:OpS S w gd C e po) (x:Ext w w'):OpS S w' gd C e po:=h.imp (fun ⟨a,g,b,c⟩=>⟨a,g,b,c.ext x⟩) fun ⟨a,b,c⟩=>⟨a,b,c.ext x⟩
theorem OpS.mono (h:OpS S w gd C e po) (hS:∀ j,j<w.heap.size→S j→S' j):OpS S' w gd C e po:=h.imp (fun ⟨a,g,b,c⟩=>⟨a,g,b,c.mono hS⟩) fun ⟨a,b,c⟩=>⟨a,b,c.mono hS⟩
theorem OpS.modT (h:OpS S w gd C e po) (m:Mod B t w w') (ht:t∉[tDisk,tMap,5,tSto,tNxt]):OpS S w' gd C e po:=h.imp (fun ⟨a,g,b,c⟩=>⟨a,g,b,c.modT m ht⟩) fun ⟨a,b,c⟩=>⟨a,b,c.modT m (fun hm=>ht (by simp only[List.mem_cons,List.not_mem_nil,or_false] at hm ⊢;rcases hm with h | h | h <;> simp[h]))⟩
theorem OpS.same (h:OpS S w gd C e po):decide (po≠none)=decide (e=0):=by
  rcases h with ⟨a,g,b,_⟩ | ⟨a,b,_⟩
  · rw[a,b];simp
  · rw[b];simp[a]
theorem OpS.dsk (h:OpS S w gd C e po):∃ Sd,Dsk Sd w gd C.D:=by
  rcases h with ⟨_,g,_,Sd,r,μ,pi,ni,ci,nx,c⟩ | ⟨_,_,c⟩
  · exact⟨Sd,c.d⟩
  · exact⟨S,c⟩
theorem RfS.ext (h:RfS w C e sg sz pi ni ci pL nL cL) (x:Ext w w'):RfS w' C e sg sz pi ni ci pL nL cL:=fun a=>by
  obtain⟨b,c,d,e⟩:=h a
  exact⟨b,c,d.ext x,e.ext x⟩
theorem RfS.mod (h:RfS w C e sg sz pi ni ci pL nL cL) (m:Mod B t w w') (h0:0≤B) (ht:t∉[(5:TypeId),(23)]):RfS w' C e sg sz pi ni ci pL nL cL:=fun a=>by
  obtain⟨b,c,d,e⟩:=h a
  refine⟨b,c,d.mod m h0 (fun hm=>ht ?_),e.mod m h0 (fun hm=>ht ?_)⟩
  · simp[kByte,Kind.pure] at hm;simp[hm]
  · simp[kSl,kByte,Kind.pure] at hm;rcases hm with h | h <;> simp[h]
variable {P : Program} {T : TypeId}
theorem Zu {x0 x1 x2 x3:Operand} {p0 p1:Option Addr} {b:Bool} {z0 z1 z2 z3 z4 z5 z6 z7 z8 z9 z10 z11 z12 z13 z14 z15 z16 z17 a0 a1 a2 a3 a4 a5 a6 a7 a8 a9 a10 a11 a12 a13 a14:Value} {n:Nat} {f:Nat→Value} {ty0:TypeId} {pos:String} {aft:Array Edge} {dst:Option Nat} {gu:Option (Nat×Bool)}
    (hP:Co P T=some (.agg #[z0,z1,z2,z3,z4,z5,z6,z7,z8,z9,z10,z11,z12,z13,z14,z15,z16,z17],[(0,1),(1,1),(2,15),(17,1)])) (h0:ev n f x0 = .pointer p0) (h1:ev n f x1 = .pointer p1) (h2:ev n f x2 = .agg #[a0,a1,a2,a3,a4,a5,a6,a7,a8,a9,a10,a11,a12,a13,a14]) (h3:ev n f x3 = .bool b) :
    Ex P w n f ⟨dst,.build T #[(0,x0),(1,x1),(2,x2),(3,x3)],ty0,pos,aft,gu⟩ (.agg #[.pointer p0,.pointer p1,a0,a1,a2,a3,a4,a5,a6,a7,a8,a9,a10,a11,a12,a13,a14,.bool b]) :=
  Eb (parts:=[(0,x0),(1,x1),(2,x2),(3,x3)]) (ps:=[(0,.pointer p0),(1,.pointer p1),(2,.agg #[a0,a1,a2,a3,a4,a5,a6,a7,a8,a9,a10,a11,a12,a13,a14]),(3,.bool b)]) hP (by rw[← h0,← h1,← h2,← h3];rfl) (by show Instr.fill _ #[z0,z1,z2,z3,z4,z5,z6,z7,z8,z9,z10,z11,z12,z13,z14,z15,z16,z17] _=_;simp[Instr.fill,Value.cells] <;> rfl)
end
section
open Go.ChangeShapes Go.WideShapes Go.ChangeAt Go.RowKit
section
variable {H : Type} {enc : TypeId × Value → H} {P : Program} {W : World}
theorem Aat {t el:TypeId} {f0 f1:Field} (ht:P.underlying t=some (.struct #[f0,f1])) (h0:P.underlying f0.type=some .string) (h1:P.underlying f1.type=some (.slice el))
    (o0:f0.offset=0) (o1:f1.offset=1) (c0:P.cellsOf f0.type=1) (c1:P.cellsOf f1.type=1) (ct:P.cellsOf t=2) (ce:P.cellsOf el=kByte.sz) (hO:Opens enc P W kByte el):Opens enc P W kFi t:=by
  intro fuel cs x h
  obtain⟨xs,n,rfl,rfl,hlen,hxl,hx⟩:=DataW.trod_struct ht h
  rw[ct] at hlen
  match cs,hlen with
  | [b0, b1], _ =>
    have hx0:=hx 0 f0 rfl
    have hx1:=hx 1 f1 rfl
    rw[o0,c0] at hx0
    rw[o1,c1] at hx1
    have hxl:xs.length=2:=hxl
    match xs,hxl with
    | [y0, y1], _ =>
      obtain⟨s1,e1,_,w1⟩:=DataW.trod_string h0 hx0
      have q0:b0 = .string s1:=by simpa using e1
      obtain⟨p,m,c,d,e3,w3,_,_⟩:=Xo h1 ce hO hx1
      have q1:b1 = .slice p m c:=by simpa using e3
      clear e1 e3
      subst q0 q1
      exact⟨⟨s1,d⟩,p,m,c,rfl,Aem w3,by show s1.size≤_;unfold maxLen at w1;omega⟩
end
end
end Go.Proofs.Eng
end
section
set_option maxRecDepth 100000
set_option maxHeartbeats 4000000
namespace Go.Proofs.Eng
open Go.RowKit
open Extern.Stop (cell)
theorem un89:(Tryz.prog.underlying 89).map TypeDesc.isRow=some false:=by kernel_rfl
end Go.Proofs.Eng
end
section
set_option maxRecDepth 100000
set_option maxHeartbeats 4000000
namespace Go.Proofs.Eng
open Go.RowKit
open Extern.Stop (cell)
theorem u89:Tryz.prog.underlying 89=some (.pointer 166):=by kernel_rfl
end Go.Proofs.Eng
end
section
set_option maxRecDepth 100000
set_option maxHeartbeats 4000000
namespace Go.Proofs.Eng
open Go.RowKit
open Extern.Stop (cell)
end Go.Proofs.Eng
end
section
set_option maxRecDepth 100000
set_option maxHeartbeats 4000000
namespace Go.Proofs.Eng
open Go.RowKit
open Extern.Stop (cell)
theorem pl157:Co Tryz.prog 157=some (.agg #[.int .i64 0,.int .i64 0,.slice none 0 0],[(0,1),(1,1),(2,1)]):=by kernel_rfl
theorem sz157:(Tryz.prog.info? 157).map (·.size)=some 3:=by kernel_rfl
theorem ua157:(Tryz.prog.underlying 157).map TypeDesc.isRow=some true:=by kernel_rfl
theorem zr157:(Tryz.prog.info? 157).map (·.zero)=some (some (.agg #[.int .i64 0,.int .i64 0,.slice none 0 0])):=by kernel_rfl
end Go.Proofs.Eng
end
section
set_option maxRecDepth 100000
set_option maxHeartbeats 4000000
namespace Go.Proofs.Eng
open Go.RowKit
open Extern.Stop (cell)
end Go.Proofs.Eng
end
section
set_option maxRecDepth 100000
set_option maxHeartbeats 4000000
namespace Go.Proofs.Eng
open Go.RowKit
open Extern.Stop (cell)
end Go.Proofs.Eng
end
section
set_option maxRecDepth 100000
set_option maxHeartbeats 4000000
namespace Go.Proofs.Eng
open Go.RowKit
open Extern.Stop (cell)
theorem Mr:A3 Tryz.prog 56 4=some (22,10):=by kernel_rfl
end Go.Proofs.Eng
end
section
set_option maxRecDepth 100000
set_option maxHeartbeats 4000000
namespace Go.Proofs.Eng
open Go.RowKit
open Extern.Stop (cell)
theorem Et:A3 Tryz.prog 56 0=some (45,0):=by kernel_rfl
theorem Abo:A3 Tryz.prog 56 1=some (3,7):=by kernel_rfl
theorem Abn:A3 Tryz.prog 56 2=some (3,8):=by kernel_rfl
theorem Abm:A3 Tryz.prog 56 3=some (23,9):=by kernel_rfl
theorem pl56:Co Tryz.prog 56=some (.agg #[.int .i64 0,.slice none 0 0,.int .i64 0,.bool false,.int .i64 0,.bool false,.bool false,.int .i64 0,.int .i64 0,.slice none 0 0,.slice none 0 0,.bool false,.slice none 0 0,.int .i64 0,.bool false],[(0,7),(7,1),(8,1),(9,1),(10,1),(11,1),(12,1),(13,1),(14,1)]):=by kernel_rfl
theorem sz56:(Tryz.prog.info? 56).map (·.size)=some 15:=by kernel_rfl
theorem ua56:(Tryz.prog.underlying 56).map TypeDesc.isRow=some true:=by kernel_rfl
theorem zr56:(Tryz.prog.info? 56).map (·.zero)=some (some (.agg #[.int .i64 0,.slice none 0 0,.int .i64 0,.bool false,.int .i64 0,.bool false,.bool false,.int .i64 0,.int .i64 0,.slice none 0 0,.slice none 0 0,.bool false,.slice none 0 0,.int .i64 0,.bool false])):=by kernel_rfl
end Go.Proofs.Eng
end
section
set_option maxRecDepth 100000
set_option maxHeartbeats 4000000
namespace Go.Proofs.Eng
open Go.RowKit
open Extern.Stop (cell)
theorem pl58:Co Tryz.prog 58=some (.agg #[.pointer none,.pointer none,.int .i64 0,.slice none 0 0,.int .i64 0,.bool false,.int .i64 0,.bool false,.bool false,.int .i64 0,.int .i64 0,.slice none 0 0,.slice none 0 0,.bool false,.slice none 0 0,.int .i64 0,.bool false,.bool false],[(0,1),(1,1),(2,15),(17,1)]):=by kernel_rfl
theorem sz58:(Tryz.prog.info? 58).map (·.size)=some 18:=by kernel_rfl
theorem ua58:(Tryz.prog.underlying 58).map TypeDesc.isRow=some true:=by kernel_rfl
theorem zr58:(Tryz.prog.info? 58).map (·.zero)=some (some (.agg #[.pointer none,.pointer none,.int .i64 0,.slice none 0 0,.int .i64 0,.bool false,.int .i64 0,.bool false,.bool false,.int .i64 0,.int .i64 0,.slice none 0 0,.slice none 0 0,.bool false,.slice none 0 0,.int .i64 0,.bool false,.bool false])):=by kernel_rfl
end Go.Proofs.Eng
end
section
set_option maxRecDepth 100000
set_option maxHeartbeats 4000000
namespace Go.Proofs.Eng
open Go.RowKit
open Extern.Stop (cell)
theorem Aeq:A3 Tryz.prog 56 5=some (4,11):=by kernel_rfl
theorem S4:A3 Tryz.prog 58 0=some (34,0):=by kernel_rfl
theorem Px:A3 Tryz.prog 58 1=some (30,1):=by kernel_rfl
theorem Fz:A3 Tryz.prog 58 2=some (56,2):=by kernel_rfl
theorem Aep:A3 Tryz.prog 58 3=some (4,17):=by kernel_rfl
end Go.Proofs.Eng
end
section
set_option maxRecDepth 100000
set_option maxHeartbeats 4000000
namespace Go.Proofs.Eng
open Go.RowKit
open Extern.Stop (cell)
theorem Ms:A3 Tryz.prog 42 0=some (9,0):=by kernel_rfl
theorem Ww:A3 Tryz.prog 42 1=some (23,1):=by kernel_rfl
theorem sz42:(Tryz.prog.info? 42).map (·.size)=some 2:=by kernel_rfl
theorem u40:Tryz.prog.underlying 40=some (.slice 42):=by kernel_rfl
end Go.Proofs.Eng
end
