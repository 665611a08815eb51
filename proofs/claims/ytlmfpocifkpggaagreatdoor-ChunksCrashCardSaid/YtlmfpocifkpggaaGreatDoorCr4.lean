import Derived.Test.YtlmfpocifkpggaaGreatDoorCr3
import Derived.Shelf.SlSortCmp.InsertionK
import Derived.WalkKit
import Derived.WalkSpells
import Derived.WalkLawsBesides
import Derived.StillTailTactics
import Derived.Deep.MidRow
import Derived.Stop.BytesEq
import Derived.OrdersHeld
import Derived.KernelRfl
import Derived.Deep.AppendSrc
import Derived.Deep.DeepAppendWide
import Derived.Test.YtlmfpocifkpggaaGreatDoorProg
import Derived.Test.YtlmfpocifkpggaaGreatDoorSort
import Derived.Shelf.SlSortCmp.NoneTotal
set_option linter.unusedVariables false
set_option linter.unusedSimpArgs false
set_option linter.unusedSectionVars false
section
set_option maxRecDepth 100000
set_option maxHeartbeats 4000000
namespace Go.Proofs.Eng
open Go.RowKit
open Extern.Stop (cell)
theorem Xj (fs:List Clo) (I:Nat→World→Prop) (Q:Int→World→Prop) (B:Nat) (p:Option Addr) (n c:Nat) (w:World) (h0:I 0 w) (hl:∀ i w',I i w'→Sl kFn 95 B w' p n c fs)
    (hfs : ∀ i, i < n → ∃ fn, Tryz.prog.funcs[(fs.getD i default).1]? = some fn ∧ (fn.name == "runtime.NumGoroutine") = false ∧ fn.body.isNone = false ∧ ∀ w1, I i w1 → Ret Tryz.prog (fs.getD i default).1 (fs.getD i default).2 w1 (fun v w' => ∃ e : Int, v = .int .i64 e ∧ (e = 0 → I (i + 1) w') ∧ (e ≠ 0 → Q e w'))) :
    Ret Tryz.prog 45 [.slice p n c] w (fun v w'=>∃ e:Int,v = .int .i64 e∧(e=0→I n w')∧(e≠0→Q e w')):=by
 have hX:=h0
 refine eN 18 Tryz.func45 ?_
 refine Ab (Aa ?_)
 refine pA (Ac (t_n (Ab (Ab (Aa ?_)))))
 refine pM ?_
 refine p1 (Aj u149 rfl) ?_
 refine pM (Ac (t_n (Am ?_)))
 have hlen:=(hl 0 w h0).len
 have hcap:=(hl 0 w h0).cap
 have hfit:=(hl 0 w h0).fit
 refine Bg (ι:=Nat) [2,4,5,8,9,10,11,12,13,14,15,16,17] (fun k=>[(8,.int .i64 (k:Int))]) (fun k w'=>I k w'∧(k≤n)) (fun k=>n - k) (0) ⟨rfl,trivial⟩ ⟨hX,by omega⟩ ?_
 rintro k GL0 w1 ⟨hE1,hk⟩
 have hX:=hE1
 refine Ab (Aa ?_)
 refine p1 (Bx rfl rfl) ?_
 refine Ac (t_n (Ab ?_))
 refine As rfl (fun hc9=>?_) (fun hc9=>?_)
 ·refine Ai (t_n (Ab (Am (Ab (Aa ?_)))))
  refine p1 (C5 u149 sz95 rfl rfl ((hl _ _ hX).adr Ad0 (by omega)) (by omega)) ?_
  refine p1 (Ae un95 rfl ((hl _ _ hX).fnAt _ (by omega))) ?_
  refine pA (Ac (t_n (Ab (Aa ?_))))
  refine pM ?_
  obtain⟨fn,hf,hnm,hbd,hcall⟩:=hfs k (by omega)
  refine Jv (fs:=[]) (cs:=(fs.getD k default).2) rfl hf hnm hbd rfl rfl (hcall _ hX) ?_
  rintro v2 w2 ⟨e,rfl,hI1,hQ1⟩
  refine pA (Ac (t_n (Ab (Aa ?_))))
  refine pM ?_
  refine p1 (A2 rfl rfl) ?_
  refine Ac (t_n ?_)
  refine As rfl (fun hc15=>?_) (fun hc15=>?_)
  ·refine Ab (Aa ?_)
   refine pM (pA (Ac (t_n (Ak (b_r (t_r (t_r (b_r (t_r ?_)))))))))
   refine eR1 ?_
   exact⟨e,rfl,fun h=>absurd h hc15,hQ1⟩
  have hX:=hI1 (by omega)
  refine Ai (b_n (t_n (Aa ?_)))
  refine p1 (Aw rfl rfl (Ag (by omega) (by omega))) ?_
  refine pM (Ac ?_)
  refine t_n (aK (k+1) ⟨rfl,trivial⟩ ?_)
  exact⟨⟨hX,by omega⟩,by((show _<_);omega)⟩
 refine Ba (t_e (t_e (Bu (t_n (Ab (Aa ?_))))))
 refine pA (Ac (t_n (Ak ?_)))
 refine eR1 ?_
 exact⟨0,rfl,fun _=>by rw[show n=k from by omega];exact hX,fun h=>absurd rfl h⟩
theorem grow2 {S:Nat→Prop} {w w1 w':World} (h1:w.heap.size≤w1.heap.size) (h2:w1.heap.size≤w'.heap.size):∀ k,k<w'.heap.size→grow (grow S w w1) w1 w' k→grow S w w' k:=fun k hk hg=>by
  rcases hg with (hs | ⟨a,b⟩) | ⟨a,b⟩
  · exact .inl hs
  · exact .inr ⟨a,by omega⟩
  · exact .inr ⟨by omega,b⟩
theorem Lz (fs:List Clo) (ops:List (DS→DS×Int)) (κ:Nat→Nat) (gd:Nat) (S:Nat→Prop) (D:DS) (p:Option Addr) (n c:Nat) (w:World) (hD:Dsk S w gd D) (hg:DG D (κ 0)) (hl:Sl kFn 95 0 w p n c fs) (ho:ops.length=n)
    (hfs : ∀ i, i < n → ∃ fn, Tryz.prog.funcs[(fs.getD i default).1]? = some fn ∧ (fn.name == "runtime.NumGoroutine") = false ∧ fn.body.isNone = false ∧ ∀ Di w1, Dsk (grow S w w1) w1 gd Di → ModS S ED w w1 → DG Di (κ i) →
      Ret Tryz.prog (fs.getD i default).1 (fs.getD i default).2 w1 (fun v w'=>v = .int .i64 ((ops.getD i fun D=>(D,0)) Di).2∧Dsk (grow (grow S w w1) w1 w') w' gd ((ops.getD i fun D=>(D,0)) Di).1∧ModS (grow S w w1) ED w1 w'∧DG ((ops.getD i fun D=>(D,0)) Di).1 (κ (i+1)))) :
    Ret Tryz.prog 45 [.slice p n c] w (fun v w'=>v = .int .i64 (runD ops D).2∧Dsk (grow S w w') w' gd (runD ops D).1∧ModS S ED w w'):=by
  refine⟨Calls.mono (Xj fs (fun i w'=>∃ Di,Dsk (grow S w w') w' gd Di∧ModS S ED w w'∧DG Di (κ i)∧runD ops D=runD (ops.drop i) Di) (fun e w'=>e=(runD ops D).2∧Dsk (grow S w w') w' gd (runD ops D).1∧ModS S ED w w') 0 p n c w
    ⟨D,hD.grown w,.refl _ _ _,hg,rfl⟩ (fun i w' ⟨Di,_,m,_⟩=>hl.modS m (fun _ _=>Nat.zero_le _) (by decide)) fun i hi=>?_).out ?_⟩
  · obtain ⟨fn, h1, h2, h3, h4⟩ := hfs i hi
    refine⟨fn,h1,h2,h3,fun w1 ⟨Di,hDi,m,hgi,hr⟩=>⟨Calls.mono (h4 Di w1 hDi m hgi).out ?_⟩⟩
    rintro e w' ⟨v,rfl,rfl,hD',m',hg'⟩
    have hd:=Y7 (ops:=ops) (i:=i) (by omega) Di
    have hD2:Dsk (grow S w w') w' gd ((ops.getD i fun D=>(D,0)) Di).1:=hD'.mono (grow2 m.size m'.size)
    refine⟨_,rfl,_,rfl,fun h0=>⟨_,hD2,m.step m',hg',?_⟩,fun h0=>?_⟩
    · rw[hr,hd,andD,if_pos h0]
    · have : runD ops D = (ops.getD i fun D => (D, 0)) Di := by rw [hr, hd, andD, if_neg h0]
      rw[this];exact⟨rfl,hD2,m.step m'⟩
  · rintro e w' ⟨v, rfl, e', rfl, h1, h2⟩
    refine⟨_,rfl,?_⟩
    by_cases h0:e'=0
    · obtain ⟨Di, a, b, _, hr⟩ := h1 h0
      have hz:ops.drop n=[]:=List.drop_eq_nil_of_le (by omega)
      rw[hz] at hr
      rw[hr,h0];exact⟨rfl,a,b⟩
    · obtain ⟨a, b, c⟩ := h2 h0
      rw[a];exact⟨rfl,b,c⟩
theorem Ac6 (gd:Nat) (S:Nat→Prop) (D:DS) (w:World) (hD:Dsk S w gd D) (hok:DOk D) (hst:D.steps<4611686018427387904) (hle:D.left≤9223372036854775807) (hnm:∀ x∈D.l,A1 x.1=true) (b0:Nat) (hb0:Blk w b0 #[.pointer (some ⟨gd,0,none⟩)] 34) :
    Ret Tryz.prog 98 [.pointer (some ⟨b0,0,none⟩)] w (fun v w'=>v = .int .i64 (Bk D nNew).2∧Dsk (grow S w w') w' gd (Bk D nNew).1∧ModS S ED w w'):=by
 have hX:=Ext.refl w
 refine eN 4 Tryz.func98 ?_
 refine Ab (Aa ?_)
 refine pA (Ac (t_n (Ab (Aa ?_))))
 refine p1 (Ae un34 rfl (hb0.cell (rfl))) ?_
 have hXs:=hX.size
 refine Ah Tryz.func18 fn18 fb18 (I6 gd S D _ hD hok hst hle nNew (by decide)) rfl ?_
 rintro v1 w1 ⟨rfl,hD2,hM2⟩
 refine pA (Ac (t_n (Ak ?_)))
 refine eR1 ?_
 exact⟨rfl,hD2.wide hXs,(ModS.ofExt hX).trans hM2 (fun _ _ h=>h)⟩
theorem Ac4 (gd:Nat) (S:Nat→Prop) (D:DS) (w:World) (hD:Dsk S w gd D) (hok:DOk D) (hst:D.steps<4611686018427387904) (hle:D.left≤9223372036854775807) (hnm:∀ x∈D.l,A1 x.1=true) (b0:Nat) (hb0:Blk w b0 #[.pointer (some ⟨gd,0,none⟩)] 34) :
    Ret Tryz.prog 100 [.pointer (some ⟨b0,0,none⟩)] w (fun v w'=>v = .int .i64 (syncD D nNew).2∧Dsk (grow S w w') w' gd (syncD D nNew).1∧ModS S ED w w'):=by
 have hX:=Ext.refl w
 refine eN 4 Tryz.func100 ?_
 refine Ab (Aa ?_)
 refine pA (Ac (t_n (Ab (Aa ?_))))
 refine p1 (Ae un34 rfl (hb0.cell (rfl))) ?_
 have hXs:=hX.size
 refine Ah Tryz.func20 fn20 fb20 (Mm gd S D _ hD hok hst hle nNew (by decide)) rfl ?_
 rintro v1 w1 ⟨rfl,hD2,hM2⟩
 refine pA (Ac (t_n (Ak ?_)))
 refine eR1 ?_
 exact⟨rfl,hD2.wide hXs,(ModS.ofExt hX).trans hM2 (fun _ _ h=>h)⟩
theorem Ac3 (gd:Nat) (S:Nat→Prop) (D:DS) (w:World) (hD:Dsk S w gd D) (hok:DOk D) (hst:D.steps<4611686018427387904) (hle:D.left≤9223372036854775807) (hnm:∀ x∈D.l,A1 x.1=true) (b0:Nat) (hb0:Blk w b0 #[.pointer (some ⟨gd,0,none⟩)] 34) :
    Ret Tryz.prog 101 [.pointer (some ⟨b0,0,none⟩)] w (fun v w'=>v = .int .i64 (Cl D nNew nMan).2∧Dsk (grow S w w') w' gd (Cl D nNew nMan).1∧ModS S ED w w'):=by
 have hX:=Ext.refl w
 refine eN 4 Tryz.func101 ?_
 refine Ab (Aa ?_)
 refine pA (Ac (t_n (Ab (Aa ?_))))
 refine p1 (Ae un34 rfl (hb0.cell (rfl))) ?_
 have hXs:=hX.size
 refine Ah Tryz.func102 fn102 fb102 (Vo gd S D _ hD hok hst hle nNew nMan (by decide) (by decide)) rfl ?_
 rintro v1 w1 ⟨rfl,hD2,hM2⟩
 refine pA (Ac (t_n (Ak ?_)))
 refine eR1 ?_
 exact⟨rfl,hD2.wide hXs,(ModS.ofExt hX).trans hM2 (fun _ _ h=>h)⟩
theorem Ac5 (gd:Nat) (S:Nat→Prop) (D:DS) (w:World) (hD:Dsk S w gd D) (hok:DOk D) (hst:D.steps<4611686018427387904) (hle:D.left≤9223372036854775807) (hnm:∀ x∈D.l,A1 x.1=true) (b0 b1 e B:Nat) (p:Option Addr) (n c:Nat) (ys:By) (hb0:Blk w b0 #[.pointer (some ⟨gd,0,none⟩)] 34) (hb1:Blk w b1 #[.slice p n c] 23) (hl:Sl kByte e B w p n c ys) :
    Ret Tryz.prog 99 [.pointer (some ⟨b0,0,none⟩),.pointer (some ⟨b1,0,none⟩)] w (fun v w'=>v = .int .i64 (A4 D nNew ys).2∧Dsk (grow S w w') w' gd (A4 D nNew ys).1∧ModS S ED w w'):=by
 have hX:=Ext.refl w
 refine eN 6 Tryz.func99 ?_
 refine Ab (Aa ?_)
 refine pA (Ac (t_n (Ab (Aa ?_))))
 refine p1 (Ae un34 rfl (hb0.cell (rfl))) ?_
 refine p1 (Ae un23 rfl (hb1.cell (rfl))) ?_
 have hXs:=hX.size
 refine Ah Tryz.func19 fn19 fb19 (I7 gd S D _ hD hok hst hle nNew (by decide) e B _ _ _ _ hl) rfl ?_
 rintro v1 w1 ⟨rfl,hD2,hM2⟩
 refine pA (Ac (t_n (Ak ?_)))
 refine eR1 ?_
 exact⟨rfl,hD2.wide hXs,(ModS.ofExt hX).trans hM2 (fun _ _ h=>h)⟩
theorem Ret.and {P:Program} {g:FuncId} {as_:List Value} {w:World} {R:Value→World→Prop} {Q:Prop} (h:Ret P g as_ w R) (hq:Q):Ret P g as_ w (fun v w'=>R v w'∧Q) :=
  ⟨Calls.mono h.out fun e w' ⟨v,h1,h2⟩=>⟨v,h1,h2,hq⟩⟩
theorem Ret.imp {P:Program} {g:FuncId} {as_:List Value} {w:World} {R R':Value→World→Prop} (h:Ret P g as_ w R) (hq:∀ v w',R v w'→R' v w'):Ret P g as_ w R' :=
  ⟨Calls.mono h.out fun e w' ⟨v,h1,h2⟩=>⟨v,h1,hq _ _ h2⟩⟩
theorem Ret.dg {P:Program} {g:FuncId} {as_:List Value} {w:World} {A:Value→World→Prop} {B C:World→Prop} {Q:Prop} (h:Ret P g as_ w (fun v w'=>A v w'∧B w'∧C w')) (hq:Q):Ret P g as_ w (fun v w'=>A v w'∧B w'∧C w'∧Q) :=
  h.imp fun _ _ ⟨a,b,c⟩=>⟨a,b,c,hq⟩
theorem Ge (gd:Nat) (S:Nat→Prop) (D:DS) (w:World) (hD:Dsk S w gd D) (hok:DOk D) (hst:D.steps<4611686018427380000) (hle:D.left≤9223372036854775807) (hnm:∀ x∈D.l,A1 x.1=true) (s z:Nat) (xs:By) (e B:Nat) (p:Option Addr) (n c:Nat) (hl:Sl kByte 5 B w p n c xs) (hq:Qt w) :
    Ret Tryz.prog 51 [.pointer (some ⟨gd,0,none⟩),.agg #[.int .i64 (s:Int),.int .i64 (z:Int),.slice p n c]] w (fun v w'=>v = .int .i64 (writeM D ⟨s,z,xs⟩).2∧Dsk (grow S w w') w' gd (writeM D ⟨s,z,xs⟩).1∧ModS S ED w w'):=by
 have hD:=hD.narrow (Nat.le_refl _)
 have hX:=Ext.refl w
 refine eN 21 Tryz.func51 ?_
 refine Ab (Aa ?_)
 have hz2:=hX.size
 refine Cq (by conv=>lhs;whnf) rfl ?_
 intro w1 g2 hN2
 have hE1:=hN2.ext
 have hX:=hX.ext hE1
 have hD:=hD.ext hE1
 have hB2:=hN2.blk
 have hq2:=hN2.g_eq
 have hz3:=hX.size
 have hl3_2:=hB2.lt
 refine Em (by conv=>lhs;whnf) ?_
 intro w2 g3 hN3
 have hE2:=hN3.ext
 have hX:=hX.ext hE2
 have hD:=hD.ext hE2
 have hB2:=hB2.ext hE2
 have hB3:=hN3.blk
 have hq3:=hN3.g_eq
 refine pA (Ac (t_n (Ab (Aa ?_))))
 refine p1 (Bh ua99 rfl hB3 (by exact sz99)) ?_
 have hXw:=hX.size
 refine Ah Tryz.func97 fn97 fb97 (Le (s:Int) (z:Int) xs _ _ _ _ _ (hl.ext hX) (hq.ext hX)) rfl ?_
 rintro v3 w3 ⟨⟨qp,mp,cp,ep,rfl,hpe,hP⟩,hE3⟩
 have hX:=hX.ext hE3
 have hD:=hD.ext hE3
 have hB2:=hB2.ext hE3
 have hB3:=hB3.ext hE3
 have hPx:∀ w2,Ext w3 w2→ep=0→Own kByte 5 0 w.heap.size w2 qp mp cp (manB ⟨s,z,xs⟩):=fun w2 hx he=>by
   obtain⟨_,s2,z2,hs2,hz2,_,hOw⟩:=hP.resolve_right (fun h=>h.1 he)
   have e1:s2=s:=by omega
   have e2:z2=z:=by omega
   subst e1 e2
   exact(hOw.lower hXw).ext hx
 have hG:=Ext.refl w3
 refine pM ?_
 refine p1 (Ao rfl rfl) ?_
 refine p1 (Ao rfl rfl) ?_
 have hz5:=hX.size
 have hl5_2:=hB2.lt
 have hl5_3:=hB3.lt
 refine A6 zr23 ?_
 intro w4 g5 hN5
 have hE4:=hN5.ext
 have hX:=hX.ext hE4
 have hD:=hD.ext hE4
 have hB2:=hB2.ext hE4
 have hB3:=hB3.ext hE4
 have hG:=hG.ext hE4
 have hB5:=hN5.blk
 have hq5:=hN5.g_eq
 refine Ar rfl (by conv=>lhs;whnf) rfl rfl sz23 hB5 (by exact Nat.zero_lt_one) ?_
 intro w5 hP5
 have hX:=hX.put hP5 (by omega)
 have hD:=hD.modT (hP5.mod 0 (Nat.zero_le _)) (by decide)
 have hB2:=hP5.keep hB2 (by omega)
 have hB3:=hP5.keep hB3 (by omega)
 have hG:=hG.put hP5 (by omega)
 have hB5:=hP5.blk
 try simp only[List.setIfInBounds_toArray,List.set_cons_zero,List.set_cons_succ] at hB5
 refine pA (Ac (t_n (Ab (Ab (Aa ?_)))))
 refine pM ?_
 refine p1 (A2 rfl rfl) ?_
 refine Ac (t_n ?_)
 refine As rfl (fun hc13=>?_) (fun hc13=>?_)
 ·have hpw:writeM D ⟨s,z,xs⟩=(D,errM s z xs):=by unfold writeM;rw[if_neg (by rw[← hpe];exact hc13)]
  refine Ab (Aa ?_)
  refine pM (pA (Ac (t_n (Ak (t_r ?_)))))
  refine eR1 ?_
  exact⟨by rw[hpw,hpe],by rw[hpw];exact hD.mono (fun k _ h => .inl h.1),ModS.ofExt hX⟩
 have he0:ep=0:=by omega
 have hpw:writeM D ⟨s,z,xs⟩=writeD D (manB ⟨s,z,xs⟩):=by unfold writeM;rw[if_pos (by rw[← hpe];exact he0)]
 refine Ai (t_n (Ab (Aa ?_)))
 refine p1 (Bi (fs:=[]) (cs:=[.pointer (some ⟨g2,0,none⟩)]) rfl rfl) ?_
 refine p1 (Bi (fs:=[]) (cs:=[.pointer (some ⟨g2,0,none⟩),.pointer (some ⟨g5,0,none⟩)]) rfl rfl) ?_
 refine p1 (Bi (fs:=[]) (cs:=[.pointer (some ⟨g2,0,none⟩)]) rfl rfl) ?_
 refine p1 (Bi (fs:=[]) (cs:=[.pointer (some ⟨g2,0,none⟩)]) rfl rfl) ?_
 refine Au u149 inf95 rfl (by decide) (fun base hb=>Gc [fcv (98,[.pointer (some ⟨g2,0,none⟩)]),fcv (99,[.pointer (some ⟨g2,0,none⟩),.pointer (some ⟨g5,0,none⟩)]),fcv (100,[.pointer (some ⟨g2,0,none⟩)]),fcv (101,[.pointer (some ⟨g2,0,none⟩)])] (by intro v hv';simp only[List.mem_cons,List.not_mem_nil,or_false] at hv';rcases hv' with rfl | rfl | rfl | rfl <;> rfl) base hb) ?_
 intro w6 g19 hN19
 have hE6:=hN19.ext
 have hX:=hX.ext hE6
 have hD:=hD.ext hE6
 have hB2:=hB2.ext hE6
 have hG:=hG.ext hE6
 have hB5:=hB5.ext hE6
 have hS19:Sl kFn 95 0 w6 (some ⟨g19,0,none⟩) 4 4 [(98,[.pointer (some ⟨g2,0,none⟩)]),(99,[.pointer (some ⟨g2,0,none⟩),.pointer (some ⟨g5,0,none⟩)]),(100,[.pointer (some ⟨g2,0,none⟩)]),(101,[.pointer (some ⟨g2,0,none⟩)])]:=(Cw (B0:=0) ([(98,[.pointer (some ⟨g2,0,none⟩)]),(99,[.pointer (some ⟨g2,0,none⟩),.pointer (some ⟨g5,0,none⟩)]),(100,[.pointer (some ⟨g2,0,none⟩)]),(101,[.pointer (some ⟨g2,0,none⟩)])]:List Clo) hN19 (Nat.zero_le _) (by simp)).sl
 have hOw:=hPx _ hG he0
 have hOu:=X3 (S:=(fun j=>S j∧j<w.heap.size)) hOw (fun j h=>h.2)
 have hXs:=hX.size
 refine Ah Tryz.func45 fn45 fb45 (Lz [(98,[.pointer (some ⟨g2,0,none⟩)]),(99,[.pointer (some ⟨g2,0,none⟩),.pointer (some ⟨g5,0,none⟩)]),(100,[.pointer (some ⟨g2,0,none⟩)]),(101,[.pointer (some ⟨g2,0,none⟩)])] [fun D=>Bk D nNew,fun D=>A4 D nNew (manB ⟨s,z,xs⟩),fun D=>syncD D nNew,fun D=>Cl D nNew nMan] (fun i=>D.steps+i) gd (fun j=>S j∧j<w.heap.size) D _ _ _ _ hD (⟨hok,Nat.le_refl _,hle,hnm⟩) hS19 rfl (fun i hi=>?_)) rfl ?_
 · rcases i with _ | _ | _ | _ | i
   · exact⟨Tryz.f98,Tryz.func98,fn98,fb98,fun Di w1 hDi m hgi=>(Ac6 gd _ Di w1 hDi hgi.ok (by have:=hgi.steps;(try dsimp only at this);omega) hgi.left hgi.names g2 (hB2.modS m (.inr (by decide)))).dg (hgi.create _)⟩
   · exact⟨Tryz.f99,Tryz.func99,fn99,fb99,fun Di w1 hDi m hgi=>(Ac5 gd _ Di w1 hDi hgi.ok (by have:=hgi.steps;(try dsimp only at this);omega) hgi.left hgi.names g2 g5 _ _ _ _ _ _ (hB2.modS m (.inr (by decide))) (hB5.modS m (.inr (by decide))) (hOu.modS m).sl).dg (hgi.append _ _)⟩
   · exact⟨Tryz.f100,Tryz.func100,fn100,fb100,fun Di w1 hDi m hgi=>(Ac4 gd _ Di w1 hDi hgi.ok (by have:=hgi.steps;(try dsimp only at this);omega) hgi.left hgi.names g2 (hB2.modS m (.inr (by decide)))).dg (hgi.sync _)⟩
   · exact⟨Tryz.f101,Tryz.func101,fn101,fb101,fun Di w1 hDi m hgi=>(Ac3 gd _ Di w1 hDi hgi.ok (by have:=hgi.steps;(try dsimp only at this);omega) hgi.left hgi.names g2 (hB2.modS m (.inr (by decide)))).dg (hgi.rename _ _)⟩
   · exact absurd hi (by omega)
 rintro v7 w7 ⟨rfl,hD2,hM2⟩
 refine pA (Ac (t_n (Ak ?_)))
 refine eR1 ?_
 exact⟨by rw[hpw,Oe],by rw[hpw,Oe];exact hD2.mono (fun k _ hg=>hg.imp (fun h=>h.1) (fun ⟨a,b⟩=>⟨by omega,b⟩)),((ModS.ofExt hX).trans hM2 (fun _ _ h=>h)).mono (fun j _ h=>h.1)⟩
end Go.Proofs.Eng
end
section
set_option maxRecDepth 100000
set_option maxHeartbeats 4000000
namespace Go.Proofs.Eng
open Go.RowKit
open Extern.Stop (cell)
theorem Xi (b0:List UInt8) (Bl Bd B g:Nat) (p0:Option Addr) (n0 c0:Nat) (l:Nat) (J Jx:List Ck→World→Prop) (w:World) (hBg:Blk w g #[.slice p0 n0 c0] 23) (hS:Sl kByte 5 B w p0 n0 c0 b0) (hq:Qt w) (hUp:Up Bl w) (h3:4<Bd) (hBB:B≤Bd) (hBg2:Bd≤g)
    (hJ:Hd J (But g 23) [] w) (hY:∀ pre x W1,J pre W1→XC Bl b0 pre x W1→YieldAt (fnc none) 0 Tryz.prog l (encC x).toArray W1 fun e W'=>(e = .returned (.bool true)∧J (pre++[x]) W'∧RndG Bd g [22,23,31] W1 W')∨(e = .returned (.bool false)∧Jx (pre++[x]) W')) :
    Ret Tryz.prog 132 [.func (.yield l) #[] #[],.pointer (some ⟨g,0,none⟩)] w (fun v w'=>(∃ xs,SC b0 xs∧J xs w')∨(∃ pre,True∧Jx pre w')):=by
 have hX:=Tv.mk
 refine eN 32 Tryz.func132 ?_
 refine Am ?_
 refine Bg (ι:=Option Addr×Nat×Nat×List UInt8×List Ck) [3,4,5,6,7,8,9,10,11,12,13,14,15,16,17,18,19,20,21,22,23,24,25,26,27,28,29,30,31] (fun (p,n,c,rest,pre)=>[]) (fun (p,n,c,rest,pre) w'=>Tv∧(Hd J (But g 23) pre w'∧Blk w' g #[.slice p n c] 23∧Sl kByte 5 B w' p n c rest∧Qt w'∧Up Bl w'∧(∀ x∈pre,x.e=0)∧pre.length+n≤b0.length∧B6 b0=(B6 rest).map (fun l=>pre.map (·.body)++l))) (fun (p,n,c,rest,pre)=>n) ((p0,n0,c0,b0,[])) trivial ⟨hX,⟨hJ,hBg,hS,hq,hUp,by simp,by simp[hS.len],by simp⟩⟩ ?_
 rintro⟨p,n,c,rest,pre⟩ GL0 w1 ⟨hE1,hJ,hBg,hS,hq,hUp,hez,hcnt,hC⟩
 have hX:=hE1
 refine Ab (Ab (Aa ?_))
 refine p1 (Ae un23 rfl (hBg.cell (rfl))) ?_
 refine p1 (Aj u23 rfl) ?_
 refine p1 (C0 rfl rfl) ?_
 refine Ac (t_n ?_)
 refine As rfl (fun hc8=>?_) (fun hc8=>?_)
 ·try simp only[dA,dB,dC,dD,dE,dF,dG,Int.not_lt,Int.not_le] at hc8
  have hrl:=hS.len
  have hfit:=hS.fit
  have hcap:=hS.cap
  have hne:rest≠[]:=fun e=>by rw[e] at hrl;simp at hrl;omega
  refine Ai (t_n (Am (Ab (Aa ?_))))
  refine p1 (Ae un23 rfl (hBg.cell (rfl))) ?_
  have hUp1:=hUp.le
  refine Ah Tryz.func133 fn133 fb133 (Pr rest _ _ _ _ _ hS hq) rfl ?_
  rintro v2 w2 ⟨⟨qo,mo,co,rfl,hF⟩,hE2⟩
  have hX:=hX.ext hE2
  have hJ:=hJ.ext hE2
  have hBg:=hBg.ext hE2
  have hS:=hS.ext hE2
  have hq:=hq.ext hE2
  have hUp:=hUp.ext hE2
  have hF:=hF.lower hUp1
  refine pM ?_
  refine p1 (Ao rfl rfl) ?_
  refine p1 (Ao rfl rfl) ?_
  refine p1 (Ao rfl rfl) ?_
  have hJ0:=hJ
  have hBg0:=hBg
  have hS0:=hS
  have hq0:=hq
  have hUp0:=hUp
  have hF0:=hF
  refine A6 zr187 ?_
  intro w3 g3 hN3
  have hE3:=hN3.ext
  have hX:=hX.ext hE3
  have hJ:=hJ.ext hE3
  have hBg:=hBg.ext hE3
  have hS:=hS.ext hE3
  have hq:=hq.ext hE3
  have hUp:=hUp.ext hE3
  have hF:=hF.ext hE3
  have hB3:=hN3.blk
  refine Az rfl (by conv=>lhs;whnf) (by simp[Value.oneCell']) (by exact sz187) hB3 (by rfl) ?_
  intro w4 hP4
  have hX:=hX.put hP4 (True.intro)
  have hJ:=hJ0.ext (hN3.ext.put hP4 (by rw[hN3.g_eq];exact Nat.le_refl _))
  have hBg:=hBg0.ext (hN3.ext.put hP4 (by rw[hN3.g_eq];exact Nat.le_refl _))
  have hS:=hS0.ext (hN3.ext.put hP4 (by rw[hN3.g_eq];exact Nat.le_refl _))
  have hq:=hq0.ext (hN3.ext.put hP4 (by rw[hN3.g_eq];exact Nat.le_refl _))
  have hUp:=hUp0.ext (hN3.ext.put hP4 (by rw[hN3.g_eq];exact Nat.le_refl _))
  have hF:=hF0.ext (hN3.ext.put hP4 (by rw[hN3.g_eq];exact Nat.le_refl _))
  have hB3:=hP4.blk
  refine pA (pA (Ac (t_n (Ab (Ab ?_)))))
  have hWr2:=Ext.refl w4
  refine F6 (ι:=Unit) [15,16,17,18,19,20,21] (fun _=>[(21,.bool (decide ((openF rest).2.2≠0∨((openF rest).1.1.toNat:Int)≠1)))]) (fun _ w'=>Ext w4 w') ?_ ?_
  ·skip
   refine Aa ?_
   refine pM ?_
   refine p1 (A2 rfl rfl) ?_
   refine p1b (Al (by conv=>lhs;whnf)) (fun hb2_2=>?_) (fun hb2_2=>?_)
   ·try simp only[dA,dB,dC,dD,dE,dF,dG,Int.not_lt,Int.not_le] at hb2_2
    refine gF 17 (gF 17 (gF 17 ?_))
    refine p1 (Ap rfl (by conv=>lhs;whnf)) ?_
    refine Ac ?_
    refine t_n (aK () ⟨congrArg Value.bool (by exact(decide_eq_true (by omega)).symm),trivial⟩ hWr2)
   try simp only[dA,dB,dC,dD,dE,dF,dG,Int.not_lt,Int.not_le] at hb2_2
   refine Eng.g1 17 rfl rfl (Ad Yh sz5 rfl) ?_
   refine Eng.g1 17 rfl rfl (Ae un5 rfl (hB3.cell (rfl))) ?_
   refine Eng.g1 17 rfl rfl (A2 rfl rfl) ?_
   refine p1 (Aq rfl (by conv=>lhs;whnf)) ?_
   refine Ac ?_
   refine t_n (aK () ⟨congrArg Value.bool (by exact decide_eq_decide.2 (by omega)),trivial⟩ hWr2)
  rintro _ Gr2 w5 hE5
  have hX:=hX.ext hE5
  have hJ:=hJ.ext hE5
  have hBg:=hBg.ext hE5
  have hS:=hS.ext hE5
  have hq:=hq.ext hE5
  have hUp:=hUp.ext hE5
  have hF:=hF.ext hE5
  have hB3:=hB3.ext hE5
  refine t_n ?_
  refine As rfl (fun hc21=>?_) (fun hc21=>?_)
  ·try simp only[dA,dB,dC,dD,dE,dF,dG,Int.not_lt,Int.not_le] at hc21
   have hnb:=Nb hne (fun h=>by rcases hc21 with h1 | h1;(· exact h1 h.1);(· exact h1 (by rw[h.2];rfl)))
   have hnone:B6 b0=none:=by rw[hC,hnb];rfl
   refine Ab ?_
   refine Wf.toWp (Lu 1 rfl ?_)
   refine pM (Ac (t_n ?_))
   refine Nq rfl rfl (hY pre ⟨none,0,0,[],4⟩ _ hJ.h ⟨Own.nil _ _ _ _ _,.inr ⟨rfl,hnone⟩,by omega⟩) (fun e w0 hr=>by rcases hr with ⟨h,_⟩ | ⟨h,_⟩ <;> exact⟨_,h⟩) ?_
   rintro v6 w6 (⟨hv6,hJ6,hRn6⟩ | ⟨hv6,hJx6⟩) <;> cases hv6
   ·skip
    have hJ:Hd J (But g 23) (pre++[⟨none,0,0,[],4⟩]) _:=hJ.to hJ6
    refine I4 rfl ?_
    refine Ac (t_n (t_n (Ak (t_r (b_r (t_r (b_r ?_)))))))
    refine end0 rfl ?_
    exact .inl ⟨_,fun hh=>absurd (hh _ (List.mem_append_right _ (List.mem_singleton.2 rfl))) (by decide),hJ.h⟩
   skip
   have hJx:=hJx6
   refine I4 rfl ?_
   refine Ac (t_n (t_n (Ak (t_r (b_r (t_r (b_r ?_)))))))
   refine end0 rfl ?_
   exact .inr ⟨_,trivial,hJx⟩
  try simp only[dA,dB,dC,dD,dE,dF,dG,Int.not_lt,Int.not_le] at hc21
  have hk0:(openF rest).2.2=0:=Classical.byContradiction fun h=>hc21 (.inl h)
  have hk1:(openF rest).1.1=1:=Kj.1 (Classical.byContradiction fun h=>hc21 (.inr h))
  have hu:=Wr hk0
  rw[hrl] at hu
  have hCo:=Ks hne ⟨hk0,hk1⟩
  refine Ai (t_n (Ab (Ab ?_)))
  refine Wf.toWp (Lu 3 rfl ?_)
  refine pM ?_
  refine p1 (Ad Nt sz23 rfl) ?_
  refine p1 (Ae un23 rfl (hB3.cell (rfl))) ?_
  refine Ac (t_n ?_)
  refine Nq rfl rfl (hY pre ⟨qo,mo,co,(openF rest).1.2,0⟩ _ hJ.h ⟨hF,.inl rfl,by omega⟩) (fun e w0 hr=>by rcases hr with ⟨h,_⟩ | ⟨h,_⟩ <;> exact⟨_,h⟩) ?_
  rintro v7 w7 (⟨hv7,hJ7,hRn7⟩ | ⟨hv7,hJx7⟩) <;> cases hv7
  ·skip
   have hJ:Hd J (But g 23) (pre++[⟨qo,mo,co,(openF rest).1.2,0⟩]) _:=hJ.to hJ7
   have hBg:=hBg.rndG hRn7 (.inr (.inr rfl))
   have hS:=hS.rndG hRn7 hBB (by decide)
   have hq:=hq.rndG hRn7 h3
   have hUp:Up Bl _:=⟨Nat.le_trans hUp.le hRn7.size⟩
   refine I4 rfl ?_
   refine p1 (Fc rfl) ?_
   refine Ac (t_n (t_n ?_))
   refine c_f rfl ?_
   refine Ai (t_n (Aa ?_))
   refine p1 (Ae un23 rfl (hBg.cell (rfl))) ?_
   refine pM ?_
   refine p1 (Es u23 sz5 rfl rfl (by omega)) ?_
   refine Ar rfl (by conv=>lhs;whnf) rfl rfl sz23 hBg (by simp) ?_
   intro w8 hP8
   have hX:=hX.put hP8 (True.intro)
   have hJ:=hJ.rel (But.ofPut hP8)
   have hBg:=hP8.blk
   try simp only[List.setIfInBounds_toArray,List.set_cons_zero,List.set_cons_succ] at hBg
   have hS:=hS.mod (hP8.mod g (Nat.le_refl _)) (by omega) (by decide)
   have hq:=hq.but (But.ofPut hP8) (by omega)
   have hUp:=hUp.put hP8
   refine Ac (b_n ?_)
   refine t_n (At.mk ((adw p c (openF rest).2.1 1,n - (openF rest).2.1,c - (openF rest).2.1,rest.drop (openF rest).2.1,pre++[⟨qo,mo,co,(openF rest).1.2,0⟩])) (by repeat (first | exact Agr.refl _ _ | exact Agr.hav _ _ _ | refine Agr.upd rfl ?_ | refine Agr.updR rfl ?_ | refine Agr.updL ?_ _ rfl | refine Agr.hav' rfl ?_)) trivial ?_)
   exact⟨⟨hX,⟨hJ,hBg,hS.dropI _ (by omega),hq,hUp,fun y hy=>(List.mem_append.1 hy).elim (hez y) (fun hy=>by simp only[List.mem_singleton] at hy;rw[hy]),by rw[List.length_append];simp;omega,Vt hC rfl hCo⟩⟩,by(dsimp only;omega)⟩
  skip
  have hJx:=hJx7
  refine I4 rfl ?_
  refine p1 (Fc rfl) ?_
  refine Ac (t_n (t_n ?_))
  refine c_t rfl ?_
  refine Ak (t_r (b_r (t_r (b_r ?_))))
  refine end0 rfl ?_
  exact .inr ⟨_,trivial,hJx⟩
 try simp only[dA,dB,dC,dD,dE,dF,dG,Int.not_lt,Int.not_le] at hc8
 have hr0:rest=[]:=List.length_eq_zero_iff.1 (by have:=hS.len;omega)
 have hfin:B6 b0=some (pre.map (·.body)):=by rw[hC,hr0,Ha];simp
 refine Ba (t_e (t_e (Bu ?_)))
 refine end0n rfl ?_
 exact .inl ⟨_,fun _=>hfin,hJ.h⟩
theorem Xh (b0:List UInt8) (Bl Bd B g:Nat) (p0:Option Addr) (n0 c0:Nat) (w:World) (hBg:Blk w g #[.slice p0 n0 c0] 23) (hS:Sl kByte 5 B w p0 n0 c0 b0) (hq:Qt w) (hUp:Up Bl w) (h3:4<Bd) (hBB:B≤Bd) (hBg2:Bd≤g) :
    SeqOk Tryz.prog 132 [.pointer (some ⟨g,0,none⟩)] encC (RndG Bd g [22,23,31]) (SC b0) (fun _=>True) (XC Bl b0) (But g 23) w :=
  ⟨fun l J Jx W hx hJ hJx hY h0=>Calls.mono (Xi b0 Bl Bd B g p0 n0 c0 l J Jx W (hBg.ext hx) (hS.ext hx) (hq.ext hx) (hUp.ext hx) h3 hBB hBg2 ⟨h0,hJ,fun _ _ h => .ofExt h⟩ hY).out
    fun e w' ⟨v,he,hr⟩=>⟨⟨v,he⟩,hr⟩⟩
theorem Ot (p:Option Addr) (n c:Nat) (w:World) :
    Ret Tryz.prog 87 [.slice p n c] w (fun v w'=>(∃ g,v = .func (.func 132) #[] #[.pointer (some ⟨g,0,none⟩)]∧g=w.heap.size∧Blk w' g #[.slice p n c] 23)∧Ext w w'):=by
 have hX:=Ext.refl w
 refine eN 4 Tryz.func87 ?_
 refine Ab (Aa ?_)
 refine Cq (by conv=>lhs;whnf) rfl ?_
 intro w1 g1 hN1
 have hE1:=hN1.ext
 have hX:=hX.ext hE1
 have hB1:=hN1.blk
 refine pA (Ac (t_n (Ab (Aa ?_))))
 refine p1 (Bi (fs:=[]) (cs:=[.pointer (some ⟨g1,0,none⟩)]) rfl rfl) ?_
 refine pA (Ac (t_n (Ak ?_)))
 refine eR1 ?_
 exact⟨⟨g1,rfl,hN1.g_eq,hB1⟩,hX⟩
theorem Ui (xs:List UInt8) (B:Nat) (p:Option Addr) (n c:Nat) (w:World) (hl:Sl kByte 5 B w p n c xs) (hq:Qt w) (hBw:B≤w.heap.size) (hn:n≤100000000) :
    Ret Tryz.prog 38 [.slice p n c] w (fun v w'=>(∃ q m c',v = .tuple #[.slice q m c',.int .i64 (getSg xs).2]∧Own (kOb w.heap.size) 23 0 w.heap.size w' q m c' (getSg xs).1)∧Ext w w'):=by
 have hX:=Ext.refl w
 refine Xe 19 _ Tryz.func38 rfl rfl (Nat.le_of_ble_eq_true rfl) rfl ?_
 refine Ab (Aa ?_)
 refine A6 zr22 ?_
 intro w1 g2 hN2
 have hE1:=hN2.ext
 have hX:=hX.ext hE1
 have hB2:=hN2.blk
 have hl2:=hB2.lt
 refine A6 zr31 ?_
 intro w2 g3 hN3
 have hE2:=hN3.ext
 have hX:=hX.ext hE2
 have hB2:=hB2.ext hE2
 have hB3:=hN3.blk
 refine Ac (t_n (Ab (Aa ?_)))
 have hl3:=hB3.lt
 refine A6 zr22 ?_
 intro w3 g4 hN4
 have hE3:=hN4.ext
 have hX:=hX.ext hE3
 have hB2:=hB2.ext hE3
 have hB3:=hB3.ext hE3
 have hB4:=hN4.blk
 refine Ac (t_n (Ab (Ab ?_)))
 have e2:=hN2.g_eq
 have e3:=hN3.g_eq
 have e4:=hN4.g_eq
 have s2:=hN2.ext.size
 have s3:=hN3.ext.size
 have hg2:w.heap.size≤g2:=by omega
 have hg3:w.heap.size≤g3:=by omega
 have hg4:w.heap.size≤g4:=by omega
 have h23:g2<g3:=by omega
 have h34:g3<g4:=by omega
 have hl4:=hB4.lt
 have hB2:Blk _ g2 #[.slice none 0 0] 22:=hB2
 have hB3:Blk _ g3 #[.int .i64 0] 31:=hB3
 have hB4:Blk _ g4 #[.slice none 0 0] 22:=hB4
 have hlen:=hl.len
 refine Aa ?_
 refine pM ?_
 refine Ah Tryz.func87 fn87 fb87 (Ot _ _ _ _) rfl ?_
 rintro v4 w4 ⟨⟨gb,rfl,hgb,hBb⟩,hE4⟩
 have hX:=hX.ext hE4
 have hB2:=hB2.ext hE4
 have hB3:=hB3.ext hE4
 have hB4:=hB4.ext hE4
 refine Ac (t_n (Am ?_))
 obtain⟨B1,hB1⟩:∃ B1,B1=w4.heap.size:=⟨_,rfl⟩
 have hgB:gb<B1:=by have:=hBb.lt;omega
 have hXr:=hX.size
 have hgb4:g4<gb:=by omega
 have hq3:=hq.lt
 refine Ago (ps:=[9,10]) ([]) (fun pre W=>Ext w W∧Blk W g2 #[.slice none 0 0] 22∧Blk W g3 #[.int .i64 0] 31∧(∃ q m d,Blk W g4 #[.slice q m d] 22∧Own (kOb w.heap.size) 23 0 B1 W q m d (pre.map (·.body)))∧(∀ x∈pre,x.e=0)) (fun c pre W=>c = .ret∧Ext w W∧Blk W g2 #[.slice none 0 0] 22∧Blk W g3 #[.int .i64 4] 31∧B6 xs=none) rfl rfl Tryz.func132 fn132 fb132 (fun _ _ h=>h.size) (fun _ _ h => .ofLp h hXr) (fun _ _ _ h k=>h.trans k) (Xh xs w.heap.size w.heap.size B gb _ _ _ _ hBb (hl.ext hX) (hq.ext hX) ⟨hXr⟩ hq3 hBw (by omega)) (fun s x A B h m=>⟨h.1.lp m (Nat.zero_le _),h.2⟩) (fun _ _ h => .ofExt h) (But.rl) (fun _=>rfl) (by rintro s A B ⟨h1,h2,h3,⟨q,m,d,h4,h5⟩,h6⟩ x;exact⟨But.extTo h1 x (by omega),h2.but x (.inr (by decide)),h3.but x (.inr (by decide)),⟨q,m,d,h4.but x (.inr (by decide)),h5.but x (.inl hgB) (Nat.zero_le _) (by simp[kOb])⟩,h6⟩) (by rintro s A B ⟨h1,h2,h3,⟨q,m,d,h4,h5⟩,h6⟩ x;exact⟨h1.lp x hXr,h2.lp x,h3.lp x,⟨q,m,d,h4.lp x,h5.lp x (Nat.zero_le _)⟩,h6⟩) (by rintro c s A B ⟨h0,h1,h2,h3,h4⟩ x;exact⟨h0,But.extTo h1 x (by omega),h2.but x (.inr (by decide)),h3.but x (.inr (by decide)),h4⟩) (by rintro c s A B ⟨h0,h1,h2,h3,h4⟩ x;exact⟨h0,h1.lp x hXr,h2.lp x,h3.lp x,h4⟩) (⟨hX,hB2,hB3,⟨none,0,0,hB4,Own.nil _ _ _ _ _⟩,by simp⟩) ?_ ?_ ?_
 ·intro x
  apply Exists.intro
  refine⟨fun l W=>?ha,fun l pre W hsz hI hXx=>?hb⟩
  case ha =>
   refine Yl ?_
   refine Gd rfl ?_
   refine pA (Ac (t_n (t_n ?_)))
   refine Gd rfl ?_
   refine pA (Ac (t_n (t_n ?_)))
   exact⟨rfl,rfl⟩
  case hb =>
   obtain⟨hX,hB2,hB3,⟨q,m,d,hB4,hO⟩,hez⟩:=hI
   obtain⟨hF,hxe,hpl⟩:=hXx
   have hZ:=Nn.refl W
   have hR:=RndG.refl w.heap.size gb [22,23,31] W
   have hol:=hO.len
   rw[List.length_map] at hol
   refine Tl ?_
   refine Yl ?_
   refine Yl ?_
   refine Gd rfl ?_
   refine pM ?_
   refine p1 (A2 rfl rfl) ?_
   refine Ac (t_n (t_n ?_))
   refine Agc rfl (fun hc12=>?_) (fun hc12=>?_)
   ·have hxe4:x.e=4∧B6 xs=none:=hxe.resolve_left hc12
    refine Yl ?_
    refine Gd rfl ?_
    refine pM ?_
    refine Ar rfl (by conv=>lhs;whnf) rfl rfl sz22 hB2 Nat.zero_lt_one ?_
    intro w6 hP6
    have hX:=hX.put hP6 (hg2)
    have hB2:=hP6.blk
    try simp only[List.setIfInBounds_toArray,List.set_cons_zero,List.set_cons_succ] at hB2
    have hB3:=hP6.keep hB3 (by omega)
    have hB4:=hP6.keep hB4 (by omega)
    have hZ:=hZ.put hP6
    refine Ar rfl (by conv=>lhs;whnf) rfl rfl sz31 hB3 Nat.zero_lt_one ?_
    intro w7 hP7
    have hX:=hX.put hP7 (hg3)
    have hB2:=hP7.keep hB2 (by omega)
    have hB3:=hP7.blk
    try simp only[List.setIfInBounds_toArray,List.set_cons_zero,List.set_cons_succ] at hB3
    have hB4:=hP7.keep hB4 (by omega)
    have hZ:=hZ.put hP7
    refine Ac (t_n (t_n ?_))
    refine Agb ?_
    refine t_r (b_r ?_)
    exact⟨fun k hn hk=>hZ.old k hk hn,rfl,hX,hB2,by rw[hxe4.1] at hB3;exact hB3,hxe4.2⟩
   have hx0:x.e=0:=Classical.byContradiction hc12
   refine Afj ?_
   refine t_n ?_
   refine Gd rfl ?_
   refine p1 (Ae un22 rfl (hB4.cell (rfl))) ?_
   refine pM ?_
   refine Au u22 inf23 rfl (by decide) (fun base hb=>Cj (by rfl) base hb) ?_
   intro w8 g16 hN16
   have hE8:=hN16.ext
   have hX:=hX.ext hE8
   have hB2:=hB2.ext hE8
   have hB3:=hB3.ext hE8
   have hB4:=hB4.ext hE8
   have hO:=hO.ext hE8
   have hF:=hF.ext hE8
   have hZ:=hZ.ext hE8
   have hR:=hR.ext hE8
   have hJ:=X5 hN16 hF
   obtain⟨cssJ,hAJ,hsrJ⟩:=Dx u22 hJ Lk
   have hB9:=hR.size
   refine Bv (d:=(kOb _)) ([x.body]) u22 inf23 rfl Lk rfl rfl hO (hsrJ) rfl (hAJ) (rfl) (by omega) (by omega) (by omega) (by omega) (by simp[kOb]) ?_
   intro p17 c17 w9 hO hM9
   have hX:=hX.mod hM9 (by omega)
   have hB2:=hB2.mod hM9 (by decide)
   have hB3:=hB3.mod hM9 (by decide)
   have hB4:=hB4.mod hM9 (by decide)
   have hZ:=hZ.mod hM9 
   have hR:=hR.mod hM9 ⟨by decide,by omega,by omega⟩
   refine Ar rfl (by conv=>lhs;whnf) rfl rfl sz22 hB4 Nat.zero_lt_one ?_
   intro w10 hP10
   have hX:=hX.put hP10 (hg4)
   have hB2:=hP10.keep hB2 (by omega)
   have hB3:=hP10.keep hB3 (by omega)
   have hB4:=hP10.blk
   try simp only[List.setIfInBounds_toArray,List.set_cons_zero,List.set_cons_succ] at hB4
   have hZ:=hZ.put hP10
   have hR:=hR.put hP10 ⟨by decide,by omega,by omega⟩
   have hO:=hO.mod (hP10.mod 0 (Nat.zero_le _)) (Nat.zero_le _) (by simp[kOb])
   refine Ac (t_n (b_n ?_))
   exact⟨hR,fun k hn hk=>hZ.old k hk hn,hX,hB2,hB3,⟨_,_,_,hB4,by rw[List.map_append];exact hO⟩,fun y hy=>(List.mem_append.1 hy).elim (hez y) (fun hy=>by simp only[List.mem_singleton] at hy;rw[hy];exact hx0)⟩
 ·rintro D zs_ w5 hsz hS ⟨hX,hB2,hB3,⟨q,m,d,hB4,hO⟩,hez⟩ hDf
  have hDs:Dfs w.heap.size w5 [D]:=(Dfs.nil _ _).cons hDf (Nat.le_trans hXr hsz) (by simp)
  have hfin:=hS hez
  have hp:getSg xs=(zs_.map (·.body),0):=by unfold getSg;rw[hfin]
  refine b_n (t_n (Ab (Aa ?_)))
  refine p1 (Ae un22 rfl (hB4.cell (rfl))) ?_
  refine Ar rfl (by conv=>lhs;whnf) rfl rfl sz22 hB2 Nat.zero_lt_one ?_
  intro w11 hP11
  have hX:=hX.put hP11 (hg2)
  have hB2:=hP11.blk
  try simp only[List.setIfInBounds_toArray,List.set_cons_zero,List.set_cons_succ] at hB2
  have hB3:=hP11.keep hB3 (by omega)
  have hB4:=hP11.keep hB4 (by omega)
  have hO:=hO.mod (hP11.mod 0 (Nat.zero_le _)) (Nat.zero_le _) (by simp[kOb])
  have hDs:=hDs.mod (hP11.mod 0 (Nat.zero_le _)) (Nat.zero_le _) trivial
  refine Ar rfl (by conv=>lhs;whnf) rfl rfl sz31 hB3 Nat.zero_lt_one ?_
  intro w12 hP12
  have hX:=hX.put hP12 (hg3)
  have hB2:=hP12.keep hB2 (by omega)
  have hB3:=hP12.blk
  try simp only[List.setIfInBounds_toArray,List.set_cons_zero,List.set_cons_succ] at hB3
  have hB4:=hP12.keep hB4 (by omega)
  have hO:=hO.mod (hP12.mod 0 (Nat.zero_le _)) (Nat.zero_le _) (by simp[kOb])
  have hDs:=hDs.mod (hP12.mod 0 (Nat.zero_le _)) (Nat.zero_le _) trivial
  refine Ac (t_n (Ak ?_))
  (exact Yo [D] rfl un22 un31 rfl rfl hB2 hB3 rfl hDs fun wz hLz=>⟨⟨_,_,_,by rw[hp],by rw[hp];exact(hO.lower (by omega)).lp hLz (Nat.zero_le _)⟩,hX.lp hLz (Nat.le_refl _)⟩)
 rintro D c pre w5 hsz hSp ⟨rfl,hX,hB2,hB3,hnone⟩ hDf
 have hDs:Dfs w.heap.size w5 [D]:=(Dfs.nil _ _).cons hDf (Nat.le_trans hXr hsz) (by simp)
 have hp:getSg xs=([],4):=by unfold getSg;rw[hnone]
 refine Ak (b_r (t_r ?_))
 (exact Yo [D] rfl un22 un31 rfl rfl hB2 hB3 rfl hDs fun wz hLz=>⟨⟨_,_,_,by rw[hp],by rw[hp];exact Own.nil _ _ _ _ _⟩,hX.lp hLz (Nat.le_refl _)⟩)
end Go.Proofs.Eng
end
section
set_option maxRecDepth 100000
set_option maxHeartbeats 4000000
namespace Go.Proofs.Eng
open Go.RowKit
open Extern.Stop (cell)
theorem u51i:Tryz.prog.underlying 139=some (.interface (Tryz.prog.methodsAt 139)):=by kernel_rfl
theorem A3 (n:Int) (w:World) (hg:Gl w) :
    Ret Tryz.prog 49 [.int .i64 n] w (fun v w'=>v = .string (toStr (nameF n))∧Ext w w'):=by
 have hX:=Ext.refl w
 refine eN 18 Tryz.func49 ?_
 refine Ab (Aa ?_)
 refine pA (Ac (t_n (Ab (Ab ?_))))
 have hWr1:=Ext.refl w
 refine F6 (ι:=Unit) [4,5,6,7,8,9] (fun _=>[(9,.bool (decide (n<1∨999999<n)))]) (fun _ w'=>Ext w w') ?_ ?_
 ·skip
  refine Aa ?_
  refine pM ?_
  refine p1 (Bx rfl rfl) ?_
  refine p1b (Al (by conv=>lhs;whnf)) (fun hb1_2=>?_) (fun hb1_2=>?_)
  ·try simp only[dA,dB,dC,dD,dE,dF,dG,Int.not_lt,Int.not_le] at hb1_2
   refine gF 6 (gF 6 ?_)
   refine p1 (Ap rfl (by conv=>lhs;whnf)) ?_
   refine Ac ?_
   refine t_n (aK () ⟨congrArg Value.bool (by exact(decide_eq_true (by omega)).symm),trivial⟩ hWr1)
  try simp only[dA,dB,dC,dD,dE,dF,dG,Int.not_lt,Int.not_le] at hb1_2
  refine gM 6 ?_
  refine g1 6 rfl rfl (C0 rfl rfl) ?_
  refine p1 (Aq rfl (by conv=>lhs;whnf)) ?_
  refine Ac ?_
  refine t_n (aK () ⟨congrArg Value.bool (by exact decide_eq_decide.2 (by omega)),trivial⟩ hWr1)
 rintro _ Gr1 w1 hE1
 have hX:=hX.ext hE1
 refine t_n ?_
 refine As rfl (fun hc9=>?_) (fun hc9=>?_)
 ·try simp only[dA,dB,dC,dD,dE,dF,dG,Int.not_lt,Int.not_le] at hc9
  have hp:nameF n=[]:=if_pos hc9
  refine Ab (Aa ?_)
  refine pA (Ac (t_n (Ak (t_r ?_))))
  refine eR1 ?_
  exact⟨by rw[hp];rfl,hX⟩
 try simp only[dA,dB,dC,dD,dE,dF,dG,Int.not_lt,Int.not_le] at hc9
 have hin:=Zr (n:=n) (by omega) (by omega)
 have hp:nameF n=nameL n.toNat:=O8 (by omega) (by omega)
 refine Ai (t_n (Ab (Aa ?_)))
 refine pM ?_
 refine Ah Tryz.func96 fn96 fb96 (Abx n (by omega) (by omega) _ (hg.ext hX)) rfl ?_
 rintro v2 w2 ⟨rfl,hE2⟩
 have hX:=hX.ext hE2
 refine pA (Ac (t_n (Ab (Aa ?_))))
 refine pM ?_
 refine p1 (N7 u9 rfl) ?_
 refine p1 (N3 (xs:=List.replicate 6 48) u9 rfl rfl (by rw[List.length_replicate];exact hin.1)) ?_
 refine p1 (Od (xs:=begF) rfl rfl (by rw[List.length_drop,List.length_replicate];show 4+_≤_;omega)) ?_
 refine pM ?_
 refine p1 (Od rfl rfl (by rw[List.length_append,List.length_drop,List.length_replicate];show 4+_+_≤_;omega)) ?_
 refine pA (Ac (t_n (Ak ?_)))
 refine eR1 ?_
 exact⟨by rw[hp,← hin.2,List.drop_replicate,List.append_assoc],hX⟩
theorem Ou (xs:List UInt8) (w:World) (hg:Gl w) :
    Ret Tryz.prog 36 [.string (toStr xs)] w (fun v w'=>(∃ r:Int,v = .int .i64 r∧IsNum xs r)∧Ext w w'):=by
 have hX:=Ext.refl w
 refine eN 33 Tryz.func36 ?_
 refine Ab (Aa ?_)
 refine pA (Ac (t_n (Ab (Aa ?_))))
 refine pM ?_
 refine Ah Tryz.func85 fn85 fb85 (Aee xs _) rfl ?_
 rintro v1 w1 ⟨⟨hp,s2,rfl,hh1,hh0⟩,hE1⟩
 have hX:=hX.ext hE1
 refine pM ?_
 refine p1 (Ao rfl rfl) ?_
 refine p1 (Ao rfl rfl) ?_
 refine pA (pA (Ac (t_n (Ab (Ab ?_)))))
 have hWr2:=Ext.refl w1
 refine F6 (ι:=Unit) [12,13,14,15,16,17,18] (fun _=>[(18,.bool (decide (hp=false∨s2.length≠6)))]) (fun _ w'=>Ext w1 w') ?_ ?_
 ·skip
  refine Aa ?_
  refine pM ?_
  refine p1 (Fc rfl) ?_
  refine p1b (Al (by conv=>lhs;whnf)) (fun hb2_2=>?_) (fun hb2_2=>?_)
  ·refine gF 14 (gF 14 (gF 14 ?_))
   refine p1 (Ap rfl (by conv=>lhs;whnf)) ?_
   refine Ac ?_
   refine t_n (aK () ⟨congrArg Value.bool (by(simp_all;done)),trivial⟩ hWr2)
  refine gM 14 ?_
  refine g1 14 rfl rfl (N7 u9 rfl) ?_
  refine g1 14 rfl rfl (A2 rfl rfl) ?_
  refine p1 (Aq rfl (by conv=>lhs;whnf)) ?_
  refine Ac ?_
  refine t_n (aK () ⟨congrArg Value.bool (by grind),trivial⟩ hWr2)
 rintro _ Gr2 w2 hE2
 have hX:=hX.ext hE2
 refine t_n ?_
 refine As rfl (fun hc18=>?_) (fun hc18=>?_)
 ·have hpp:IsNum xs 0:=Adt hh1 hh0 hc18
  refine Ab (Aa ?_)
  refine pA (Ac (t_n (Ak (t_r ?_))))
  refine eR1 ?_
  exact⟨⟨_,rfl,hpp⟩,hX⟩
 have hpt:hp=true:=by cases hp;(· exact absurd (.inl rfl) hc18);(· rfl)
 have hs6:s2.length=6:=Classical.byContradiction fun h=>hc18 (.inr h)
 have hxs:=hh1 hpt
 refine Ai (t_n (Ab (Aa ?_)))
 refine pM ?_
 refine Ah Tryz.func86 fn86 fb86 (Acu s2 (by omega) _ (hg.ext hX)) rfl ?_
 rintro v3 w3 ⟨⟨r,ev,b,rfl,hA⟩,hE3⟩
 have hX:=hX.ext hE3
 refine pM ?_
 refine p1 (Ao rfl rfl) ?_
 refine p1 (Ao rfl rfl) ?_
 refine pA (pA (Ac (t_n (Ab (Ab ?_)))))
 have hWr5:=Ext.refl w3
 refine F6 (ι:=Unit) [24,25,26,27,28,29,30,31] (fun _=>[(31,.bool (decide (b=true∨toStr (nameF r)≠toStr xs)))]) (fun _ w'=>Ext w3 w') ?_ ?_
 ·skip
  refine Aa ?_
  refine pM ?_
  refine p1 (Yv u51i rfl rfl (hA.imp (fun h=>⟨h.1,h.2.2⟩) fun h=>⟨h.1,h.2.2⟩)) ?_
  refine p1b (Al (by conv=>lhs;whnf)) (fun hb5_2=>?_) (fun hb5_2=>?_)
  ·refine gF 26 (gF 26 (gF 26 (gF 26 ?_)))
   refine p1 (Ap rfl (by conv=>lhs;whnf)) ?_
   refine Ac ?_
   refine t_n (aK () ⟨congrArg Value.bool (by(simp_all;done)),trivial⟩ hWr5)
  refine gM 26 ?_
  refine B8 26 rfl rfl ?_
  refine Ah Tryz.func49 fn49 fb49 (A3 r _ (hg.ext hX)) rfl ?_
  rintro v5 w5 ⟨rfl,hE5⟩
  have hWr5:=hWr5.ext hE5
  refine gM 26 ?_
  refine g1 26 rfl rfl (Eh rfl rfl) ?_
  refine p1 (Aq rfl (by conv=>lhs;whnf)) ?_
  refine Ac ?_
  refine t_n (aK () ⟨congrArg Value.bool (by(simp_all;done)),trivial⟩ hWr5)
 rintro _ Gr5 w4 hE4
 have hX:=hX.ext hE4
 refine t_n ?_
 refine As rfl (fun hc31=>?_) (fun hc31=>?_)
 ·have hpp:IsNum xs 0:=Abe hxs hA hc31
  refine Ab (Aa ?_)
  refine pA (Ac (t_n (Ak (t_r ?_))))
  refine eR1 ?_
  exact⟨⟨_,rfl,hpp⟩,hX⟩
 have hpp:IsNum xs r:=Abd (fun e=>by have:=congrArg List.length hxs;rw[e,List.length_append] at this;simp[begF] at this;omega) (C3 (Classical.byContradiction fun h=>hc31 (.inr h)))
 refine Ai (t_n (Ab (Aa ?_)))
 refine pM (pA (Ac (t_n (Ak ?_))))
 refine eR1 ?_
 exact⟨⟨_,rfl,hpp⟩,hX⟩
end Go.Proofs.Eng
end
section
set_option maxRecDepth 100000
set_option maxHeartbeats 4000000
namespace Go.Proofs.Eng
open Go.RowKit
open Extern.Stop (cell)
theorem fb36:Tryz.f36.body.isNone=false:=by kernel_rfl
theorem fb95:Tryz.f95.body.isNone=false:=by kernel_rfl
theorem fn36 : ngB Tryz.f36 = false := by kernel_rfl
theorem fn95 : ngB Tryz.f95 = false := by kernel_rfl
end Go.Proofs.Eng
end
section
set_option maxRecDepth 100000
set_option maxHeartbeats 4000000
namespace Go.Proofs.Eng
open Go.RowKit
open Extern.Stop (cell)
theorem Nf (s:ByteArray) (w:World) (hg:Gl w):Ret Tryz.prog 36 [.string s] w (fun v w'=>(∃ r:Int,v = .int .i64 r∧(r=0↔¬ SegN s))∧Ext w w'):=by
  have h:=Ou s.data.toList w hg
  rw[T9] at h
  refine h.imp ?_
  rintro v w' ⟨⟨r,rfl,hr⟩,hx⟩
  have:=Zs hr
  rw[T9] at this
  exact⟨⟨r,rfl,this⟩,hx⟩
theorem Vs {keep:ByteArray} {ns:List ByteArray} {k:Nat} (h:k<ns.length) (D:DS):cleanL keep D (ns.drop k)=if keepN (ns.getD k ByteArray.empty) keep=true then cleanL keep D (ns.drop (k+1)) else andD (Bj D (ns.getD k ByteArray.empty)) fun D=>cleanL keep D (ns.drop (k+1)):=by
  rw[List.drop_eq_getElem_cons h,List.getD_eq_getElem?_getD,List.getElem?_eq_getElem h];rfl
theorem Good.few {D:DS} {i:Nat} (h:Good D i):D.l.length≤64:=h.ok.few
theorem H9 (gd:Nat) (S:Nat→Prop) (D:DS) (w:World) (hD:Dsk S w gd D) (hok:DOk D) (hst:D.steps<4611686018427380000) (hle:D.left≤9223372036854775807) (hnm:∀ x∈D.l,A1 x.1=true) (hS:∀ k,S k→6≤k) (hg:Gt w) (keep:ByteArray) :
    Ret Tryz.prog 47 [.pointer (some ⟨gd,0,none⟩),.string keep] w (fun v w'=>v = .int .i64 (cleanD D keep).2∧Dsk (grow S w w') w' gd (cleanD D keep).1∧ModS S ED w w'):=by
 have hgs:=hg.size
 have hX:=ModS.refl S ED w
 refine eN 34 Tryz.func47 ?_
 refine Ab (Aa ?_)
 refine pA (Ac (t_n (Ab (Ab (Aa ?_)))))
 refine pM ?_
 refine Ah Tryz.func35 fn35 fb35 (R4 gd S D _ hD hok) rfl ?_
 rintro v1 w1 ⟨⟨qn,cn,rfl,hN⟩,hE1⟩
 have hX:=hX.ext hE1
 have hD:=hD.ext hE1
 have hg:=hg.ext hE1
 have hN:=hN.sl
 refine p1 (Aj u74 rfl) ?_
 refine pM (Ac (t_n (Am ?_)))
 have hfew:=hok.few
 have hnl:(D.l.map (·.1)).length=D.l.length:=List.length_map _
 refine Bg (ι:=Nat) [4,6,7,11,12,13,14,15,16,17,18,19,20,21,22,23,24,25,26,27,28,29,30,31,32,33] (fun k=>[(11,.int .i64 (k:Int))]) (fun k w'=>ModS S ED w w'∧(k≤D.l.length∧Sl kStr 9 0 w' qn D.l.length cn (D.l.map (·.1))∧Gt w'∧∃ Dk,Dsk (grow S w w') w' gd Dk∧Good Dk (D.steps+k)∧cleanD D keep=cleanL keep Dk ((D.l.map (·.1)).drop k))) (fun k=>D.l.length - k) (0) ⟨rfl,trivial⟩ ⟨hX,Nat.zero_le _,hN,hg,D,hD.grown w,⟨hok,Nat.le_refl _,hle,hnm⟩,rfl⟩ ?_
 rintro k GL0 w2 ⟨hE2,hk,hN,hg,Dk,hD,hgk,hcl⟩
 have hX:=hE2
 refine Ab (Aa ?_)
 refine p1 (Bx rfl rfl) ?_
 refine Ac (t_n (Ab ?_))
 refine As rfl (fun hc12=>?_) (fun hc12=>?_)
 ·refine Ai (t_n (Ab (Am (Ab ?_))))
  have hcd:=Vs (keep:=keep) (ns:=D.l.map (·.1)) (k:=k) (by omega) Dk
  have hnk:A1 ((D.l.map (·.1)).getD k ByteArray.empty)=true:=by
    have hm:=Cn (z:=ByteArray.empty) (xs:=D.l.map (·.1)) (i:=k) (by omega) rfl
    obtain⟨x,hx,e⟩:=List.mem_map.1 hm
    rw[← e];exact hnm x hx
  have hsz:=S0 hnk
  refine Aa ?_
  refine p1 (C5 u74 sz9 rfl rfl (hN.adr Iq (by omega)) (by omega)) ?_
  refine p1 (Ae un9 rfl (hN.strAt _ (by omega))) ?_
  refine pA (Ac (t_n (Ab (Ab ?_))))
  have hWr4:=Ext.refl w2
  refine F6 (ι:=Unit) [15,16,17,18,19,20,21,22,23,24,25,26] (fun _=>[(26,.bool (keepN ((D.l.map (·.1)).getD k ByteArray.empty) keep))]) (fun _ w'=>Ext w2 w') ?_ ?_
  ·skip
   refine Aa ?_
   refine pM ?_
   refine p1 (Eh rfl (show _=Value.string nNew from rfl)) ?_
   refine p1b (Al (by conv=>lhs;whnf)) (fun hb4_2=>?_) (fun hb4_2=>?_)
   ·refine gM 17 ?_
    refine B8 17 rfl rfl ?_
    refine Ah Tryz.func36 fn36 fb36 (Nf _ _ hg.l) rfl ?_
    rintro v4 w4 ⟨⟨rn,rfl,hrn⟩,hE4⟩
    have hWr4:=hWr4.ext hE4
    refine g1 17 rfl rfl (Bn rfl rfl) ?_
    refine g1b 17 rfl rfl (Al (by conv=>lhs;whnf)) (fun hb4_6=>?_) (fun hb4_6=>?_)
    ·refine gF 21 (gF 21 (gF 21 ?_))
     refine g1 17 rfl rfl (Ap rfl (by conv=>lhs;whnf)) ?_
     refine p1 (Ap rfl (by conv=>lhs;whnf)) ?_
     refine Ac ?_
     refine t_n (aK () ⟨congrArg Value.bool (by have hk9:=Fm (n:=((D.l.map (·.1)).getD k ByteArray.empty)) (keep:=keep);grind),trivial⟩ hWr4)
    refine gM 21 (gM 21 ?_)
    refine g1 21 rfl rfl (Fe rfl rfl) ?_
    refine g1 17 rfl rfl (Aq rfl (by conv=>lhs;whnf)) ?_
    refine p1 (Ap rfl (by conv=>lhs;whnf)) ?_
    refine Ac ?_
    refine t_n (aK () ⟨congrArg Value.bool (by have hk9:=Fm (n:=((D.l.map (·.1)).getD k ByteArray.empty)) (keep:=keep);grind),trivial⟩ hWr4)
   refine gF 17 (gF 17 (gF 17 (gF 17 (gF 21 (gF 21 (gF 21 (gF 17 ?_)))))))
   refine p1 (Aq rfl (by conv=>lhs;whnf)) ?_
   refine Ac ?_
   refine t_n (aK () ⟨congrArg Value.bool (by have hk9:=Fm (n:=((D.l.map (·.1)).getD k ByteArray.empty)) (keep:=keep);grind),trivial⟩ hWr4)
  rintro _ Gr4 w3 hE3
  have hX:=hX.ext hE3
  have hN:=hN.ext hE3
  have hg:=hg.ext hE3
  have hD:=hD.ext hE3
  refine t_n ?_
  refine Ia rfl (fun hc26=>?_) (fun hc26=>?_)
  ·have hcn:=hcl.trans (hcd.trans (if_pos hc26))
   refine Ba (t_e (Bu (t_n (Aa ?_))))
   refine p1 (Aw rfl rfl (Ag (by omega) (by omega))) ?_
   refine pM (Ac ?_)
   refine t_n (aK (k+1) ⟨rfl,trivial⟩ ?_)
   exact⟨⟨hX,by omega,hN,hg,by exact⟨Dk,hD.more,hgk.mono (by omega),hcn⟩⟩,by((show _<_);omega)⟩
  have hcn:=hcl.trans (hcd.trans (if_neg (by rw[hc26];simp)))
  have hgr:=Co hgk ((D.l.map (·.1)).getD k ByteArray.empty)
  refine Ai (t_n (Ab (Aa ?_)))
  refine pM (pM ?_)
  have hD:=hD.more
  have hXs:=hX.size
  refine Ah Tryz.func95 fn95 fb95 (Cu gd _ Dk _ hD hgk.ok (by have:=hgk.steps;omega) hgk.left ((D.l.map (·.1)).getD k ByteArray.empty) (by omega)) rfl ?_
  rintro v5 w5 ⟨rfl,hD2,hM2⟩
  have hD:=hD2.mono (grow2 hXs hM2.size)
  have hX:=hX.step hM2
  have hN:=hN.modS hM2 (fun _ _=>Nat.zero_le _) (by decide)
  have hg:=hg.modS hM2 (Hq hS hgs)
  skip
  refine pA (Ac (t_n (Ab (Aa ?_))))
  refine pM ?_
  refine p1 (A2 rfl rfl) ?_
  refine Ac (t_n ?_)
  refine As rfl (fun hc31=>?_) (fun hc31=>?_)
  ·refine Ab (Aa ?_)
   refine pM (pA (Ac (t_n (Ak (b_r (t_r (t_r (b_r (t_r ?_)))))))))
   refine eR1 ?_
   exact⟨by rw[hcn,andD,if_neg hc31],by rw[hcn,andD,if_neg hc31];exact hD,hX⟩
  refine Ai (b_n (t_n (Aa ?_)))
  refine p1 (Aw rfl rfl (Ag (by omega) (by omega))) ?_
  refine pM (Ac ?_)
  refine t_n (aK (k+1) ⟨rfl,trivial⟩ ?_)
  exact⟨⟨hX,by omega,hN,hg,by exact⟨_,hD,hgr.mono (by omega),by rw[hcn,andD,if_pos (by omega)]⟩⟩,by((show _<_);omega)⟩
 refine Ba (t_e (t_e (Bu (t_n (Ab (Aa ?_))))))
 refine pA (Ac (t_n (Ak ?_)))
 refine eR1 ?_
 (have hz:(D.l.map (·.1)).drop k=[]:=List.drop_eq_nil_of_le (by omega)
  rw[hz] at hcl
  rw[hcl]
  exact⟨rfl,hD,hX⟩)
end Go.Proofs.Eng
end
section
namespace Go.Proofs.Eng
open Go.RowKit Go.Sort
section
variable {α : Type} [Inhabited α] {sz : Nat} {enc : α → List Value} {hl : ∀ x, (enc x).length = sz} {h1 : ∀ x, ∀ v ∈ enc x, v.oneCell' = true}
theorem Acd:∀ (xs:List α) (i j:Nat) (v:Value),i<xs.length→(enc (xs.getD i default))[j]? = some v→(∀ x,(enc x).length=sz)→(xs.map enc).flatten[i * sz+j]? = some v:=by
  intro xs i j v hi hv hl
  refine Kind.flat_get (s:=sz) (fun c hc=>?_) (i:=i) (j:=j) ?_
  · obtain⟨x,_,rfl⟩:=List.mem_map.1 hc;exact hl x
  · rw [List.getD_eq_getElem?_getD, List.getElem?_map]
    rw[List.getD_eq_getElem?_getD] at hv
    rw[List.getElem?_eq_getElem hi] at hv ⊢
    exact hv
theorem Vg (hl:∀ x,(enc x).length=sz):∀ xs:List α,(xs.map enc).flatten.length=xs.length * sz
  | []=>by simp
  | x :: xs=>by rw[List.map_cons,List.flatten_cons,List.length_append,hl,Vg hl xs,List.length_cons,Nat.add_mul];omega
theorem Vi (hl:∀ x,(enc x).length=sz) (d':Array α):(flatK enc sz d').toList=(d'.toList.map enc).flatten:=by
  have hlen:(d'.toList.map enc).flatten.length=d'.size * sz:=Vg hl d'.toList
  apply List.ext_getElem?
  intro t
  by_cases ht:t<d'.size * sz
  · have hk : 0 < sz := by rcases Nat.eq_zero_or_pos sz with h | h; (· subst h; simp at ht); (· exact h)
    have hlt:t / sz<d'.size:=Nat.div_lt_of_lt_mul (by rw[Nat.mul_comm];exact ht)
    have hm:t % sz<sz:=Nat.mod_lt _ hk
    have e1:t=t / sz * sz+t % sz:=by have:=Nat.div_add_mod t sz;rw[Nat.mul_comm] at this;omega
    have hg:=get_flatK enc sz d' t ht
    have hm':t % sz<(enc d'[t / sz]!).length:=by rw[hl];exact hm
    have hx:(enc d'[t / sz]!)[t % sz]? = some (flatK enc sz d')[t]! := by
      rw[hg,List.getElem?_eq_getElem hm',getElem!_pos (enc d'[t / sz]!) (t % sz) hm']
    have hr:=Acd (sz:=sz) (enc:=enc) d'.toList (t / sz) (t % sz) _ (by simpa using hlt) (by
      rw[show d'.toList.getD (t / sz) default=d'[t / sz]! from by rw[getElem!_pos d' _ hlt];simp[List.getD_eq_getElem?_getD,hlt]];exact hx) hl
    rw[← e1] at hr
    have hsz:t<(flatK enc sz d').size:=by simpa using ht
    rw[hr,Array.getElem?_toList,Array.getElem?_eq_getElem hsz,getElem!_pos (flatK enc sz d') t hsz]
  · rw[List.getElem?_eq_none (by simp;omega),List.getElem?_eq_none (by omega)]
theorem S9 {e:TypeId} {B B0:Nat} {w:World} {g n c:Nat} {xs:List α} (h:Own (Kind.pure sz enc hl h1) e B B0 w (some ⟨g,0,none⟩) n c xs) (hn:0<n):HoldsK enc sz w g 0 xs.toArray:=by
  obtain⟨g',cur,css,e1,h2,h3,h4,h5,h6,ha,hlf,ht⟩:=h.block hn
  injection e1 with e1;injection e1 with e1;subst e1
  have hc:=Hr ha
  subst hc
  have hf:=Vi hl xs.toArray
  intro j hj
  have hz:(Kind.pure sz enc hl h1).sz=sz:=rfl
  have hj':j<n * sz:=by have:=h.len;simpa [this] using hj
  refine⟨?_,frozen_of_row w g _ cur e h3⟩
  have hnc:n * sz≤c * sz:=Nat.mul_le_mul_right _ h4
  rw[Nat.zero_add]
  refine h3.cell ?_
  have e2:(xs.map enc).flatten[j]? = cur[j]? := by
    rw[← ht,List.getElem?_take,if_pos (by rw[hz];exact hj'),Array.getElem?_toList]
  rw[← e2]
  have e3:(flatK enc sz xs.toArray).toList=(xs.map enc).flatten:=hf
  rw[← e3,Array.getElem?_toList,Array.getElem?_eq_getElem hj,getElem!_pos (flatK enc sz xs.toArray) j hj]
  rfl
theorem Qh {e:TypeId} {B0:Nat} {w:World} {g:Nat} {cur:Array Value} (hg:B0≤g) (hB:Blk w g cur e) (m:Nat) (d':Array α) (os:Array Obj):Mod B0 e w (sortWorldK enc sz w g 0 m d' os) ∧
    Blk (sortWorldK enc sz w g 0 m d' os) g (putCells id 0 (flatK enc sz d') cur) e:=by
  have hlt:=hB.lt
  have hsz:(putRowK enc sz (Sort.ahead w m) g 0 d').heap.size=w.heap.size:=by unfold putRowK;rw[size_putRow];rfl
  have hcell:∀ k,k<w.heap.size→(sortWorldK enc sz w g 0 m d' os).heap[k]? = (putRowK enc sz (Sort.ahead w m) g 0 d').heap[k]? := fun k hk=>heap_grow_old _ os (by rw[hsz];exact hk)
  have hother:∀ k,k≠g→(putRowK enc sz (Sort.ahead w m) g 0 d').heap[k]? = w.heap[k]? := fun k hk=>by
    simp only[putRowK,putRow,mapBlock,Sort.ahead,Array.getElem?_modify]
    rw[if_neg (fun e=>hk e.symm)]
  have hgb:(putRowK enc sz (Sort.ahead w m) g 0 d').heap[g]? = some (.cells (putCells id 0 (flatK enc sz d') cur) e (0,0)):=by
    simp only[putRowK,putRow,mapBlock,Sort.ahead,Array.getElem?_modify]
    rw[if_pos trivial]
    have:w.heap[g]? = some (.cells cur e (0,0)):=hB
    rw[this];rfl
  have hblk:Blk (sortWorldK enc sz w g 0 m d' os) g (putCells id 0 (flatK enc sz d') cur) e:=(hcell g hlt).trans hgb
  refine⟨⟨?_,fun k hk ho=>?_,fun k hk=>?_,?_,rfl,rfl,rfl⟩,hblk⟩
  · unfold sortWorldK;rw[size_grow,hsz];omega
  · have hne : k ≠ g := by
      intro ek;subst ek
      rcases ho with ho | ho
      · omega
      · exact ho hB.ty
    exact(hcell k hk).trans (hother k hne)
  · by_cases ek : k = g
    · subst ek;rw[hblk.ty,hB.ty]
    · exact Bq ((hcell k hk).trans (hother k ek))
  · exact Nat.le_refl _
theorem Uw {e:TypeId} {B B0:Nat} {w:World} {g n c:Nat} {xs:List α} (h:Own (Kind.pure sz enc hl h1) e B B0 w (some ⟨g,0,none⟩) n c xs) (hn:0<n) (m:Nat) (d':Array α) (hd:d'.size=n) (os:Array Obj) :
    Own (Kind.pure sz enc hl h1) e B B0 (sortWorldK enc sz w g 0 m d' os) (some ⟨g,0,none⟩) n c d'.toList∧Mod B0 e w (sortWorldK enc sz w g 0 m d' os):=by
  obtain⟨g',cur,css,e1,h2,h3,h4,h5,h6,ha,hlf,ht⟩:=h.block hn
  injection e1 with e1;injection e1 with e1;subst e1
  obtain⟨hm,hb⟩:=Qh (enc:=enc) (sz:=sz) h2 h3 m d' os
  have hz:(Kind.pure sz enc hl h1).sz=sz:=rfl
  have hnc:n * sz≤c * sz:=Nat.mul_le_mul_right _ h4
  refine⟨Own.remade h2 hb h4 h5 (by rw[hz] at h6 ⊢;simp[putCells,h6]) (by simp[hd]) (Gv B _ d'.toList) ?_,hm⟩
  rw[← Vi hl d',hz]
  have hs:(flatK enc sz d').size=n * sz:=by simp[hd]
  apply List.ext_getElem?
  intro j
  rw[List.getElem?_take]
  rw[hz] at h6
  by_cases hj:j<n * sz
  · rw [if_pos hj, Array.getElem?_toList, Array.getElem?_toList]
    have hjc:j<cur.size:=by omega
    simp only[putCells,Array.getElem?_mapIdx,Array.getElem?_eq_getElem hjc,Option.map_some]
    rw[if_pos ⟨Nat.zero_le _,by omega⟩,Nat.sub_zero,Array.getElem?_eq_getElem (show j<(flatK enc sz d').size by omega),getElem!_pos (flatK enc sz d') j (by omega)]
    rfl
  · rw[if_neg hj,Array.getElem?_toList,Array.getElem?_eq_none (by omega)]
end
theorem Rn:∀ (a b:List UInt8),lex a b=true→lex b a=false
  | x :: l, y :: m, h => by
    unfold lex at h ⊢
    by_cases e:x=y
    · rw[if_pos e] at h;rw[if_pos e.symm];exact Rn l m h
    · rw [if_neg e] at h; rw [if_neg (fun h => e h.symm)]
      simp only[decide_eq_true_eq,decide_eq_false_iff_not] at h ⊢
      rw[UInt8.lt_iff_toNat_lt] at h ⊢;omega
  | [],_,h=>by simp[lex] at h
  | _ :: _,[],h=>by simp[lex] at h
theorem Rk:∀ (a b c:List UInt8),lex a b=true→lex b c=true→lex a c=true
  | x :: l, y :: m, z :: n, h, k => by
    unfold lex at h k ⊢
    by_cases e:x=y
    · subst e
      rw[if_pos rfl] at h
      by_cases e2:x=z
      · rw[if_pos e2] at k ⊢;exact Rk l m n h k
      · rw[if_neg e2] at k ⊢;exact k
    · rw [if_neg e] at h
      by_cases e2:y=z
      · subst e2;rw[if_neg e];exact h
      · rw [if_neg e2] at k
        simp only[decide_eq_true_eq] at h k
        have h':=UInt8.lt_iff_toNat_lt.1 h
        have k':=UInt8.lt_iff_toNat_lt.1 k
        have e3:x≠z:=by intro e3;subst e3;omega
        rw[if_neg e3]
        simp only[decide_eq_true_eq]
        rw[UInt8.lt_iff_toNat_lt];omega
  | [],_,_,h,_=>by simp[lex] at h
  | _ :: _,[],_,h,_=>by simp[lex] at h
  | _ :: _,_ :: _,[],_,h=>by simp[lex] at h
theorem Rm:∀ (a b:List UInt8),a.length=b.length→a=b∨lex a b=true∨lex b a=true
  | x :: l, y :: m, h => by
    unfold lex
    by_cases e:x=y
    · subst e
      rw[if_pos rfl,if_pos rfl]
      rcases Rm l m (by simpa using h) with h | h | h
      · exact .inl (by rw[h])
      · exact .inr (.inl h)
      · exact .inr (.inr h)
    · rw [if_neg e, if_neg (fun h => e h.symm)]
      right
      simp only[decide_eq_true_eq,UInt8.lt_iff_toNat_lt]
      have:x.toNat≠y.toNat:=fun h=>e (UInt8.toNat_inj.1 h)
      omega
  | [],[],_ => .inl rfl
  | _ :: _,[],h=>by simp at h
  | [],_ :: _,h=>by simp at h
theorem Rq {a b:Hash} (h:hlt a b=true):hlt b a=false:=Rn _ _ h
theorem Mb {a b c:Hash} (h:hlt a b=true) (k:hlt b c=true):hlt a c=true:=Rk _ _ _ h k
theorem Ho (a b:Hash):a=b∨hlt a b=true∨hlt b a=true:=(Rm a.1 b.1 (by rw[a.2,b.2])).imp Subtype.ext id
theorem W6 {a b:Hash} (h:hlt a b=true):a≠b:=by intro e;subst e;rw[Hp] at h;cases h
theorem J1 (a b:Hash):ltOf hcmp a b=hlt a b:=by
  unfold ltOf hcmp
  by_cases e:a=b
  · subst e;simp[Hp]
  · rw [if_neg e]
    by_cases h:hlt a b=true
    · simp[h]
    · simp[h]
theorem Aas:SWO (ltOf hcmp) where
  irrefl:=fun x=>by rw[J1];exact Hp x
  trans:=fun x y z h k=>by rw[J1] at *;exact Mb h k
  ntrans:=fun x y z h k=>by
    rw[J1] at *
    rcases Ho x z with e | e | e
    · rw[e];exact Hp z
    · rcases Ho x y with e2 | e2 | e2
      · rw[e2] at e;rw[e] at k;cases k
      · rw[e2] at h;cases h
      · have:=Mb e2 e;rw[this] at k;cases k
    · exact Rq e
abbrev Rise (l:List Hash):Prop:=l.Pairwise (fun a b=>hlt a b=true)
theorem Un:∀ {l m:List Hash},Rise l→Rise m→(∀ h,h∈l↔h∈m)→l=m
  | [],[],_,_,_=>rfl
  | [],y :: m,_,_,h=>by have:=(h y).2 (by simp);simp at this
  | x :: l,[],_,_,h=>by have:=(h x).1 (by simp);simp at this
  | x :: l, y :: m, hl, hm, h => by
    have hl:=List.pairwise_cons.1 hl
    have hm:=List.pairwise_cons.1 hm
    have hxy:x=y:=by
      rcases List.mem_cons.1 ((h x).1 (by simp)) with e | e
      · exact e
      · rcases List.mem_cons.1 ((h y).2 (by simp)) with e2 | e2
        · exact e2.symm
        · have:=Rq (hl.1 y e2);rw[hm.1 x e] at this;cases this
    subst hxy
    congr 1
    refine Un hl.2 hm.2 fun z=>?_
    constructor
    · intro hz
      rcases List.mem_cons.1 ((h z).1 (by simp[hz])) with e | e
      · exact absurd e.symm (W6 (hl.1 z hz))
      · exact e
    · intro hz
      rcases List.mem_cons.1 ((h z).2 (by simp[hz])) with e | e
      · exact absurd e.symm (W6 (hm.1 z hz))
      · exact e
def cpt (xs:List Hash):Nat→List Hash
  | 0=>[]
  | m+1=>if 0<m∧xs.getD m default=xs.getD (m - 1) default then cpt xs m else cpt xs m++[xs.getD m default]
theorem P2 {xs:List Hash} (hs:∀ i j,i<j→j<xs.length→hlt (xs.getD j default) (xs.getD i default)=false):∀ m,m≤xs.length →
    Rise (cpt xs m)∧(∀ h,h∈cpt xs m↔∃ i,i<m∧xs.getD i default=h)
  | 0,_=>⟨List.Pairwise.nil,fun h=>by simp[cpt]⟩
  | m + 1, hm => by
    obtain⟨h1,h2⟩:=P2 hs m (by omega)
    unfold cpt
    by_cases e:0<m∧xs.getD m default=xs.getD (m - 1) default
    · rw [if_pos e]
      refine⟨h1,fun h=>(h2 h).trans ⟨fun ⟨i,hi,e⟩=>⟨i,by omega,e⟩,fun ⟨i,hi,e2⟩=>?_⟩⟩
      by_cases hi2:i<m
      · exact⟨i,hi2,e2⟩
      · have : i = m := by omega
        subst this
        exact⟨i - 1,by omega,by rw[← e.2];exact e2⟩
    · rw [if_neg e]
      refine⟨List.pairwise_append.2 ⟨h1,by simp,fun a ha b hb=>?_⟩,fun h=>?_⟩
      · have hb' : b = xs.getD m default := by simpa using hb
        subst hb'
        obtain⟨i,hi,rfl⟩:=(h2 a).1 ha
        rcases Ho (xs.getD i default) (xs.getD m default) with e3 | e3 | e3
        · exfalso
          apply e
          refine⟨by omega,?_⟩
          by_cases hi2:i=m - 1
          · rw[← hi2];exact e3.symm
          · have k1 := hs i (m - 1) (by omega) (by omega)
            have k2:=hs (m - 1) m (by omega) (by omega)
            rw[e3] at k1
            rcases Ho (xs.getD m default) (xs.getD (m - 1) default) with e4 | e4 | e4
            · exact e4
            · rw[e4] at k2;cases k2
            · rw[e4] at k1;cases k1
        · exact e3
        · have:=hs i m hi (by omega);rw[e3] at this;cases this
      · rw [List.mem_append, h2]
        constructor
        · rintro (⟨i, hi, e3⟩ | e3)
          · exact⟨i,by omega,e3⟩
          · exact⟨m,by omega,(List.mem_singleton.1 e3).symm⟩
        · rintro ⟨i, hi, e3⟩
          by_cases hi2:i<m
          · exact .inl ⟨i,hi2,e3⟩
          · have : i = m := by omega
            subst this;right;exact List.mem_singleton.2 e3.symm
theorem Lx {xs:List Hash}:∀ m,m≤xs.length→(∀ i,0<i→i<m→xs.getD i default≠xs.getD (i - 1) default)→cpt xs m=xs.take m
  | 0,_,_=>rfl
  | m + 1, hm, h => by
    unfold cpt
    rw[if_neg (fun e=>h m e.1 (by omega) e.2),Lx m (by omega) (fun i h1 h2=>h i h1 (by omega)),List.take_succ_eq_append_getElem (by omega)]
    congr 2
    rw[List.getD_eq_getElem?_getD,List.getElem?_eq_getElem (by omega)];rfl
theorem Ack {xs:List Hash} {m:Nat} (h:0<m) (e:xs.getD m default=xs.getD (m - 1) default):cpt xs (m+1)=cpt xs m:=by
  conv=>lhs;unfold cpt
  rw[if_pos ⟨h,e⟩]
theorem Afv {xs:List Hash} {m:Nat} (e:xs.getD m default≠xs.getD (m - 1) default):cpt xs (m+1)=cpt xs m++[xs.getD m default]:=by
  conv=>lhs;unfold cpt
  rw[if_neg (fun h=>e h.2)]
theorem R0 {α:Type} {xs zs:List α} {a b:Nat} (h:zs.drop a=xs.drop a) (hab:a≤b):zs.drop b=xs.drop b:=by
  have e:b=a+(b - a):=by omega
  rw[e,← List.drop_drop,← List.drop_drop,h]
end Go.Proofs.Eng
end
section
set_option maxRecDepth 100000
set_option maxHeartbeats 4000000
namespace Go.Proofs.Eng
open Go.RowKit
open Extern.Stop (cell)
theorem K4 (xs ys:List Hash) (B B2:Nat) (p q:Option Addr) (n c m c2:Nat) (w:World) (ha:Sl kHash 64 B w p n c xs) (hb:Sl kHash 64 B2 w q m c2 ys) :
    Ret Tryz.prog 92 [.slice p n c,.slice q m c2] w (fun v w'=>v = .bool (decide (xs=ys))∧Ext w w'):=by
 have hX:=Ext.refl w
 refine eN 26 Tryz.func92 ?_
 refine Ab (Aa ?_)
 refine pA (Ac (t_n (Ab (Ab (Aa ?_)))))
 refine pM ?_
 refine p1 (Aj u54 rfl) ?_
 refine pM ?_
 refine p1 (Aj u54 rfl) ?_
 refine p1 (A2 rfl rfl) ?_
 refine Ac (t_n ?_)
 refine As rfl (fun hc10=>?_) (fun hc10=>?_)
 ·have hp:decide (xs=ys)=false:=decide_eq_false (fun e=>hc10 (by have h1:=ha.len;have h2:=hb.len;rw[e] at h1;omega))
  refine Ab (Aa ?_)
  refine pA (Ac (t_n (Ak (t_r ?_))))
  refine eR1 ?_
  exact⟨by rw[hp],hX⟩
 refine Ai (t_n (Ab (Ab (Aa ?_))))
 refine pM ?_
 refine p1 (Aj u54 rfl) ?_
 refine pM (Ac (t_n (Am ?_)))
 have hWL0:=Ext.refl w
 have hlen:=ha.len
 have hlen2:=hb.len
 have hfit:=ha.fit
 have hcap:=ha.cap
 refine Bg (ι:=Nat) [4,5,13,14,15,16,17,18,19,20,21,22,23,24,25] (fun k=>[(13,.int .i64 (k:Int))]) (fun k w'=>Ext w w'∧(k≤n∧∀ i,i<k→xs.getD i default=ys.getD i default)) (fun k=>n - k) (0) ⟨rfl,trivial⟩ ⟨Ext.refl _,⟨by omega,fun i hi=>by omega⟩⟩ ?_
 rintro k GL0 w1 ⟨hE1,hk,hL⟩
 have hX:=hX.ext hE1
 have hWL0:=hE1
 refine Ab (Aa ?_)
 refine p1 (Bx rfl rfl) ?_
 refine Ac (t_n (Ab ?_))
 refine As rfl (fun hc14=>?_) (fun hc14=>?_)
 ·refine Ai (t_n (Ab (Am (Ab (Aa ?_)))))
  refine pM (pA (Ac (t_n (Ab ?_))))
  refine Du mixed (by kernel_rfl) ?_
  intro w2 hE2
  have hX:=hX.ext hE2
  have hWL0:=hWL0.ext hE2
  refine s1 (Al (by conv=>lhs;whnf)) ?_
  refine s1 (Al (by conv=>lhs;whnf)) ?_
  refine s1 (Fd u54 sz64 rfl rfl ((ha.ext hX).adr Cb (by omega)) (by omega) (by omega)) ?_
  refine s1 (C9 ua64 rfl (G0 sz64 _) ((ha.ext hX).hashAt _ (by omega) (by omega))) ?_
  refine s1 (Al (by conv=>lhs;whnf)) ?_
  refine s1 (Al (by conv=>lhs;whnf)) ?_
  refine s1 (Fd u54 sz64 rfl rfl ((hb.ext hX).adr Cb (by omega)) (by omega) (by omega)) ?_
  refine s1 (C9 ua64 rfl (G0 sz64 _) ((hb.ext hX).hashAt _ (by omega) (by omega))) ?_
  refine s1 (Ms u64 u5 sz5 eg64 rfl rfl (xs.getD _ default).2 (ys.getD _ default).2) ?_
  refine Ca (t_n ?_)
  refine As rfl (fun hc24=>?_) (fun hc24=>?_)
  ·have hp:decide (xs=ys)=false:=decide_eq_false (fun e=>hc24 (by rw[e]))
   refine Ab (Aa ?_)
   refine pA (Ac (t_n (Ak (b_r (t_r (t_r (b_r (t_r ?_))))))))
   refine eR1 ?_
   exact⟨by rw[hp],hX⟩
  have h1:xs.getD k default=ys.getD k default:=Subtype.ext (Classical.byContradiction hc24)
  refine Ai (b_n (t_n (Aa ?_)))
  refine p1 (Aw rfl rfl (Ag (by omega) (by omega))) ?_
  refine pM (Ac ?_)
  refine t_n (aK (k+1) ⟨rfl,trivial⟩ ?_)
  exact⟨⟨hWL0,⟨by omega,fun i hi=>if h:i<k then hL i h else by rw[show i=k from by omega];exact h1⟩⟩,by((show _<_);omega)⟩
 have hp:decide (xs=ys)=true:=decide_eq_true (Pa (by omega) (fun i hi=>hL i (by omega)))
 refine Ba (t_e (t_e (Bu (t_n (Ab (Aa ?_))))))
 refine pA (Ac (t_n (Ak ?_)))
 refine eR1 ?_
 exact⟨by rw[hp],hX⟩
end Go.Proofs.Eng
end
section
namespace Go.Proofs.EngD
open Go.RowKit
def sp : Nat := 1000000007
def upd (f : Nat → Value) (d : Nat) (v : Value) : Nat → Value := fun t => bif Nat.beq t d then (bif Nat.beq d sp then f t else v) else f t
def updR (f : Nat → Value) (d : Nat) (v : Value) : Nat → Value := fun t => bif Nat.beq t d then v else f t
def dec1 : Value → Deferred
  | .int _ k => { target := .collected k.toNat, args := #[] }
  | .func g first captured => { target := .fn g captured, args := first }
  | _ => { target := .nil, args := #[] }
def decD : Value → List Deferred
  | .tuple vs => vs.toList.map dec1
  | _ => []
def fr (n : Nat) (f : Nat → Value) : Act := ⟨Array.ofFn (fun i : Fin (min n sp) => f i), decD (f sp)⟩
def ev (n : Nat) (f : Nat → Value) : Operand → Value
  | .tmp t => bif (Nat.blt t n && Nat.blt t sp) then f t else undef
  | .const v => v
  | .global g => .pointer (some ⟨g, 0, none⟩)
  | .func g => .func (.func g) #[] #[]
theorem Vy {a b : Nat} (h : a < b) : Nat.blt a b = true := by rw [Nat.blt_eq]; exact h
theorem Vz {a b : Nat} (h : ¬ a < b) : Nat.blt a b = false := by
  cases hb : Nat.blt a b
  · rfl
  · rw [Nat.blt_eq] at hb; exact absurd hb h
theorem P9 {a b : Nat} (h : ¬ a = b) : Nat.beq a b = false := by
  cases hb : Nat.beq a b
  · rfl
  · exact absurd (Nat.eq_of_beq_eq_true hb) h
theorem Vl {n : Nat} {f : Nat → Value} {t : Nat} (h : t < min n sp) : ev n f (.tmp t) = f t := by
  show (bif (Nat.blt t n && Nat.blt t sp) then f t else undef) = f t
  rw [Vy (by omega : t < n), Vy (by omega : t < sp)]; rfl
theorem Ym {n : Nat} {f : Nat → Value} {t : Nat} (h : ¬ t < min n sp) : ev n f (.tmp t) = undef := by
  show (bif (Nat.blt t n && Nat.blt t sp) then f t else undef) = undef
  by_cases h1 : t < n
  · rw [Vz (by omega : ¬ t < sp), Bool.and_false]; rfl
  · rw [Vz h1, Bool.false_and]; rfl
theorem Hw (n : Nat) (f : Nat → Value) (t : Nat) : (fr n f).tmps[t]? = if t < min n sp then some (f t) else none := by
  show (Array.ofFn (fun i : Fin (min n sp) => f i))[t]? = _
  rw [Array.getElem?_ofFn]
  by_cases h : t < min n sp <;> simp only [h, dif_pos, if_pos, dif_neg, if_neg, not_false_eq_true]
theorem A9 (n : Nat) (f : Nat → Value) : (fr n f).eval = ev n f := by
  funext x
  cases x with
  | tmp t =>
    have h : (fr n f).eval (.tmp t) = ((fr n f).tmps[t]?).getD undef := by simp [Act.eval]
    rw [h, Hw]
    by_cases ht : t < min n sp
    · rw [Vl ht, if_pos ht]; rfl
    · rw [Ym ht, if_neg ht]; rfl
  | const v => rfl
  | global g => rfl
  | func g => rfl
theorem Wa (f : Nat → Value) (d : Nat) (v : Value) (hd : ¬ d = sp) : upd f d v d = v := by
  show (bif Nat.beq d d then (bif Nat.beq d sp then f d else v) else f d) = v
  rw [Nat.beq_refl, P9 hd]; rfl
theorem Kh {f : Nat → Value} {d : Nat} {v : Value} {t : Nat} (h : ¬ t = d) : upd f d v t = f t := by
  show (bif Nat.beq t d then _ else f t) = f t
  rw [P9 h]; rfl
theorem V9 (f : Nat → Value) (d : Nat) (v : Value) : upd f d v sp = f sp := by
  by_cases h : sp = d
  · subst h
    show (bif Nat.beq sp sp then (bif Nat.beq sp sp then f sp else v) else f sp) = f sp
    rw [Nat.beq_refl]; rfl
  · exact Kh h
theorem Jh (f : Nat → Value) (d : Nat) (v : Value) : updR f d v d = v := by
  show (bif Nat.beq d d then v else f d) = v
  rw [Nat.beq_refl]; rfl
theorem Ky {f : Nat → Value} {d : Nat} {v : Value} {t : Nat} (h : ¬ t = d) : updR f d v t = f t := by
  show (bif Nat.beq t d then v else f t) = f t
  rw [P9 h]; rfl
theorem Cy (n : Nat) (f : Nat → Value) (d : Nat) (v : Value) : (fr n f).put (some d) v = fr n (upd f d v) := by
  unfold fr Act.put
  simp only [Act.mk.injEq, V9, and_true]
  apply Array.ext (by simp)
  intro i h1 h2
  have hi : i < min n sp := by simpa using h2
  simp only [Array.getElem_ofFn]
  by_cases h : d = i
  · subst h; rw [Wa _ _ _ (by omega)]; simp
  · rw [Kh (fun e => h e.symm)]
    have e : ((Array.ofFn (fun i : Fin (min n sp) => f i)).setIfInBounds d v)[i]? = some (f i) := by rw [Array.getElem?_setIfInBounds_ne h, Array.getElem?_ofFn, dif_pos hi]
    rw [Array.getElem?_eq_getElem (by simpa using hi)] at e
    exact Option.some.inj e
theorem Lv {P : Program} {g : FuncId} {fn : Func} {c : Code} {w : World} {R : Ending → World → Prop} (n : Nat) (vs : List Value)
    (hf : P.funcs[g]? = some fn) (hb : fn.body = some c) (hn : fn.ntmps = n) (hl : vs.length ≤ min n sp) (hn2 : min n sp = n)
    (h : c.wp P (bodyPost P fn R) (fr n (fun t => vs.getD t undef)) w) : Calls P g vs.toArray w R := by
  refine calls_of_wp hf hb ?_
  subst hn
  have e : ({ tmps := vs.toArray ++ Array.replicate (fn.ntmps - vs.toArray.size) undef, defers := [] } : Act) = fr fn.ntmps (fun t => vs.getD t undef) := by
    unfold fr
    have hD : decD (vs.getD sp undef) = [] := by
      rw [List.getD_eq_getElem?_getD, List.getElem?_eq_none (by omega)]; rfl
    rw [hD]
    congr 1
    apply Array.ext (by simp only [Array.size_append, List.size_toArray, Array.size_replicate, Array.size_ofFn]; omega)
    intro i h1 h2
    simp only [Array.getElem_ofFn, Array.getElem_append, List.size_toArray]
    by_cases hi : i < vs.length
    · simp [hi]
    · simp [hi]
  rw [e]; exact h
structure Ret (P : Program) (g : FuncId) (vs : List Value) (w : World) (R : Value → World → Prop) : Prop where
  mk :: (out : Calls P g vs.toArray w fun e w' => ∃ v, e = .returned v ∧ R v w')
structure Wp (P : Program) (c : Code) (Q : Exit → Act → World → Prop) (a : Act) (w : World) : Prop where
  mk :: (out : c.wp P Q a w)
structure Lst (P : Program) (ops : Array Oper) (Q : Exit → Act → World → Prop) (l : List Oper) (a : Act) (w : World) : Prop where
  mk :: (out : wpList P ops Q l a w)
structure St (P : Program) (ops : Array Oper) (w : World) (K : Act → Prop) (l : List Oper) (a : Act) : Prop where
  mk :: (out : wpStill P ops w K l a)
structure End (P : Program) (fn : Func) (R : Value → World → Prop) (e : Exit) (a : Act) (w : World) : Prop where
  mk :: (out : bodyPost P fn (fun e w' => ∃ v, e = .returned v ∧ R v w') e a w)
theorem enter {P : Program} {g : FuncId} {fn : Func} {c : Code} {w : World} {R : Value → World → Prop} (n : Nat) (vs : List Value)
    (hf : P.funcs[g]? = some fn) (hb : fn.body = some c) (hn : fn.ntmps = n) (hl : vs.length ≤ min n sp) (hn2 : min n sp = n)
    (h : Wp P c (End P fn R) (fr n (fun t => vs.getD t undef)) w) : Ret P g vs w R := ⟨Lv n vs hf hb hn hl hn2 (wp_mono h.out fun _ _ _ k => k.out)⟩
theorem end1 {P : Program} {fn : Func} {R : Value → World → Prop} {n : Nat} {f : Nat → Value} {w : World} {t : Nat} {v : Value} (hr : fn.results = #[.tmp t]) (hv : ev n f (.tmp t) = v) (h : R v w) (hd : decD (f sp) = [] := by rfl) :
    End P fn R .ret (fr n f) w := by
  refine ⟨bodyPost_ret (results_tmp hr _ _ _) hd ⟨v, ?_, h⟩⟩
  rw [← hv, ← A9]; rfl
def Ex (P : Program) (w : World) (n : Nat) (f : Nat → Value) (o : Oper) (v : Value) : Prop := (execOp (ev n f) o).run P w = .ok (.value v) w
section steps
variable {P : Program} {ops : Array Oper} {Q : Exit → Act → World → Prop} {rest : List Oper} {n : Nat} {f : Nat → Value} {w : World}
variable {op : Op} {ty : TypeId} {pos : String} {aft : Array Edge} {d : Nat} {v : Value}
theorem p1 (h : Ex P w n f ⟨some d, op, ty, pos, aft, none⟩ v) (k : Lst P ops Q rest (fr n (upd f d v)) w) : Lst P ops Q (⟨some d, op, ty, pos, aft, none⟩ :: rest) (fr n f) w :=
  ⟨wpList_plain rfl fun K hK => by
    unfold Oper.wp
    rw [A9, h, Oper.upon_value, Cy]
    exact hK _ _ k.out⟩
end steps
end Go.Proofs.EngD
end
section
namespace Go.Proofs.EngD
open Go.RowKit
section ops
variable {P : Program} {w : World} {n : Nat} {f : Nat → Value} {dst : Option Nat} {ty : TypeId} {pos : String} {aft : Array Edge} {gd : Option (Nat × Bool)}
variable {x y z : Operand} {v u : Value} {k : IntKind} {a b : Int} {T T' : TypeId}
theorem Al (h : ev n f x = v) : Ex P w n f ⟨dst, .move x, ty, pos, aft, gd⟩ v := by subst h; rfl
theorem Ax (h : ev n f x = v) : Ex P w n f ⟨dst, .assign x, ty, pos, aft, gd⟩ v := by subst h; rfl
theorem Cc {op : BinOp} {r : Value} (hx : ev n f x = v) (hy : ev n f y = u) (hg : (eqGuard op T x y v u).run P w = .ok () w) (h : (binOp op T v u).run P w = .ok r w) : Ex P w n f ⟨dst, .binOp op T x y T', ty, pos, aft, gd⟩ r := by
  unfold Ex execOp
  subst hx hy
  simp only [Sem.run_bind, hg, h, Result.andThen_ok]
  rfl
theorem Bs {op : BinOp} (k k' : IntKind) : (eqGuard op T x y (.int k a) (.int k' b)).run P w = .ok () w := by cases op <;> rfl
-- arithmetic, wrapped
theorem E1 (hx : ev n f x = .int k a) (hy : ev n f y = .int k b) : Ex P w n f ⟨dst, .binOp .add T x y T', ty, pos, aft, gd⟩ (.int k (k.wrap (a + b))) :=
  Cc hx hy (Bs k k) (by simp [binOp, Op.intArith])
def Fits (k : IntKind) (a : Int) : Prop := k.wrap a = a
theorem Ag {a : Int} (h1 : -9223372036854775808 ≤ a) (h2 : a ≤ 9223372036854775807) : Fits .i64 a := by
  unfold Fits IntKind.wrap; simp [IntKind.bits, IntKind.signed, IntKind.max]; omega
theorem Aw (hx : ev n f x = .int k a) (hy : ev n f y = .int k b) (h : Fits k (a + b)) : Ex P w n f ⟨dst, .binOp .add T x y T', ty, pos, aft, gd⟩ (.int k (a + b)) := by
  have := E1 (P := P) (w := w) (dst := dst) (T := T) (T' := T') (ty := ty) (pos := pos) (aft := aft) (gd := gd) hx hy
  rwa [h] at this
-- comparisons of numbers
theorem Bx (hx : ev n f x = .int k a) (hy : ev n f y = .int k b) : Ex P w n f ⟨dst, .binOp .lss T x y T', ty, pos, aft, gd⟩ (.bool (decide (a < b))) :=
  Cc hx hy (Bs k k) (by simp [binOp, Op.intCmp])
theorem Bn (hx : ev n f x = .int k a) (hy : ev n f y = .int k b) : Ex P w n f ⟨dst, .binOp .eql T x y T', ty, pos, aft, gd⟩ (.bool (decide (a = b))) :=
  Cc hx hy (Bs k k) (by
    simp only [binOp, ne_eq, not_true_eq_false, if_false, Op.intCmp, Sem.run_pure]
    congr 2)
-- texts
end ops
end Go.Proofs.EngD
end
section
namespace Go.Proofs.EngD
open Go.RowKit
def drw (w : World) : Nat := w.drawn
structure Ext (w w' : World) : Prop where
  size : w.heap.size ≤ w'.heap.size
  old : ∀ k, k < w.heap.size → w'.heap[k]? = w.heap[k]?
  os : w'.os = w.os
  tape : w'.tape = w.tape
  output : w'.output = w.output
  drawn : drw w ≤ drw w'
theorem Ext.refl (w : World) : Ext w w := ⟨Nat.le_refl _, fun _ _ => rfl, rfl, rfl, rfl, Nat.le_refl _⟩
theorem Ext.trans {a b c : World} (h : Ext a b) (k : Ext b c) : Ext a c :=
  ⟨Nat.le_trans h.size k.size, fun i hi => (k.old i (Nat.lt_of_lt_of_le hi h.size)).trans (h.old i hi), k.os.trans h.os, k.tape.trans h.tape, k.output.trans h.output, Nat.le_trans h.drawn k.drawn⟩
theorem Ext.ext {a b c : World} (h : Ext a b) (k : Ext b c) : Ext a c := h.trans k
theorem Ext.drew (w : World) : Ext w w.drew := ⟨Nat.le_refl _, fun _ _ => rfl, rfl, rfl, rfl, Nat.le_succ _⟩
theorem Ext.alloc (w : World) (o : Obj) : Ext w (w.alloc o) := ⟨by simp, fun k hk => Below.heap_alloc w o k hk, rfl, rfl, rfl, Nat.le_refl _⟩
def Blk (w : World) (g : Nat) (cs : Array Value) (t : TypeId) : Prop := w.heap[g]? = some (.cells cs t (0, 0))
theorem Blk.lt {w : World} {g : Nat} {cs : Array Value} {t : TypeId} (h : Blk w g cs t) : g < w.heap.size := (Array.getElem?_eq_some_iff.1 h).1
theorem Blk.ext {w w' : World} {g : Nat} {cs : Array Value} {t : TypeId} (h : Blk w g cs t) (e : Ext w w') : Blk w' g cs t := (e.old g h.lt).trans h
theorem Blk.cell {w : World} {g : Nat} {cs : Array Value} {t : TypeId} (h : Blk w g cs t) {i : Nat} {v : Value} (hv : cs[i]? = some v) : w.cell? ⟨g, i, none⟩ = some v := by
  rw [cell_of_row w g i cs t (0, 0) h]; exact hv
theorem Blk.range {w : World} {g : Nat} {cs : Array Value} {t : TypeId} (h : Blk w g cs t) : w.rangeAt g 0 cs.toList := by
  intro j v hj
  rw [Nat.zero_add]
  exact h.cell (by simpa using hj)
theorem Blk.fresh (w : World) (cs : Array Value) (t : TypeId) : Blk (w.alloc (.cells cs t)) w.heap.size cs t := heap_alloc_new w _
section control
variable {P : Program} {Q : Exit → Act → World → Prop} {K : Act → World → Prop} {a : Act} {w : World} {n : Nat} {f : Nat → Value}
theorem t_n (h : K a w) : Exit.then K Q .normal a w := h
theorem t_e {i : Nat} (h : Q (.exit i) a w) : Exit.then K Q (.exit i) a w := h
theorem t_r (h : Q .ret a w) : Exit.then K Q .ret a w := h
theorem b_n {i : Nat} (h : Q .normal a w) : Exit.inBlock i Q .normal a w := h
theorem Bu {i : Nat} (h : Q .normal a w) : Exit.inBlock i Q (.exit i) a w := by show (if i = i then Q .normal a w else Q (.exit i) a w); rw [if_pos rfl]; exact h
theorem b_r {i : Nat} (h : Q .ret a w) : Exit.inBlock i Q .ret a w := h
theorem Ab {x y : Code} (h : Wp P x (Exit.then (Wp P y Q) Q) a w) : Wp P (Code.seq x y) Q a w :=
  ⟨wp_seq (wp_mono h.out fun e a w hq => by cases e <;> first | exact Wp.out hq | exact hq)⟩
theorem Ai (h : Q .normal a w) : Wp P .skip Q a w := ⟨wp_skip h⟩
theorem Ak (h : Q .ret a w) : Wp P .ret Q a w := ⟨wp_ret h⟩
theorem Ba {i : Nat} (h : Q (.exit i) a w) : Wp P (.exit i) Q a w := ⟨wp_exit h⟩
theorem Am {i : Nat} {c : Code} (h : Wp P c (Exit.inBlock i Q) a w) : Wp P (.block i c) Q a w := ⟨wp_block h.out⟩
theorem Ia {c : Operand} {x y : Code} {b : Bool} (hc : ev n f c = .bool b) (ht : b = true → Wp P x Q (fr n f) w) (hf : b = false → Wp P y Q (fr n f) w) : Wp P (Code.cond c x y) Q (fr n f) w :=
  ⟨wp_cond_split (t := b) (by rw [A9]; exact hc) (fun h => (ht h).out) (fun h => (hf h).out)⟩
theorem As {c : Operand} {x y : Code} {p : Prop} [Decidable p] (hc : ev n f c = .bool (decide p)) (ht : p → Wp P x Q (fr n f) w) (hf : ¬ p → Wp P y Q (fr n f) w) : Wp P (Code.cond c x y) Q (fr n f) w :=
  Ia hc (fun h => ht (of_decide_eq_true h)) (fun h => hf (of_decide_eq_false h))
def hav (f : Nat → Value) (C : List Nat) (g : Nat → Value) : Nat → Value := fun t => bif C.elem t then g t else f t
def updL (f : Nat → Value) : List (Nat × Value) → Nat → Value
  | [] => f
  | (d, v) :: l => updR (updL f l) d v
def hold (f : Nat → Value) : List (Nat × Value) → Prop
  | [] => True
  | (d, v) :: l => f d = v ∧ hold f l
def Agr (C : List Nat) (F f : Nat → Value) : Prop := ∀ t, C.elem t = false → F t = f t
theorem Agr.refl (C : List Nat) (f : Nat → Value) : Agr C f f := fun _ _ => rfl
theorem Agr.hav (C : List Nat) (f g : Nat → Value) : Agr C (hav f C g) f := fun t h => by show (bif C.elem t then g t else f t) = f t; rw [h]; rfl
theorem Agr.upd {C : List Nat} {F f : Nat → Value} {d : Nat} {v : Value} (hd : C.elem d = true) (h : Agr C F f) : Agr C (upd F d v) f := fun t ht => by
  rw [Kh (fun e => by subst e; rw [hd] at ht; cases ht)]; exact h t ht
theorem Hi {F : Nat → Value} : ∀ (l : List (Nat × Value)), hold F l → updL F l = F
  | [], _ => rfl
  | (d, v) :: l, h => by
    have ih := Hi l h.2
    funext t
    show EngD.updR (updL F l) d v t = F t
    rw [ih]
    by_cases e : t = d
    · subst e; rw [Jh]; exact h.1.symm
    · rw [Ky e]
theorem Pf {C : List Nat} {F f : Nat → Value} (h : Agr C F f) : EngD.hav f C F = F := by
  funext t
  show (bif C.elem t then F t else f t) = F t
  cases hc : C.elem t
  · exact (h t hc).symm
  · rfl
theorem I0 {C : List Nat} {F f : Nat → Value} {l : List (Nat × Value)} (ha : Agr C F f) (hh : hold F l) : fr n F = fr n (updL (EngD.hav f C F) l) := by
  rw [Pf ha, Hi l hh]
def At (n : Nat) (f : Nat → Value) (C : List Nat) {ι : Type} (L : ι → List (Nat × Value)) (I : ι → World → Prop) (a : Act) (w : World) : Prop := ∃ i F, a = fr n F ∧ Agr C F f ∧ hold F (L i) ∧ I i w
theorem At.mk {C : List Nat} {ι : Type} {L : ι → List (Nat × Value)} {I : ι → World → Prop} {F : Nat → Value} (i : ι) (ha : Agr C F f) (hh : hold F (L i)) (hI : I i w) : At n f C L I (fr n F) w := ⟨i, F, rfl, ha, hh, hI⟩
theorem Bg {c : Code} {ι : Type} (C : List Nat) (L : ι → List (Nat × Value)) (I : ι → World → Prop) (μ : ι → Nat) (i0 : ι) (hh : hold f (L i0)) (h0 : I i0 w)
    (round : ∀ i g w, I i w → Wp P c (Exit.then (At n f C L fun i' w' => I i' w' ∧ μ i' < μ i) Q) (fr n (updL (EngD.hav f C g) (L i))) w) : Wp P (Code.loop c) Q (fr n f) w := by
  refine ⟨?_⟩
  intro b k cs
  have key : ∀ m i F w, μ i = m → Agr C F f → hold F (L i) → I i w →
      ∃ e a' w', Q e a' w' ∧ Arrives P (lone (b.at (fr n F) (.code c :: .inLoop c :: k)) cs w) b k cs e a' w' := by
    intro m
    induction m using Nat.strongRecOn with
    | _ m ih =>
      intro i F w hm hA hH hI
      have hr := round i F w hI
      rw [← I0 (n := n) hA hH] at hr
      obtain ⟨e, a₁, w₁, hq, harr⟩ := hr.out b (.inLoop c :: k) cs
      cases e with
      | normal =>
        obtain ⟨i', F', rfl, hA', hH', hI', hlt⟩ := hq
        obtain ⟨e₂, a₂, w₂, hq₂, harr₂⟩ := ih (μ i') (hm ▸ hlt) i' F' w₁ rfl hA' hH' hI'
        exact ⟨e₂, a₂, w₂, hq₂, .of_steps (Steps.trans harr (.one step_inLoop)) harr₂⟩
      | exit id => exact ⟨_, a₁, w₁, hq, .pass (x := .inLoop c) rfl (fun _ _ => .inl (by simp)) harr⟩
      | goto l => exact ⟨_, a₁, w₁, hq, .pass (x := .inLoop c) rfl (fun _ _ => .inl (by simp)) harr⟩
      | ret => exact ⟨_, a₁, w₁, hq, .pass (x := .inLoop c) rfl (fun _ _ => .inl (by simp)) harr⟩
      | panic ch => exact ⟨_, a₁, w₁, hq, .pass (x := .inLoop c) rfl (fun _ _ => .inl (by simp)) harr⟩
      | outgrown => exact ⟨_, a₁, w₁, hq, .pass (x := .inLoop c) rfl (fun _ _ => .inl (by simp)) harr⟩
  obtain ⟨e, a', w', hq, harr⟩ := key _ i0 f w rfl (Agr.refl _ _) hh h0
  exact ⟨e, a', w', hq, .of_steps (.one step_loop) harr⟩
end control
end Go.Proofs.EngD
end
section
namespace Go.Proofs.EngD
open Go.RowKit
section ops
variable {P : Program} {w : World} {n : Nat} {f : Nat → Value} {dst : Option Nat} {ty : TypeId} {pos : String} {aft : Array Edge} {gd : Option (Nat × Bool)}
variable {x y z : Operand} {v u : Value} {k : IntKind} {a b : Int} {T T' : TypeId}
theorem Nr {d : TypeDesc} (hu : P.underlying T = some d) (hd : d.isRow = false) : (isAgg T).run P w = .ok false w := by
  unfold isAgg
  rw [Sem.run_bind, run_underlying hu w]
  cases d <;> simp_all [TypeDesc.isRow]
theorem Hn {d : TypeDesc} (hu : P.underlying T = some d) (hd : d.isRow = false) {p : Addr} (hc : w.cell? p = some v) : (loadVar T p).run P w = .ok v w := by
  simp [loadVar, Sem.run_bind, Nr (w := w) hu hd, load, Sem.run, hc]
theorem Ae (hu : (P.underlying T).map TypeDesc.isRow = some false) {p : Addr} (hx : ev n f x = .pointer (some p)) (hc : w.cell? p = some v) :
    Ex P w n f ⟨dst, .load T x, ty, pos, aft, gd⟩ v := by
  obtain ⟨d, hu, hd⟩ := Option.map_eq_some_iff.1 hu
  unfold Ex execOp
  simp only [hx, Instr.loadAt, Instr.sureAddr, Sem.run_bind, Sem.run_pure, Result.andThen_ok, Hn hu hd hc]
theorem C9 (hu : (P.underlying T).map TypeDesc.isRow = some true) {b o : Nat} (hx : ev n f x = .pointer (some ⟨b, o, none⟩)) {cs : List Value} (hi : (P.info? T).map (·.size) = some cs.length) (hc : w.rangeAt b o cs) :
    Ex P w n f ⟨dst, .load T x, ty, pos, aft, gd⟩ (.agg cs.toArray) := by
  obtain ⟨d, hu, hd⟩ := Option.map_eq_some_iff.1 hu
  unfold Ex execOp
  simp only [hx, Instr.loadAt, Instr.sureAddr, Sem.run_bind, Sem.run_pure, Result.andThen_ok, run_loadVar_mid w b o T cs d hc hu hd hi]
theorem Bh (hu : (P.underlying T).map TypeDesc.isRow = some true) {g : Nat} (hx : ev n f x = .pointer (some ⟨g, 0, none⟩)) {cs : Array Value} {t : TypeId} (hB : Blk w g cs t) (hi : (P.info? T).map (·.size) = some cs.size) :
    Ex P w n f ⟨dst, .load T x, ty, pos, aft, gd⟩ (.agg cs) := by
  have := C9 (P := P) (w := w) (dst := dst) (ty := ty) (pos := pos) (aft := aft) (gd := gd) hu hx (cs := cs.toList) (by simpa using hi) hB.range
  simpa using this
theorem Aab {e : TypeId} {len : Nat} (hu : P.underlying T = some (.array len e)) {sz : Nat} (hz : (P.info? e).map (·.size) = some sz) {b o : Nat} (hx : ev n f x = .pointer (some ⟨b, o, none⟩)) (hy : ev n f y = .int k a)
    (h0 : 0 ≤ a) (h1 : a < (len : Int)) : Ex P w n f ⟨dst, .indexAddr T x y, ty, pos, aft, gd⟩ (.pointer (some ⟨b, o + a.toNat * sz, none⟩)) := by
  obtain ⟨ii, hi, hs⟩ := Option.map_eq_some_iff.1 hz
  unfold Ex execOp
  simp [hx, hy, Instr.indexAt, asIntOf, Instr.sureAddr, Sem.run_bind, run_underlying hu, h0, h1, sizeOf, typeInfo, hi, hs, Addr.add_mid]
theorem B5 {e : TypeId} {len : Nat} (hu : P.underlying T = some (.array len e)) (hz : (P.info? e).map (·.size) = some 1) {b i : Nat} (hx : ev n f x = .pointer (some ⟨b, 0, none⟩)) (hy : ev n f y = .int k (i : Int))
    (h1 : i < len) : Ex P w n f ⟨dst, .indexAddr T x y, ty, pos, aft, gd⟩ (.pointer (some ⟨b, i, none⟩)) := by
  have := Aab (P := P) (w := w) (dst := dst) (ty := ty) (pos := pos) (aft := aft) (gd := gd) hu hz hx hy (by omega) (by omega)
  simpa using this
-- equality of arrays of bytes
open Extern.Stop (cell) in
theorem Fv {e : TypeId} {m : Nat} (hu : P.underlying T = some (.array m e)) (he : P.underlying e = some (.int .u8)) (hz : (P.info? e).map (·.size) = some 1) (hq : P.eqGuardType P.depth T = false) {xs ys : List UInt8}
    (hx : ev n f x = .agg (xs.map cell).toArray) (hy : ev n f y = .agg (ys.map cell).toArray) (hl : xs.length = m) (hl' : ys.length = m) : Ex P w n f ⟨dst, .binOp .eql T x y T', ty, pos, aft, gd⟩ (.bool (decide (xs = ys))) := by
  obtain ⟨ii, hi, hs⟩ := Option.map_eq_some_iff.1 hz
  have h := run_eql_bytes (P := P) w T e m hu he (fun w => by simp [sizeOf, typeInfo, hi, hs]) xs ys hl hl'
  refine Cc hx hy (run_eqGuard_agg w .eql T x y _ _ hq) ?_
  rw [h]
  congr 2
  by_cases hxy : xs = ys <;> simp [hxy]
end ops
section loud
variable {P : Program} {ops : Array Oper} {Q : Exit → Act → World → Prop} {rest : List Oper} {n : Nat} {f : Nat → Value} {w : World}
variable {op : Op} {ty : TypeId} {pos : String} {aft : Array Edge} {d : Nat} {v : Value} {x y z : Operand} {T : TypeId}
structure New (w w' : World) (g : Nat) (cs : Array Value) (t : TypeId) : Prop where
  blk : Blk w' g cs t
  ext : Ext w w'
  g_eq : g = w.heap.size
  size : w'.heap.size = g + 1
theorem New.alloc (w : World) (cs : Array Value) (t : TypeId) : New w (w.alloc (.cells cs t)) w.heap.size cs t := ⟨Blk.fresh w cs t, Ext.alloc w _, rfl, by simp⟩
theorem l1 {w' : World} (h : (execOp (ev n f) ⟨some d, op, ty, pos, aft, none⟩).run P w = .ok (.value v) w') (k : Lst P ops Q rest (fr n (upd f d v)) w') : Lst P ops Q (⟨some d, op, ty, pos, aft, none⟩ :: rest) (fr n f) w :=
  ⟨wpList_plain rfl fun K hK => by
    unfold Oper.wp
    rw [A9, h, Oper.upon_value, Cy]
    exact hK _ _ k.out⟩
theorem X6 (hx : ev n f x = v) (k : ∀ w' g, New w w' g v.cells T → Lst P ops Q rest (fr n (upd f d (.pointer (some ⟨g, 0, none⟩)))) w') : Lst P ops Q (⟨some d, .box T x, ty, pos, aft, none⟩ :: rest) (fr n f) w :=
  l1 (w' := w.alloc (.cells v.cells T)) (v := .pointer (some ⟨w.heap.size, 0, none⟩)) (by subst hx; rfl) (k _ _ (New.alloc _ _ _))
theorem Em {cs : Array Value} (hx : ev n f x = .agg cs) (k : ∀ w' g, New w w' g cs T → Lst P ops Q rest (fr n (upd f d (.pointer (some ⟨g, 0, none⟩)))) w') : Lst P ops Q (⟨some d, .box T x, ty, pos, aft, none⟩ :: rest) (fr n f) w :=
  X6 hx k
def evL (n : Nat) (f : Nat → Value) : List Operand → List Value
  | [] => []
  | x :: l => ev n f x :: evL n f l
theorem Fa (n : Nat) (f : Nat → Value) : ∀ l : List Operand, l.map (ev n f) = evL n f l
  | [] => rfl
  | x :: l => by rw [List.map_cons, Fa n f l]; rfl
theorem Ah {g : FuncId} {as_ : List Operand} {ats : Array TypeId} {fn : Func} {vs : List Value} {R : Value → World → Prop} (hf : P.funcs[g]? = some fn) (hn : (fn.name == "runtime.NumGoroutine") = false) (hb : fn.body.isNone = false)
    (hc : Ret P g vs w R) (ha : evL n f as_ = vs) (k : ∀ v w', R v w' → Lst P ops Q rest (fr n (upd f d v)) w') :
    Lst P ops Q (⟨some d, .call ⟨.value (.func g), as_.toArray, ats⟩, ty, pos, aft, none⟩ :: rest) (fr n f) w :=
  ⟨wpList_plain rfl fun K hK => by
    have hn' : ¬ fn.name = "runtime.NumGoroutine" := by simpa using hn
    have hb' : ¬ fn.body = none := by intro e; rw [e] at hb; cases hb
    have ha' : as_.toArray.map (ev n f) = vs.toArray := by rw [List.map_toArray, Fa, ha]
    have he : (execOp (ev n f) ⟨some d, .call ⟨.value (.func g), as_.toArray, ats⟩, ty, pos, aft, none⟩).run P w = .ok (.enter g vs.toArray) w := by
      simp [execOp, resolve, ha', ev, Deferred.ofValue, invoke, callFunc, hf, hn', hb', Sem.run_bind, Sem.run]
    unfold Oper.wp
    rw [A9, he, Oper.upon_enter]
    refine Calls.mono hc.out fun e w' hr => ?_
    obtain ⟨v, rfl, hv⟩ := hr
    show K ((fr n f).put (some d) v) w'
    rw [Cy]
    exact hK _ _ (k v w' hv).out⟩
end loud
section regions
variable {P : Program} {Q : Exit → Act → World → Prop} {n : Nat} {f : Nat → Value} {w : World} {l : List Oper} {id : Nat}
theorem Aa (h : Lst P l.toArray Q l (fr n f) w) : Wp P (Code.region id l.toArray false) Q (fr n f) w := ⟨wp_region_lit h.out⟩
theorem Ac {ops : Array Oper} {a : Act} (h : Q .normal a w) : Lst P ops Q [] a w := ⟨h⟩
theorem Du (hm : P.follows .mixedOrders = true) (hB : Region.lexB .any l.toArray = true) (h : ∀ w', Ext w w' → St P l.toArray w' (fun a' => Q .normal a' w') l (fr n f)) : Wp P (Code.region id l.toArray true) Q (fr n f) w :=
  ⟨wp_region_still_lit hm hB (h w.drew (Ext.drew w)).out⟩
theorem Ca {ops : Array Oper} {K : Act → Prop} {a : Act} (h : K a) : St P ops w K [] a := ⟨h⟩
theorem s1 {ops : Array Oper} {K : Act → Prop} {rest : List Oper} {op : Op} {ty : TypeId} {pos : String} {aft : Array Edge} {d : Nat} {v : Value} (h : Ex P w n f ⟨some d, op, ty, pos, aft, none⟩ v) (k : St P ops w K rest (fr n (upd f d v))) :
    St P ops w K (⟨some d, op, ty, pos, aft, none⟩ :: rest) (fr n f) := by
  refine ⟨?_⟩
  unfold wpStill
  simp only [Region.wanted, if_true]
  unfold Oper.still
  rw [A9, h, Oper.stillUpon_value, Cy]
  exact k.out
end regions
end Go.Proofs.EngD
end
section
namespace Go.Proofs.EngD
open Go.RowKit
open Extern.Stop (cell)
abbrev Hash := { l : List UInt8 // l.length = 32 }
instance : Inhabited Hash := ⟨⟨List.replicate 32 0, by simp⟩⟩
def hcs (h : Hash) : List Value := h.1.map cell
def hv (h : Hash) : Array Value := (hcs h).toArray
theorem E8 (h : Hash) : (hcs h).length = 32 := by simp [hcs, h.2]
theorem B4 {P : Program} {T : TypeId} (hs : (P.info? T).map (·.size) = some 32) (h : Hash) : (P.info? T).map (·.size) = some (hv h).size := by rw [hs]; simp [hv, E8]
theorem S8 (h : Hash) (i : Nat) (hi : i < 32) : (hv h)[i]? = some (.int .u8 (h.1.getD i 0).toNat) := by
  have := h.2
  simp [hv, hcs, cell, this, hi]
end Go.Proofs.EngD
end
section
namespace Go.Proofs.EngD
def lex : List UInt8 → List UInt8 → Bool
  | x :: l, y :: m => if x = y then lex l m else decide (x < y)
  | _, _ => false
theorem Abo : ∀ (a b : List UInt8) (k : Nat), k < a.length → k < b.length → (∀ i, i < k → a.getD i 0 = b.getD i 0) → a.getD k 0 ≠ b.getD k 0 → lex a b = decide (a.getD k 0 < b.getD k 0)
  | x :: l, y :: m, 0, _, _, _, h => by
    simp at h
    simp [lex, h]
  | x :: l, y :: m, k + 1, ha, hb, he, h => by
    have h0 : x = y := he 0 (by omega)
    simp only [lex, if_pos h0]
    rw [Abo l m k (by simpa using ha) (by simpa using hb) (fun i hi => he (i + 1) (by omega)) h]
    simp
  | [], _, k, ha, _, _, _ => by simp at ha
  | _ :: _, [], k, _, hb, _, _ => by simp at hb
theorem Io : ∀ a : List UInt8, lex a a = false
  | [] => rfl
  | x :: l => by simp [lex, Io l]
theorem Z1 {a b : List UInt8} (h : a.length = b.length) (he : ∀ i, i < a.length → a.getD i 0 = b.getD i 0) : a = b := by
  apply List.ext_getElem h
  intro i h1 h2
  have := he i h1
  simpa [h1, h2] using this
theorem Kj {a b : UInt8} : ((a.toNat : Int) = (b.toNat : Int)) ↔ a = b := by
  constructor
  · intro h; exact UInt8.toNat_inj.1 (by omega)
  · intro h; rw [h]
theorem Aaq {a b : UInt8} : ((a.toNat : Int) < (b.toNat : Int)) ↔ a < b := by
  rw [UInt8.lt_iff_toNat_lt]; omega
theorem Wc {a b : UInt8} : decide ((a.toNat : Int) < (b.toNat : Int)) = decide (a < b) := decide_eq_decide.2 Aaq
def hlt (a b : Hash) : Bool := lex a.1 b.1
theorem Hp (a : Hash) : hlt a a = false := Io _
theorem Ab2 {a b : Hash} (k : Nat) (hk : k < 32) (he : ∀ i, i < k → a.1.getD i 0 = b.1.getD i 0) (h : a.1.getD k 0 ≠ b.1.getD k 0) : hlt a b = decide (a.1.getD k 0 < b.1.getD k 0) :=
  Abo a.1 b.1 k (by rw [a.2]; exact hk) (by rw [b.2]; exact hk) he h
theorem Ph {a b : Hash} (h : ∀ i, i < 32 → a.1.getD i 0 = b.1.getD i 0) : a = b := Subtype.ext (Z1 (by rw [a.2, b.2]) (fun i hi => h i (by rw [a.2] at hi; exact hi)))
def hcmp (a b : Hash) : Int := if a = b then 0 else if hlt a b = true then -1 else 1
end Go.Proofs.EngD
end
section
set_option maxRecDepth 100000
set_option maxHeartbeats 4000000
namespace Go.Proofs.EngD
open Go.RowKit
open Extern.Stop (cell)
theorem mixed : Tryz.prog.follows .mixedOrders = true := by kernel_rfl
theorem eg64 : Tryz.prog.eqGuardType Tryz.prog.depth 64 = false := by kernel_rfl
theorem fb135 : Tryz.f135.body.isNone = false := by kernel_rfl
theorem fn135 : (Tryz.f135.name == "runtime.NumGoroutine") = false := by kernel_rfl
theorem sz5 : (Tryz.prog.info? 5).map (·.size) = some 1 := by kernel_rfl
theorem sz64 : (Tryz.prog.info? 64).map (·.size) = some 32 := by kernel_rfl
theorem u5 : Tryz.prog.underlying 5 = some (.int .u8) := by kernel_rfl
theorem u64 : Tryz.prog.underlying 64 = some (.array 32 5) := by kernel_rfl
theorem ua64 : (Tryz.prog.underlying 64).map TypeDesc.isRow = some true := by kernel_rfl
theorem un5 : (Tryz.prog.underlying 5).map TypeDesc.isRow = some false := by kernel_rfl
end Go.Proofs.EngD
end
section
set_option maxRecDepth 100000
set_option maxHeartbeats 4000000
namespace Go.Proofs.EngD
open Go.RowKit
open Extern.Stop (cell)
theorem Aa1 (a b : Hash) (w : World) :
    Ret Tryz.prog 135 [.agg (hv a), .agg (hv b)] w (fun v w' => v = .bool (hlt a b) ∧ Ext w w') := by
 have hX := Ext.refl w
 refine enter 25 _ Tryz.func135 rfl rfl (Nat.le_of_ble_eq_true rfl) rfl ?_
 refine Ab (Aa ?_)
 refine Em (by conv => lhs; whnf) ?_
 intro w1 g2 hN2
 have hE1 := hN2.ext
 have hX := hX.ext hE1
 have hB2 := hN2.blk
 refine Em (by conv => lhs; whnf) ?_
 intro w2 g3 hN3
 have hE2 := hN3.ext
 have hX := hX.ext hE2
 have hB2 := hB2.ext hE2
 have hB3 := hN3.blk
 refine p1 (Ax (by conv => lhs; whnf)) ?_
 refine Ac (t_n (Ab (Ab (Aa ?_))))
 refine p1 (Bh ua64 rfl hB2 (B4 sz64 a)) ?_
 refine p1 (Bh ua64 rfl hB3 (B4 sz64 b)) ?_
 refine p1 (Fv u64 u5 sz5 eg64 rfl rfl a.2 b.2) ?_
 refine Ac (t_n ?_)
 first | refine As rfl (fun hc8 => ?_) (fun hc8 => ?_) | refine Ia rfl (fun hc8 => ?_) (fun hc8 => ?_)
 ·try simp only [dA, dB, dC, dD, dE, dF, dG, Int.not_lt, Int.not_le] at hc8
  have hp : hlt a b = false := by rw [Subtype.ext hc8]; exact Hp b
  refine Ab (Aa ?_)
  refine p1 (Ax (by conv => lhs; whnf)) ?_
  refine Ac (t_n (Ak (t_r ?_)))
  refine end1 rfl (by conv => lhs; whnf) ?_
  first | exact ⟨by rw [hp], hX⟩ | exact ⟨by rw [Ab2 k hk hL (fun e => hc15 (Kj.2 e)), Wc], hX⟩
 ·try simp only [dA, dB, dC, dD, dE, dF, dG, Int.not_lt, Int.not_le] at hc8
  refine Ai (t_n (Ab (Aa ?_)))
  refine p1 (Ax (by conv => lhs; whnf)) ?_
  refine Ac (t_n (Ab (Am ?_)))
  have hWL0 := Ext.refl w2
  refine Bg (ι := Nat) [5, 9, 10, 11, 12, 13, 14, 15, 16, 17] (fun k => [(5, .int .i64 (k : Int))]) (fun k w' => Ext w2 w' ∧ (k < 32 ∧ ∀ i, i < k → a.1.getD i 0 = b.1.getD i 0)) (fun k => 32 - k) (0) ⟨rfl, trivial⟩ ⟨Ext.refl _, ⟨by omega, fun i hi => by omega⟩⟩ ?_
  rintro k GL0 w3 ⟨hE3, hk, hL⟩
  have hX := hX.ext hE3
  have hB2 := hB2.ext hE3
  have hB3 := hB3.ext hE3
  have hWL0 := hE3
  refine Ab (Ab ?_)
  refine Du mixed (by kernel_rfl) ?_
  intro w4 hE4
  have hX := hX.ext hE4
  have hB2 := hB2.ext hE4
  have hB3 := hB3.ext hE4
  have hWL0 := hWL0.ext hE4
  refine s1 (Al (by conv => lhs; whnf)) ?_
  refine s1 (B5 u64 sz5 rfl rfl (by omega)) ?_
  refine s1 (Ae un5 rfl (hB2.cell (S8 a _ (by omega)))) ?_
  refine s1 (Al (by conv => lhs; whnf)) ?_
  refine s1 (B5 u64 sz5 rfl rfl (by omega)) ?_
  refine s1 (Ae un5 rfl (hB3.cell (S8 b _ (by omega)))) ?_
  refine s1 (Bn rfl rfl) ?_
  refine Ca (t_n ?_)
  first | refine As rfl (fun hc15 => ?_) (fun hc15 => ?_) | refine Ia rfl (fun hc15 => ?_) (fun hc15 => ?_)
  ·try simp only [dA, dB, dC, dD, dE, dF, dG, Int.not_lt, Int.not_le] at hc15
   have h1 := Kj.1 hc15
   have hk2 : k + 1 < 32 := by
     apply Classical.byContradiction
     intro hn
     exact hc8 (congrArg Subtype.val <| Ph (fun i hi => if h : i < k then hL i h else by rw [show i = k from by omega]; exact h1))
   refine Ai (t_n (Am (Aa ?_)))
   refine p1 (Al (by conv => lhs; whnf)) ?_
   refine p1 (Aw rfl rfl (Ag (by omega) (by omega))) ?_
   refine p1 (Ax (by conv => lhs; whnf)) ?_
   refine Ac (b_n ?_)
   refine t_n (At.mk (k + 1) (by repeat (first | exact Agr.refl _ _ | exact Agr.hav _ _ _ | refine Agr.upd rfl ?_ | refine Agr.updR rfl ?_ | refine Agr.updL ?_ _ rfl | refine Agr.hav' rfl ?_)) ⟨rfl, trivial⟩ ?_)
   exact ⟨⟨hWL0, ⟨hk2, fun i hi => if h : i < k then hL i h else by rw [show i = k from by omega]; exact h1⟩⟩, by first | (dsimp only; omega) | ((show _ < _); omega)⟩
  ·try simp only [dA, dB, dC, dD, dE, dF, dG, Int.not_lt, Int.not_le] at hc15
   refine Ba (t_e (t_e (Bu (t_n (Ab ?_)))))
   refine Du mixed (by kernel_rfl) ?_
   intro w5 hE5
   have hX := hX.ext hE5
   have hB2 := hB2.ext hE5
   have hB3 := hB3.ext hE5
   refine s1 (Al (by conv => lhs; whnf)) ?_
   refine s1 (B5 u64 sz5 rfl rfl (by omega)) ?_
   refine s1 (Ae un5 rfl (hB2.cell (S8 a _ (by omega)))) ?_
   refine s1 (Al (by conv => lhs; whnf)) ?_
   refine s1 (B5 u64 sz5 rfl rfl (by omega)) ?_
   refine s1 (Ae un5 rfl (hB3.cell (S8 b _ (by omega)))) ?_
   refine s1 (Bx rfl rfl) ?_
   refine s1 (Ax (by conv => lhs; whnf)) ?_
   refine Ca (t_n (Ak ?_))
   refine end1 rfl (by conv => lhs; whnf) ?_
   first | exact ⟨by rw [hp], hX⟩ | exact ⟨by rw [Ab2 k hk hL (fun e => hc15 (Kj.2 e)), Wc], hX⟩
theorem compare_any (a b : Hash) (w : World) :
    Ret Tryz.prog 90 [.agg (hv a), .agg (hv b)] w (fun v w' => v = .int .i64 (hcmp a b) ∧ Ext w w') := by
 have hX := Ext.refl w
 refine enter 13 _ Tryz.func90 rfl rfl (Nat.le_of_ble_eq_true rfl) rfl ?_
 refine Ab (Aa ?_)
 refine Em (by conv => lhs; whnf) ?_
 intro w1 g2 hN2
 have hE1 := hN2.ext
 have hX := hX.ext hE1
 have hB2 := hN2.blk
 refine Em (by conv => lhs; whnf) ?_
 intro w2 g3 hN3
 have hE2 := hN3.ext
 have hX := hX.ext hE2
 have hB2 := hB2.ext hE2
 have hB3 := hN3.blk
 refine p1 (Ax (by conv => lhs; whnf)) ?_
 refine Ac (t_n (Ab (Am (Ab (Aa ?_)))))
 refine p1 (Bh ua64 rfl hB2 (B4 sz64 a)) ?_
 refine p1 (Bh ua64 rfl hB3 (B4 sz64 b)) ?_
 refine p1 (Fv u64 u5 sz5 eg64 rfl rfl a.2 b.2) ?_
 refine p1 (Ax (by conv => lhs; whnf)) ?_
 refine Ac (t_n ?_)
 first | refine As rfl (fun hc5 => ?_) (fun hc5 => ?_) | refine Ia rfl (fun hc5 => ?_) (fun hc5 => ?_)
 ·try simp only [dA, dB, dC, dD, dE, dF, dG, Int.not_lt, Int.not_le] at hc5
  have hp : hcmp a b = 0 := by unfold hcmp; rw [if_pos (Subtype.ext hc5)]
  refine Ab (Aa ?_)
  refine p1 (Ax (by conv => lhs; whnf)) ?_
  refine Ac (t_n (Ak (b_r (t_r ?_))))
  refine end1 rfl (by conv => lhs; whnf) ?_
  exact ⟨by rw [hp], hX⟩
 ·try simp only [dA, dB, dC, dD, dE, dF, dG, Int.not_lt, Int.not_le] at hc5
  refine Ab (Aa ?_)
  refine p1 (Bh ua64 rfl hB2 (B4 sz64 a)) ?_
  refine p1 (Bh ua64 rfl hB3 (B4 sz64 b)) ?_
  refine Ah Tryz.func135 fn135 fb135 (Aa1 a b _) rfl ?_
  rintro v3 w3 ⟨rfl, hE3⟩
  have hX := hX.ext hE3
  have hB2 := hB2.ext hE3
  have hB3 := hB3.ext hE3
  refine p1 (Ax (by conv => lhs; whnf)) ?_
  refine Ac (t_n ?_)
  first | refine As rfl (fun hc9 => ?_) (fun hc9 => ?_) | refine Ia rfl (fun hc9 => ?_) (fun hc9 => ?_)
  ·try simp only [dA, dB, dC, dD, dE, dF, dG, Int.not_lt, Int.not_le] at hc9
   have hp : hcmp a b = -1 := by unfold hcmp; rw [if_neg (fun e => hc5 (by rw [e])), if_pos hc9]
   refine Ab (Aa ?_)
   refine p1 (Ax (by conv => lhs; whnf)) ?_
   refine Ac (t_n (Ak (b_r (t_r ?_))))
   refine end1 rfl (by conv => lhs; whnf) ?_
   exact ⟨by rw [hp], hX⟩
  ·try simp only [dA, dB, dC, dD, dE, dF, dG, Int.not_lt, Int.not_le] at hc9
   have hp : hcmp a b = 1 := by unfold hcmp; rw [if_neg (fun e => hc5 (by rw [e])), if_neg (by simp [hc9])]
   refine Ai (b_n (t_n (Ab (Aa ?_))))
   refine p1 (Ax (by conv => lhs; whnf)) ?_
   refine Ac (t_n (Ak ?_))
   refine end1 rfl (by conv => lhs; whnf) ?_
   exact ⟨by rw [hp], hX⟩
end Go.Proofs.EngD
end
section
namespace Go.Proofs.EngD
open Go.RowKit Go.Sort
theorem Ext.grown {w w' : World} (h : Ext w w') : ∃ q os', w' = Sort.grow (w.drewN q) os' := by
  refine ⟨w'.drawn - w.drawn, w'.heap.extract w.heap.size w'.heap.size, ?_⟩
  have e1 : w'.heap = w.heap ++ w'.heap.extract w.heap.size w'.heap.size := by
    apply Array.ext_getElem?
    intro k
    have hs := h.size
    by_cases hk : k < w.heap.size
    · rw [h.old k hk, Array.getElem?_append_left hk]
    · rw [Array.getElem?_append_right (by omega)]
      simp only [Array.getElem?_extract]
      by_cases hk2 : k < w'.heap.size
      · rw [if_pos (by omega)]; congr 1; omega
      · rw [if_neg (by omega), Array.getElem?_eq_none (by omega)]
  have e2 : w'.drawn = w.drawn + (w'.drawn - w.drawn) := by have : w.drawn ≤ w'.drawn := h.drawn; omega
  obtain ⟨h1, h2, h3⟩ := (⟨h.os, h.tape, h.output⟩ : w'.os = w.os ∧ w'.tape = w.tape ∧ w'.output = w.output)
  cases w'
  cases w
  simp only [Sort.grow, World.drewN] at *
  subst h1 h2 h3
  rw [← e1, ← e2]
section
variable {α : Type} [Inhabited α] {sz : Nat} {enc : α → List Value} {hl : ∀ x, (enc x).length = sz} {h1 : ∀ x, ∀ v ∈ enc x, v.oneCell' = true}
theorem cmpLays_of_ret {P : Program} {g : Nat} {cf : α → α → Int} (h : ∀ a b w, Ret P g [.agg (enc a).toArray, .agg (enc b).toArray] w (fun v w' => v = .int .i64 (cf a b) ∧ Ext w w')) (blk off size : Nat) (w : World) : CmpLays P g #[] enc sz cf blk off size w := by
  intro m os dk hs x y
  refine Calls.mono (h x y _).out ?_
  rintro e w' ⟨v, rfl, rfl, hx⟩
  exact ⟨rfl, hx.grown⟩
end
end Go.Proofs.EngD
end
section
namespace Go.Proofs.Eng
open Go.RowKit Go.Sort
theorem Vm:∀ args w,(callFunc 90 args).run Tryz.prog w = .ok (.enter 90 args) w:=enters_of Tryz.func90 (by kernel_rfl) rfl
theorem isAgg64:∀ w,(isAgg 64).run Tryz.prog w = .ok true w:=Tryz.isAgg64
theorem sizeOf64:∀ w,(Go.sizeOf 64).run Tryz.prog w = .ok 32 w:=Tryz.sizeOf64
def Acz (l:List Hash):Prop:=∀ i j,i<j→j<l.length→hlt (l.getD j default) (l.getD i default)=false
theorem Ya:∀ a b:List UInt8,EngD.lex a b=lex a b
  | [],[]=>rfl
  | [],_ :: _=>rfl
  | _ :: _,[]=>rfl
  | x :: a,y :: b=>by unfold EngD.lex lex;rw[Ya a b]
theorem Ad5 (a b:Hash):EngD.hlt a b=hlt a b:=Ya a.1 b.1
theorem Ab3 (a b:Hash):EngD.hcmp a b=hcmp a b:=by unfold EngD.hcmp hcmp;rw[Ad5]
theorem Ig (xs:List Hash) (B0:Nat) (p:Option Addr) (n c:Nat) (w:World) (hO:Own kHash 64 0 B0 w p n c xs) (hs:n≤4194304000) :
    Ret Tryz.prog 89 [.slice p n c,.func (.func 90) #[] #[]] w (fun v w'=>∃ ys,Own kHash 64 0 B0 w' p n c ys∧ys.Perm xs∧Acz ys∧Mod B0 64 w w'):=by
  rcases Nat.eq_zero_or_pos n with h0 | h0
  · subst h0
    have hx0:xs=[]:=List.eq_nil_of_length_eq_zero hO.len
    subst hx0
    refine⟨Calls.mono (AnyF.slices_SortFunc_none Tryz.sortHash p c (.func (.func 90) #[] #[]) w) ?_⟩
    rintro e w' ⟨rfl,rfl⟩
    exact⟨_,rfl,[],hO,.refl _,fun i j h1 h2=>by simp at h2,.refl _ _ _⟩
  · obtain ⟨g, cur, css, e1, h2, h3, _⟩ := hO.block h0
    subst e1
    have hlen:=hO.len
    have hH:=S9 (h:=hO) h0
    have hc:=AnyQ.slices_SortFunc Tryz.sortHash 32 isAgg64 sizeOf64 hcs E8 Ta hcmp Aas 90 #[] g 0 c xs.toArray w Vm
      (EngD.cmpLays_of_ret (sz:=32) (enc:=hcs) (cf:=hcmp) (fun a b w=>Ab3 a b ▸ EngD.compare_any a b w) g 0 _ w) hH h3.lt (by simp[hlen];omega)
    have hsz:xs.toArray.size=n:=by simpa using hlen
    rw[hsz] at hc
    refine⟨Calls.mono hc ?_⟩
    rintro e w' ⟨rfl,d',m,os,hp,hso,rfl⟩
    have hd:d'.size=n:=by rw[hp.1,hsz]
    obtain⟨ho',hm'⟩:=Uw hO h0 m d' hd os
    refine⟨_,rfl,d'.toList,ho',?_,?_,hm'⟩
    · have hpp := hp.2.2
      have e2:d'.extract 0 n=d':=by rw[← hd];simp
      have e3:xs.toArray.extract 0 n=xs.toArray:=by rw[← hsz];simp
      rw[e2,e3] at hpp
      simpa using hpp
    · intro i j hij hj
      have hj':j<n:=by simpa [hd] using hj
      have:=hso i j (Nat.zero_le _) hij hj'
      rw[J1] at this
      rw[getElem!_pos d' j (by omega),getElem!_pos d' i (by omega)] at this
      have g1:d'.toList.getD j default=d'[j]'(by omega):=by simp[List.getD_eq_getElem?_getD,show j<d'.size by omega]
      have g2:d'.toList.getD i default=d'[i]'(by omega):=by simp[List.getD_eq_getElem?_getD,show i<d'.size by omega]
      rw[g1,g2];exact this
end Go.Proofs.Eng
end
section
namespace Go.Proofs.Eng
open Go.RowKit
def wth:List Hash→Hash→List Hash
  | [],h=>[h]
  | x :: l,h=>if hlt x h=true then x :: wth l h else if x=h then x :: l else h :: x :: l
theorem S4:∀ (l:List Hash) (h z:Hash),z∈wth l h↔z∈l∨z=h
  | [],h,z=>by simp[wth]
  | x :: l, h, z => by
    unfold wth
    split
    · rw [List.mem_cons, S4 l h z, List.mem_cons]
      constructor
      · rintro (h | h | h) <;> simp[h]
      · rintro ((h | h) | h) <;> simp[h]
    · split
      · rename_i e
        constructor
        · intro h;exact .inl h
        · rintro (h | h)
          · exact h
          · rw[h,← e];simp
      · simp only [List.mem_cons]
        constructor
        · rintro (h | h) <;> simp[h]
        · rintro (h | h) <;> simp[h]
theorem Um:∀ (l:List Hash) (h:Hash),Rise l→Rise (wth l h)
  | [],h,_=>by simp[wth]
  | x :: l, h, hr => by
    have hr':=List.pairwise_cons.1 hr
    unfold wth
    split
    · rename_i hx
      refine List.pairwise_cons.2 ⟨fun z hz=>?_,Um l h hr'.2⟩
      rcases (S4 l h z).1 hz with e | e
      · exact hr'.1 z e
      · rw[e];exact hx
    · split
      · exact hr
      · rename_i h1 h2
        have h3:hlt h x=true:=by
          rcases Ho x h with e | e | e
          · exact absurd e h2
          · exact absurd e h1
          · exact e
        refine List.pairwise_cons.2 ⟨fun z hz=>?_,hr⟩
        rcases List.mem_cons.1 hz with e | e
        · rw[e];exact h3
        · exact Mb h3 (hr'.1 z e)
theorem Xq:∀ (l:List Hash) (h:Hash),(wth l h).length≤l.length+1
  | [],h=>by simp[wth]
  | x :: l, h => by
    unfold wth
    split
    · have:=Xq l h;simp;omega
    · split <;> simp
def srt (xs:List Hash):List Hash:=xs.foldl wth []
theorem Mh:∀ (xs acc:List Hash),Rise acc→Rise (xs.foldl wth acc)∧(∀ z,z∈xs.foldl wth acc↔z∈acc∨z∈xs)∧(xs.foldl wth acc).length≤acc.length+xs.length
  | [],acc,h=>⟨h,fun z=>by simp,by simp⟩
  | x :: xs, acc, h => by
    obtain⟨h1,h2,h3⟩:=Mh xs (wth acc x) (Um acc x h)
    refine⟨h1,fun z=>?_,?_⟩
    · rw[List.foldl_cons,h2 z,S4,List.mem_cons,or_assoc]
    · have:=Xq acc x;rw[List.foldl_cons,List.length_cons];omega
theorem Fy (xs:List Hash):Rise (srt xs):=(Mh xs [] .nil).1
theorem mem_srt {xs:List Hash} {z:Hash}:z∈srt xs↔z∈xs:=by unfold srt;have:=(Mh xs [] .nil).2.1 z;simpa using this
theorem Om {xs ys:List Hash} (h:Rise ys) (hm:∀ z,z∈ys↔z∈xs):ys=srt xs:=Un h (Fy xs) fun z=>(hm z).trans mem_srt.symm
theorem mem_iff_getD {xs:List Hash} {z:Hash}:z∈xs↔∃ i,i<xs.length∧xs.getD i default=z:=by
  constructor
  · intro h
    obtain⟨i,hi,e⟩:=List.mem_iff_getElem.1 h
    exact⟨i,hi,by rw[List.getD_eq_getElem?_getD,List.getElem?_eq_getElem hi];exact e⟩
  · rintro⟨i,hi,e⟩;exact Cn hi e
theorem Ada {xs ys:List Hash} {n:Nat} (hp:ys.Perm xs) (hs:Acz ys) (hn:ys.length=n):cpt ys n=srt xs:=by
  subst hn
  obtain⟨h1,h2⟩:=P2 hs ys.length (Nat.le_refl _)
  exact Om h1 fun z=>(h2 z).trans (mem_iff_getD.symm.trans hp.mem_iff)
theorem Po {xs:List Hash} {k:Nat} (h:k<xs.length):xs.take (k+1)=xs.take k++[xs.getD k default]:=by
  rw[List.take_succ_eq_append_getElem h,List.getD_eq_getElem?_getD,List.getElem?_eq_getElem h];rfl
end Go.Proofs.Eng
end
section
namespace Go.Proofs.Eng
open Go.RowKit
def inS (xs:List Hash):Hash→Option Bool:=fun h=>if h∈xs then some true else none
theorem Ad2 (xs:List Hash) (h:Hash):(inS xs h).getD false=decide (h∈xs):=by
  unfold inS;by_cases e:h∈xs <;> simp[e]
theorem Pd {xs:List Hash} {h:Hash}:inS xs h≠none↔h∈xs:=by
  unfold inS;by_cases e:h∈xs <;> simp[e]
theorem Aby {xs:List Hash} {k:Nat} (h:k<xs.length) (z:Hash):mset (inS (xs.take k)) (xs.getD k default) (some true) z=inS (xs.take (k+1)) z:=by
  unfold mset inS
  rw[Po h]
  by_cases e:z=xs.getD k default
  · rw[if_pos e,if_pos (by simp[e])]
  · rw [if_neg e]
    by_cases e2:z∈xs.take k
    · rw[if_pos e2,if_pos (by simp[e2])]
    · rw[if_neg e2,if_neg (by simp only[List.mem_append,List.mem_singleton,not_or];exact⟨e2,e⟩)]
def sel (ys:List Hash) (inn:Bool) (xs:List Hash):List Hash:=xs.filter fun z=>decide (decide (z∈ys)=inn)
theorem X9 {ys xs:List Hash} {inn:Bool} {z:Hash}:z∈sel ys inn xs↔z∈xs∧(z∈ys↔inn=true):=by
  unfold sel
  rw[List.mem_filter]
  cases inn <;> simp
theorem Uh (ys:List Hash) (inn:Bool) (xs:List Hash) (a:Hash):sel ys inn (xs++[a])=if decide (a∈ys)=inn then sel ys inn xs++[a] else sel ys inn xs:=by
  unfold sel
  rw[List.filter_append]
  by_cases e:decide (a∈ys)=inn
  · rw[if_pos e];simp[e]
  · rw[if_neg e];simp[e]
theorem Adh (ys:List Hash) (inn:Bool) (xs:List Hash):(sel ys inn xs).length≤xs.length:=List.length_filter_le _ _
theorem Fz:∀ {xs ks:List Hash},xs.Nodup→(∀ z∈xs,z∈ks)→xs.length≤ks.length
  | [],_,_,_=>by simp
  | x :: xs, ks, hn, hs => by
    have hn':=List.nodup_cons.1 hn
    have hx:x∈ks:=hs x (by simp)
    have h1:=Fz (ks:=ks.erase x) hn'.2 (fun z hz=>(List.mem_erase_of_ne (fun e=>hn'.1 (by rw[← e];exact hz))).2 (hs z (by simp[hz])))
    rw[List.length_erase_of_mem hx] at h1
    have:=List.length_pos_of_mem hx
    simp only[List.length_cons]
    omega
theorem Y6 {xs ys:List Hash} (h:∀ z,z∈xs↔z∈ys):srt xs=srt ys:=Om (Fy xs) fun z=>mem_srt.trans (h z)
theorem Ue {ys xs vs:List Hash} {inn:Bool} (h1:∀ z∈vs,z∈xs) (h2:∀ z∈xs,z∈vs):srt (sel ys inn vs)=srt (sel ys inn xs) :=
  Y6 fun z=>by rw[X9,X9];exact⟨fun h=>⟨h1 z h.1,h.2⟩,fun h=>⟨h2 z h.1,h.2⟩⟩
theorem Rise.nodup {xs:List Hash} (h:Rise xs):xs.Nodup:=List.Pairwise.imp (fun h e=>W6 h e) h
end Go.Proofs.Eng
end
section
set_option maxRecDepth 100000
set_option maxHeartbeats 4000000
namespace Go.Proofs.Eng
open Go.RowKit
open Extern.Stop (cell)
theorem De (x n:Int) (w:World) (h0:0≤n) (h1:n≤32) :
    Ret Tryz.prog 162 [.int .u32 x,.int .u64 n] w (fun v w'=>v = .int .u32 (rotW x n)∧Ext w w'):=by
 have hX:=Ext.refl w
 refine eN 13 Tryz.func162 ?_
 refine Ab (Aa ?_)
 refine pA (Ac (t_n (Ab (Aa ?_))))
 refine pM (pM ?_)
 refine p1 (Ib rfl rfl (by omega)) ?_
 refine pM (pM ?_)
 refine p1 (Cz rfl rfl (Eo (by omega) (by omega))) ?_
 refine p1 (Qm rfl rfl (by omega)) ?_
 refine p1 (Yu rfl rfl) ?_
 refine pA (Ac (t_n (Ak ?_)))
 refine eR1 ?_
 exact⟨rfl,hX⟩
theorem pa64:Da Tryz.prog 175=some (.agg #[.int .u32 0,.int .u32 0,.int .u32 0,.int .u32 0,.int .u32 0,.int .u32 0,.int .u32 0,.int .u32 0],[(0,1),(1,1),(2,1),(3,1),(4,1),(5,1),(6,1),(7,1)]):=by kernel_rfl
theorem fill8 (s:W8):Instr.fill (fun i=>([(0,1),(1,1),(2,1),(3,1),(4,1),(5,1),(6,1),(7,1)]:List (Nat×Nat))[i]?) (Value.agg #[.int .u32 0,.int .u32 0,.int .u32 0,.int .u32 0,.int .u32 0,.int .u32 0,.int .u32 0,.int .u32 0]).cells [(0,.int .u32 s.a),(1,.int .u32 s.b),(2,.int .u32 s.c),(3,.int .u32 s.d),(4,.int .u32 s.e),(5,.int .u32 s.f),(6,.int .u32 s.g),(7,.int .u32 s.h)]=some (wds s.l):=by first | kernel_rfl | (simp[Instr.fill,Value.cells,wds,W8.l];done)
theorem Aae {n:Nat} {f:Nat→Value} {w:World} {dst:Option Nat} {ty0:TypeId} {pos:String} {aft:Array Edge} {gd:Option (Nat×Bool)} {parts:List (Nat×Operand)} (s:W8) (hp:evP n f parts=[(0,.int .u32 s.a),(1,.int .u32 s.b),(2,.int .u32 s.c),(3,.int .u32 s.d),(4,.int .u32 s.e),(5,.int .u32 s.f),(6,.int .u32 s.g),(7,.int .u32 s.h)]):Ex Tryz.prog w n f ⟨dst,.build 175 parts.toArray,ty0,pos,aft,gd⟩ (.agg (wds s.l)) :=
  E0 pa64 hp (fill8 s)
end Go.Proofs.Eng
end
section
set_option maxRecDepth 100000
set_option maxHeartbeats 4000000
namespace Go.Proofs.Eng
open Go.RowKit
open Extern.Stop (cell)
theorem Ade (s:W8) (bs:List UInt8) (w:World) (hb:bs.length=64) (hrt:Rt w) :
    Ret Tryz.prog 126 [.agg (wds s.l),.agg (bcs bs)] w (fun v w'=>v = .agg (wds (mixF s bs).l)∧Ext w w'):=by
 have hX:=Ext.refl w
 refine eN 211 Tryz.func126 ?_
 refine Ab (Aa ?_)
 refine Em (by conv=>lhs;whnf) ?_
 intro w1 g2 hN2
 have hE1:=hN2.ext
 have hX:=hX.ext hE1
 have hB2:=hN2.blk
 have l2:=hB2.lt
 refine Em (by conv=>lhs;whnf) ?_
 intro w2 g3 hN3
 have hE2:=hN3.ext
 have hX:=hX.ext hE2
 have hB2:=hB2.ext hE2
 have hB3:=hN3.blk
 have l3:=hB3.lt
 refine A6 zr175 ?_
 intro w3 g4 hN4
 have hE3:=hN4.ext
 have hX:=hX.ext hE3
 have hB2:=hB2.ext hE3
 have hB3:=hB3.ext hE3
 have hB4:=hN4.blk
 refine Ac (t_n (Ab (Aa ?_)))
 have l4:=hB4.lt
 refine A6 zr213 ?_
 intro w4 g5 hN5
 have hE4:=hN5.ext
 have hX:=hX.ext hE4
 have hB2:=hB2.ext hE4
 have hB3:=hB3.ext hE4
 have hB4:=hB4.ext hE4
 have hB5:=hN5.blk
 refine Ac (t_n (Ab (Ab ?_)))
 have e2:=hN2.g_eq
 have e3:=hN3.g_eq
 have e4:=hN4.g_eq
 have e5:=hN5.g_eq
 have hB3:Blk _ g3 (bcs bs) 176:=hB3
 have hB4:Blk _ g4 (wds (List.replicate 8 0)) 175:=hB4
 have hB5:Blk _ g5 (wds (List.replicate 64 0)) 213:=hB5
 have hg2:w.heap.size≤g2:=by omega
 have h23:g2<g3:=by omega
 have h34:g3<g4:=by omega
 have h45:g4<g5:=by omega
 refine Aa ?_
 refine pM (Ac (t_n (Am ?_)))
 refine Bg (ι:=Nat) [6,23,24,25,26,27,28,29,30,31,32,33,34,35,36,37,38,39,40,41,42,43,44,45,46,47,48,49,50,51,52,53,54,55,56,57] (fun i=>[(23,.int .i64 (i:Int))]) (fun i w'=>Ext w w'∧(i≤16∧Blk w' g2 (wds s.l) 175∧Blk w' g3 (bcs bs) 176∧Blk w' g4 (wds (List.replicate 8 0)) 175∧Blk w' g5 (wds (ownW bs i)) 213)) (fun i=>16 - i) (0) ⟨rfl,trivial⟩ ⟨hX,⟨by omega,hB2,hB3,hB4,hB5⟩⟩ ?_
 rintro i GL0 w5 ⟨hE5,hi,hB2,hB3,hB4,hB5⟩
 have hX:=hE5
 refine Ab (Aa ?_)
 refine p1 (Bx rfl rfl) ?_
 refine Ac (t_n (Ab ?_))
 refine As rfl (fun hc24=>?_) (fun hc24=>?_)
 ·refine Ai (t_n (Ab (Am (Ab (Aa ?_)))))
  refine pM (pA (Ac (t_n ?_)))
  refine Cp 31 mixed (by kernel_rfl) ?_
  intro w6 hE6
  have hX:=hX.ext hE6
  have hB2:=hB2.ext hE6
  have hB3:=hB3.ext hE6
  have hB4:=hB4.ext hE6
  have hB5:=hB5.ext hE6
  refine s1 (Al (by conv=>lhs;whnf)) ?_
  refine s1 (Al (by conv=>lhs;whnf)) ?_
  refine s1 ((N6 rfl rfl (Ag (by omega) (by omega))).cast (congrArg _ (by omega:(4:Int) * (i:Int)=((4 * i:Nat):Int)))) ?_
  refine s1 (B5 (i:=4 * i) u176 sz5 rfl rfl (by omega)) ?_
  have hx0:=(bs.getD (4 * i) 0).toNat_lt
  refine s1 (Ae un5 rfl (hB3.cell (Ny (by omega)))) ?_
  refine s1 (Cs u174 us5 rfl (I2 (by omega) (by omega))) ?_
  refine s1 (Qm rfl rfl (by omega)) ?_
  refine s1 (Al (by conv=>lhs;whnf)) ?_
  refine s1 (N6 rfl rfl (Ag (by omega) (by omega))) ?_
  refine s1 ((Aw rfl rfl (Ag (by omega) (by omega))).cast (congrArg _ (by omega:(4:Int) * (i:Int)+1=((4 * i+1:Nat):Int)))) ?_
  refine s1 (B5 (i:=4 * i+1) u176 sz5 rfl rfl (by omega)) ?_
  have hx1:=(bs.getD (4 * i+1) 0).toNat_lt
  refine s1 (Ae un5 rfl (hB3.cell (Ny (by omega)))) ?_
  refine s1 (Cs u174 us5 rfl (I2 (by omega) (by omega))) ?_
  refine s1 (Qm rfl rfl (by omega)) ?_
  refine s1 (Yu rfl rfl) ?_
  refine s1 (Al (by conv=>lhs;whnf)) ?_
  refine s1 (N6 rfl rfl (Ag (by omega) (by omega))) ?_
  refine s1 ((Aw rfl rfl (Ag (by omega) (by omega))).cast (congrArg _ (by omega:(4:Int) * (i:Int)+2=((4 * i+2:Nat):Int)))) ?_
  refine s1 (B5 (i:=4 * i+2) u176 sz5 rfl rfl (by omega)) ?_
  have hx2:=(bs.getD (4 * i+2) 0).toNat_lt
  refine s1 (Ae un5 rfl (hB3.cell (Ny (by omega)))) ?_
  refine s1 (Cs u174 us5 rfl (I2 (by omega) (by omega))) ?_
  refine s1 (Qm rfl rfl (by omega)) ?_
  refine s1 (Yu rfl rfl) ?_
  refine s1 (Al (by conv=>lhs;whnf)) ?_
  refine s1 (N6 rfl rfl (Ag (by omega) (by omega))) ?_
  refine s1 ((Aw rfl rfl (Ag (by omega) (by omega))).cast (congrArg _ (by omega:(4:Int) * (i:Int)+3=((4 * i+3:Nat):Int)))) ?_
  refine s1 (B5 (i:=4 * i+3) u176 sz5 rfl rfl (by omega)) ?_
  have hx3:=(bs.getD (4 * i+3) 0).toNat_lt
  refine s1 (Ae un5 rfl (hB3.cell (Ny (by omega)))) ?_
  refine s1 (Cs u174 us5 rfl (I2 (by omega) (by omega))) ?_
  refine s1 ((Yu rfl rfl).cast (congrArg _ (or4 bs (4 * i)))) ?_
  refine s1 (B5 u213 sz174 rfl rfl (by omega)) ?_
  refine Ca ?_
  refine Ar rfl (by conv=>lhs;whnf) rfl rfl sz174 hB5 (by rw[E2,Dy];omega) ?_
  intro w7 hP7
  have hX:=hX.put hP7 (by omega)
  have hB2:=hP7.keep hB2 (by omega)
  have hB3:=hP7.keep hB3 (by omega)
  have hB4:=hP7.keep hB4 (by omega)
  have hB5:=hP7.blk
  rw[R9] at hB5
  refine Ac (b_n (t_n (Aa ?_)))
  refine p1 (Aw rfl rfl (Ag (by omega) (by omega))) ?_
  refine pM (Ac ?_)
  refine t_n (aK (i+1) ⟨rfl,trivial⟩ ?_)
  exact⟨⟨hX,⟨by omega,hB2,hB3,hB4,hB5⟩⟩,by((show _<_);omega)⟩
 have h16:i=16:=by omega
 subst h16
 refine Ba (t_e (t_e (Bu (t_n (Ab (Ab (Aa ?_)))))))
 refine pA (Ac (t_n (Am ?_)))
 refine Bg (ι:=Nat) [7,8,9,58,59,60,61,62,63,64,65,66,67,68,69,70,71,72,73,74,75,76,77,78,79,80,81,82,83,84,85,86,87,88,89,90,91,92,93,94,95,96,97,98,99,100,101,102,103,104,105,106,107,108,109,110] (fun m=>[(7,.int .i64 ((16+m:Nat):Int))]) (fun m w'=>Ext w w'∧(m≤48∧Blk w' g2 (wds s.l) 175∧Blk w' g3 (bcs bs) 176∧Blk w' g4 (wds (List.replicate 8 0)) 175∧Blk w' g5 (wds (extW (ownW bs 16) m)) 213)) (fun m=>48 - m) (0) ⟨rfl,trivial⟩ ⟨hX,⟨by omega,hB2,hB3,hB4,hB5⟩⟩ ?_
 rintro m GL2 w8 ⟨hE8,hm,hB2,hB3,hB4,hB5⟩
 have hX:=hE8
 refine Ab (Ab (Aa ?_))
 refine pM ?_
 refine p1 (Bx rfl rfl) ?_
 refine Ac (t_n ?_)
 refine As rfl (fun hc59=>?_) (fun hc59=>?_)
 ·refine Ai (t_n (Ab (Am (Ab ?_))))
  refine B7 (fun w1 w2=>Ext w1 w2) mixed ?_
  intro w9 hE9
  have hX:=hX.ext hE9
  have hB2:=hB2.ext hE9
  have hB3:=hB3.ext hE9
  have hB4:=hB4.ext hE9
  have hB5:=hB5.ext hE9
  have hSr10:(fun w1 w2=>Ext w1 w2) w9 w9:=Ext.refl w9
  refine hT 0 rfl hSr10 (fun wS hSS=>by(exact(Al (by conv=>lhs;whnf)))) ?_
  refine hT 1 rfl hSr10 (fun wS hSS=>by(exact((Cz rfl rfl (Ag (by omega) (by omega))).cast (congrArg _ (by omega:((16+m:Nat):Int) - 15=((16+m - 15:Nat):Int)))))) ?_
  refine hT 2 rfl hSr10 (fun wS hSS=>by(exact(B5 u213 sz174 rfl rfl (by omega)))) ?_
  refine hT 3 rfl hSr10 (fun wS hSS=>by(have hB5:=hB5.ext hSS;exact(Ae un174 rfl (hB5.cell (E3 (by rw[Ef,Dy];omega)))))) ?_
  refine hT 5 rfl hSr10 (fun wS hSS=>by(exact(Al (by conv=>lhs;whnf)))) ?_
  refine hT 6 rfl hSr10 (fun wS hSS=>by(exact((Cz rfl rfl (Ag (by omega) (by omega))).cast (congrArg _ (by omega:((16+m:Nat):Int) - 15=((16+m - 15:Nat):Int)))))) ?_
  refine hT 7 rfl hSr10 (fun wS hSS=>by(exact(B5 u213 sz174 rfl rfl (by omega)))) ?_
  refine hT 8 rfl hSr10 (fun wS hSS=>by(have hB5:=hB5.ext hSS;exact(Ae un174 rfl (hB5.cell (E3 (by rw[Ef,Dy];omega)))))) ?_
  refine hT 11 rfl hSr10 (fun wS hSS=>by(exact(Al (by conv=>lhs;whnf)))) ?_
  refine hT 12 rfl hSr10 (fun wS hSS=>by(exact((Cz rfl rfl (Ag (by omega) (by omega))).cast (congrArg _ (by omega:((16+m:Nat):Int) - 15=((16+m - 15:Nat):Int)))))) ?_
  refine hT 13 rfl hSr10 (fun wS hSS=>by(exact(B5 u213 sz174 rfl rfl (by omega)))) ?_
  refine hT 14 rfl hSr10 (fun wS hSS=>by(have hB5:=hB5.ext hSS;exact(Ae un174 rfl (hB5.cell (E3 (by rw[Ef,Dy];omega)))))) ?_
  refine hT 15 rfl hSr10 (fun wS hSS=>by(exact(Ib rfl rfl (by omega)))) ?_
  refine h1L 4 (fun Q4 hQ4=>?_)
  refine Ah Tryz.func162 fn162 fb162 (De _ 7 _ (by decide) (by decide)) rfl ?_
  rintro v10 w10 ⟨rfl,hE10⟩
  have hX:=hX.ext hE10
  have hB2:=hB2.ext hE10
  have hB3:=hB3.ext hE10
  have hB4:=hB4.ext hE10
  have hB5:=hB5.ext hE10
  have hSr10:=hSr10.ext hE10
  refine An hQ4 ⟨hSr10,?_⟩
  refine h1L 9 (fun Q9 hQ9=>?_)
  refine Ah Tryz.func162 fn162 fb162 (De _ 18 _ (by decide) (by decide)) rfl ?_
  rintro v11 w11 ⟨rfl,hE11⟩
  have hX:=hX.ext hE11
  have hB2:=hB2.ext hE11
  have hB3:=hB3.ext hE11
  have hB4:=hB4.ext hE11
  have hB5:=hB5.ext hE11
  have hSr10:=hSr10.ext hE11
  refine An hQ9 ⟨hSr10,?_⟩
  refine hT 10 rfl hSr10 (fun wS hSS=>by(exact(G3 rfl rfl))) ?_
  refine hT 16 rfl hSr10 (fun wS hSS=>by(exact(G3 rfl rfl))) ?_
  refine hT 17 rfl hSr10 (fun wS hSS=>by(exact(Ax (by conv=>lhs;whnf)))) ?_
  refine Bm (by kernel_rfl) ?_
  refine t_n (Ab ?_)
  refine B7 (fun w1 w2=>Ext w1 w2) mixed ?_
  intro w12 hE12
  have hX:=hX.ext hE12
  have hB2:=hB2.ext hE12
  have hB3:=hB3.ext hE12
  have hB4:=hB4.ext hE12
  have hB5:=hB5.ext hE12
  have hSr11:(fun w1 w2=>Ext w1 w2) w12 w12:=Ext.refl w12
  refine hT 0 rfl hSr11 (fun wS hSS=>by(exact(Al (by conv=>lhs;whnf)))) ?_
  refine hT 1 rfl hSr11 (fun wS hSS=>by(exact((Cz rfl rfl (Ag (by omega) (by omega))).cast (congrArg _ (by omega:((16+m:Nat):Int) - 2=((16+m - 2:Nat):Int)))))) ?_
  refine hT 2 rfl hSr11 (fun wS hSS=>by(exact(B5 u213 sz174 rfl rfl (by omega)))) ?_
  refine hT 3 rfl hSr11 (fun wS hSS=>by(have hB5:=hB5.ext hSS;exact(Ae un174 rfl (hB5.cell (E3 (by rw[Ef,Dy];omega)))))) ?_
  refine hT 5 rfl hSr11 (fun wS hSS=>by(exact(Al (by conv=>lhs;whnf)))) ?_
  refine hT 6 rfl hSr11 (fun wS hSS=>by(exact((Cz rfl rfl (Ag (by omega) (by omega))).cast (congrArg _ (by omega:((16+m:Nat):Int) - 2=((16+m - 2:Nat):Int)))))) ?_
  refine hT 7 rfl hSr11 (fun wS hSS=>by(exact(B5 u213 sz174 rfl rfl (by omega)))) ?_
  refine hT 8 rfl hSr11 (fun wS hSS=>by(have hB5:=hB5.ext hSS;exact(Ae un174 rfl (hB5.cell (E3 (by rw[Ef,Dy];omega)))))) ?_
  refine hT 11 rfl hSr11 (fun wS hSS=>by(exact(Al (by conv=>lhs;whnf)))) ?_
  refine hT 12 rfl hSr11 (fun wS hSS=>by(exact((Cz rfl rfl (Ag (by omega) (by omega))).cast (congrArg _ (by omega:((16+m:Nat):Int) - 2=((16+m - 2:Nat):Int)))))) ?_
  refine hT 13 rfl hSr11 (fun wS hSS=>by(exact(B5 u213 sz174 rfl rfl (by omega)))) ?_
  refine hT 14 rfl hSr11 (fun wS hSS=>by(have hB5:=hB5.ext hSS;exact(Ae un174 rfl (hB5.cell (E3 (by rw[Ef,Dy];omega)))))) ?_
  refine hT 15 rfl hSr11 (fun wS hSS=>by(exact(Ib rfl rfl (by omega)))) ?_
  refine h1L 4 (fun Q4 hQ4=>?_)
  refine Ah Tryz.func162 fn162 fb162 (De _ 17 _ (by decide) (by decide)) rfl ?_
  rintro v13 w13 ⟨rfl,hE13⟩
  have hX:=hX.ext hE13
  have hB2:=hB2.ext hE13
  have hB3:=hB3.ext hE13
  have hB4:=hB4.ext hE13
  have hB5:=hB5.ext hE13
  have hSr11:=hSr11.ext hE13
  refine An hQ4 ⟨hSr11,?_⟩
  refine h1L 9 (fun Q9 hQ9=>?_)
  refine Ah Tryz.func162 fn162 fb162 (De _ 19 _ (by decide) (by decide)) rfl ?_
  rintro v14 w14 ⟨rfl,hE14⟩
  have hX:=hX.ext hE14
  have hB2:=hB2.ext hE14
  have hB3:=hB3.ext hE14
  have hB4:=hB4.ext hE14
  have hB5:=hB5.ext hE14
  have hSr11:=hSr11.ext hE14
  refine An hQ9 ⟨hSr11,?_⟩
  refine hT 10 rfl hSr11 (fun wS hSS=>by(exact(G3 rfl rfl))) ?_
  refine hT 16 rfl hSr11 (fun wS hSS=>by(exact(G3 rfl rfl))) ?_
  refine hT 17 rfl hSr11 (fun wS hSS=>by(exact(Ax (by conv=>lhs;whnf)))) ?_
  refine Bm (by kernel_rfl) ?_
  refine t_n ?_
  refine Cp 15 mixed (by kernel_rfl) ?_
  intro w15 hE15
  have hX:=hX.ext hE15
  have hB2:=hB2.ext hE15
  have hB3:=hB3.ext hE15
  have hB4:=hB4.ext hE15
  have hB5:=hB5.ext hE15
  refine s1 (Al (by conv=>lhs;whnf)) ?_
  refine s1 (Al (by conv=>lhs;whnf)) ?_
  refine s1 ((Cz rfl rfl (Ag (by omega) (by omega))).cast (congrArg _ (by omega:((16+m:Nat):Int) - 16=((16+m - 16:Nat):Int)))) ?_
  refine s1 (B5 u213 sz174 rfl rfl (by omega)) ?_
  refine s1 (Ae un174 rfl (hB5.cell (E3 (by rw[Ef,Dy];omega)))) ?_
  refine s1 (Al (by conv=>lhs;whnf)) ?_
  refine s1 (E1 rfl rfl) ?_
  refine s1 (Al (by conv=>lhs;whnf)) ?_
  refine s1 ((Cz rfl rfl (Ag (by omega) (by omega))).cast (congrArg _ (by omega:((16+m:Nat):Int) - 7=((16+m - 7:Nat):Int)))) ?_
  refine s1 (B5 u213 sz174 rfl rfl (by omega)) ?_
  refine s1 (Ae un174 rfl (hB5.cell (E3 (by rw[Ef,Dy];omega)))) ?_
  refine s1 (E1 rfl rfl) ?_
  refine s1 (Al (by conv=>lhs;whnf)) ?_
  refine s1 (E1 rfl rfl) ?_
  refine s1 (B5 u213 sz174 rfl rfl (by omega)) ?_
  refine Ca ?_
  refine Ar rfl (by conv=>lhs;whnf) rfl rfl sz174 hB5 (by rw[E2,Ef,Dy];omega) ?_
  intro w16 hP16
  have hX:=hX.put hP16 (by omega)
  have hB2:=hP16.keep hB2 (by omega)
  have hB3:=hP16.keep hB3 (by omega)
  have hB4:=hP16.keep hB4 (by omega)
  have hB5:=hP16.blk
  rw[R9] at hB5
  refine Ac (b_n (t_n (Aa ?_)))
  refine pM ?_
  refine p1 ((Aw rfl rfl (Ag (by omega) (by omega))).cast (congrArg _ (by omega:((16+m:Nat):Int)+1=((16+(m+1):Nat):Int)))) ?_
  refine pA (Ac ?_)
  refine t_n (aK (m+1) ⟨rfl,trivial⟩ ?_)
  exact⟨⟨hX,⟨by omega,hB2,hB3,hB4,hB5⟩⟩,by show 48 - (m+1)<48 - m;omega⟩
 have h48:m=48:=by omega
 subst h48
 obtain⟨WW,hWW⟩:∃ WW,WW=extW (ownW bs 16) 48:=⟨_,rfl⟩
 rw[← hWW] at hB5
 have hWl:WW.length=64:=by rw[hWW,Ef,Dy]
 refine Ba (t_e (t_e (Bu (t_n (Ab ?_)))))
 refine Du mixed (by kernel_rfl) ?_
 intro w17 hE17
 have hX:=hX.ext hE17
 have hB2:=hB2.ext hE17
 have hB4:=hB4.ext hE17
 have hB5:=hB5.ext hE17
 refine s1 (B5 (i:=0) u175 sz174 rfl rfl (by decide)) ?_
 refine s1 (Ae un174 rfl (hB2.cell (Agm _))) ?_
 refine s1 (B5 (i:=1) u175 sz174 rfl rfl (by decide)) ?_
 refine s1 (Ae un174 rfl (hB2.cell (Agl _))) ?_
 refine s1 (B5 (i:=2) u175 sz174 rfl rfl (by decide)) ?_
 refine s1 (Ae un174 rfl (hB2.cell (Agk _))) ?_
 refine s1 (B5 (i:=3) u175 sz174 rfl rfl (by decide)) ?_
 refine s1 (Ae un174 rfl (hB2.cell (Agj _))) ?_
 refine s1 (B5 (i:=4) u175 sz174 rfl rfl (by decide)) ?_
 refine s1 (Ae un174 rfl (hB2.cell (Agi _))) ?_
 refine s1 (B5 (i:=5) u175 sz174 rfl rfl (by decide)) ?_
 refine s1 (Ae un174 rfl (hB2.cell (Agh _))) ?_
 refine s1 (B5 (i:=6) u175 sz174 rfl rfl (by decide)) ?_
 refine s1 (Ae un174 rfl (hB2.cell (Agg _))) ?_
 refine s1 (B5 (i:=7) u175 sz174 rfl rfl (by decide)) ?_
 refine s1 (Ae un174 rfl (hB2.cell (Agf _))) ?_
 refine s1 (Ax (by conv=>lhs;whnf)) ?_
 refine s1 (Ax (by conv=>lhs;whnf)) ?_
 refine s1 (Ax (by conv=>lhs;whnf)) ?_
 refine s1 (Ax (by conv=>lhs;whnf)) ?_
 refine s1 (Ax (by conv=>lhs;whnf)) ?_
 refine s1 (Ax (by conv=>lhs;whnf)) ?_
 refine s1 (Ax (by conv=>lhs;whnf)) ?_
 refine s1 (Ax (by conv=>lhs;whnf)) ?_
 refine Ca (t_n (Ab (Ab (Aa ?_))))
 refine pM (Ac (t_n (Am ?_)))
 have hWL4:=Ext.refl w17
 refine Bg (ι:=Nat) [10,11,12,13,14,15,16,17,18,19,20,127,128,129,130,131,132,133,134,135,136,137,138,139,140,141,142,143,144,145,146,147,148,149,150,151,152,153,154,155,156,157,158,159,160,161,162,163,164,165,166,167,168,169,170,171,172,173,174,175,176,177,178,179,180,181,182,183,184,185,186,187,188,189] (fun i=>[(10,.int .u32 (runW WW s i).a),(11,.int .u32 (runW WW s i).b),(12,.int .u32 (runW WW s i).c),(13,.int .u32 (runW WW s i).d),(14,.int .u32 (runW WW s i).e),(15,.int .u32 (runW WW s i).f),(16,.int .u32 (runW WW s i).g),(17,.int .u32 (runW WW s i).h),(127,.int .i64 (i:Int))]) (fun i w'=>Ext w17 w'∧(i≤64)) (fun i=>64 - i) (0) ⟨rfl,rfl,rfl,rfl,rfl,rfl,rfl,rfl,rfl,trivial⟩ ⟨Ext.refl _,(by omega)⟩ ?_
 rintro i GL4 w18 ⟨hE18,hi⟩
 have hX:=hX.ext hE18
 have hB2:=hB2.ext hE18
 have hB4:=hB4.ext hE18
 have hB5:=hB5.ext hE18
 have hWL4:=hE18
 refine Ab (Aa ?_)
 refine p1 (Bx rfl rfl) ?_
 refine Ac (t_n (Ab ?_))
 refine As rfl (fun hc128=>?_) (fun hc128=>?_)
 ·refine Ai (t_n (Ab (Am (Ab (Aa ?_)))))
  refine pM (pA (Ac (t_n (Ab ?_))))
  refine B7 (fun w1 w2=>Ext w1 w2) mixed ?_
  intro w19 hE19
  have hX:=hX.ext hE19
  have hB5:=hB5.ext hE19
  have hWL4:=hWL4.ext hE19
  have hSr17:(fun w1 w2=>Ext w1 w2) w19 w19:=Ext.refl w19
  refine hT 0 rfl hSr17 (fun wS hSS=>by(exact(Al (by conv=>lhs;whnf)))) ?_
  refine hT 1 rfl hSr17 (fun wS hSS=>by(exact(Al (by conv=>lhs;whnf)))) ?_
  refine hT 3 rfl hSr17 (fun wS hSS=>by(exact(Al (by conv=>lhs;whnf)))) ?_
  refine hT 6 rfl hSr17 (fun wS hSS=>by(exact(Al (by conv=>lhs;whnf)))) ?_
  refine hT 10 rfl hSr17 (fun wS hSS=>by(exact(Al (by conv=>lhs;whnf)))) ?_
  refine hT 11 rfl hSr17 (fun wS hSS=>by(exact(Al (by conv=>lhs;whnf)))) ?_
  refine hT 12 rfl hSr17 (fun wS hSS=>by(exact(Ob rfl rfl))) ?_
  refine hT 13 rfl hSr17 (fun wS hSS=>by(exact(Al (by conv=>lhs;whnf)))) ?_
  refine hT 14 rfl hSr17 (fun wS hSS=>by(exact(Xp rfl))) ?_
  refine hT 15 rfl hSr17 (fun wS hSS=>by(exact(Al (by conv=>lhs;whnf)))) ?_
  refine hT 16 rfl hSr17 (fun wS hSS=>by(exact(Ob rfl rfl))) ?_
  refine hT 17 rfl hSr17 (fun wS hSS=>by(exact(G3 rfl rfl))) ?_
  refine hT 19 rfl hSr17 (fun wS hSS=>by(exact(Al (by conv=>lhs;whnf)))) ?_
  refine hT 20 rfl hSr17 (fun wS hSS=>by(exact(B5 u213 sz174 rfl rfl (by omega)))) ?_
  refine hT 21 rfl hSr17 (fun wS hSS=>by(have hX:=hX.ext hSS;exact(Ae un174 rfl (hrt.ext hX i (by omega))))) ?_
  refine hT 23 rfl hSr17 (fun wS hSS=>by(exact(Al (by conv=>lhs;whnf)))) ?_
  refine hT 24 rfl hSr17 (fun wS hSS=>by(exact(B5 u213 sz174 rfl rfl (by omega)))) ?_
  refine hT 25 rfl hSr17 (fun wS hSS=>by(have hB5:=hB5.ext hSS;exact(Ae un174 rfl (hB5.cell (E3 (by omega)))))) ?_
  refine h1L 2 (fun Q2 hQ2=>?_)
  refine Ah Tryz.func162 fn162 fb162 (De _ 6 _ (by decide) (by decide)) rfl ?_
  rintro v20 w20 ⟨rfl,hE20⟩
  have hWL4:=hWL4.ext hE20
  have hSr17:=hSr17.ext hE20
  refine An hQ2 ⟨hSr17,?_⟩
  refine h1L 4 (fun Q4 hQ4=>?_)
  refine Ah Tryz.func162 fn162 fb162 (De _ 11 _ (by decide) (by decide)) rfl ?_
  rintro v21 w21 ⟨rfl,hE21⟩
  have hWL4:=hWL4.ext hE21
  have hSr17:=hSr17.ext hE21
  refine An hQ4 ⟨hSr17,?_⟩
  refine hT 5 rfl hSr17 (fun wS hSS=>by(exact(G3 rfl rfl))) ?_
  refine h1L 7 (fun Q7 hQ7=>?_)
  refine Ah Tryz.func162 fn162 fb162 (De _ 25 _ (by decide) (by decide)) rfl ?_
  rintro v22 w22 ⟨rfl,hE22⟩
  have hWL4:=hWL4.ext hE22
  have hSr17:=hSr17.ext hE22
  refine An hQ7 ⟨hSr17,?_⟩
  refine hT 8 rfl hSr17 (fun wS hSS=>by(exact(G3 rfl rfl))) ?_
  refine hT 9 rfl hSr17 (fun wS hSS=>by(exact(E1 rfl rfl))) ?_
  refine hT 18 rfl hSr17 (fun wS hSS=>by(exact(E1 rfl rfl))) ?_
  refine hT 22 rfl hSr17 (fun wS hSS=>by(exact(E1 rfl rfl))) ?_
  refine hT 26 rfl hSr17 (fun wS hSS=>by(exact(E1 rfl rfl))) ?_
  refine hT 27 rfl hSr17 (fun wS hSS=>by(exact(Ax (by conv=>lhs;whnf)))) ?_
  refine Bm (by kernel_rfl) ?_
  refine t_n (Ab (Aa ?_))
  refine pM ?_
  refine Ah Tryz.func162 fn162 fb162 (De _ 2 _ (by decide) (by decide)) rfl ?_
  rintro v23 w23 ⟨rfl,hE23⟩
  have hWL4:=hWL4.ext hE23
  refine pM ?_
  refine Ah Tryz.func162 fn162 fb162 (De _ 13 _ (by decide) (by decide)) rfl ?_
  rintro v24 w24 ⟨rfl,hE24⟩
  have hWL4:=hWL4.ext hE24
  refine p1 (G3 rfl rfl) ?_
  refine pM ?_
  refine Ah Tryz.func162 fn162 fb162 (De _ 22 _ (by decide) (by decide)) rfl ?_
  rintro v25 w25 ⟨rfl,hE25⟩
  have hWL4:=hWL4.ext hE25
  refine p1 (G3 rfl rfl) ?_
  refine pM (pM ?_)
  refine p1 (Ob rfl rfl) ?_
  refine pM (pM ?_)
  refine p1 (Ob rfl rfl) ?_
  refine p1 (G3 rfl rfl) ?_
  refine pM (pM ?_)
  refine p1 (Ob rfl rfl) ?_
  refine p1 (G3 rfl rfl) ?_
  refine p1 (E1 rfl rfl) ?_
  refine pA (Ac (t_n (Aa ?_)))
  refine pM (pM (pM (pM (pM ?_))))
  refine p1 (E1 rfl rfl) ?_
  refine pM (pM (pM (pM (pM ?_))))
  refine p1 (E1 rfl rfl) ?_
  refine pA (pA (pA (pA (pA (pA (pA (pA (Ac (b_n (t_n (Aa ?_)))))))))))
  refine p1 (Aw rfl rfl (Ag (by omega) (by omega))) ?_
  refine pM (Ac ?_)
  refine t_n (aK (i+1) ⟨rfl,rfl,rfl,rfl,rfl,rfl,rfl,rfl,rfl,trivial⟩ ?_)
  exact⟨⟨hWL4,(by omega)⟩,by((show _<_);omega)⟩
 have h64:i=64:=by omega
 subst h64
 refine Ba (t_e (t_e (Bu (t_n (Ab (Ab (Aa ?_)))))))
 refine pM (pM (pM (pM (pM (pM (pM (pM ?_)))))))
 refine p1 (Aae (runW WW s 64) rfl) ?_
 refine pM (Ac (t_n (Am ?_)))
 obtain⟨X,hXX⟩:∃ X,X=runW WW s 64:=⟨_,rfl⟩
 rw[← hXX]
 refine Bg (ι:=Nat) [21,22,199,200,201,202,203,204,205,206,207,208,209] (fun j=>[(199,.int .i64 (j:Int))]) (fun j w'=>Ext w w'∧(j≤8∧Blk w' g2 (wds (addW X.l s.l j)) 175∧Blk w' g4 (wds (List.replicate 8 0)) 175)) (fun j=>8 - j) (0) ⟨rfl,trivial⟩ ⟨hX,⟨by omega,hB2,hB4⟩⟩ ?_
 rintro j GL6 w26 ⟨hE26,hj,hB2,hB4⟩
 have hX:=hE26
 refine Ab (Aa ?_)
 refine p1 (Bx rfl rfl) ?_
 refine Ac (t_n (Ab ?_))
 refine As rfl (fun hc200=>?_) (fun hc200=>?_)
 ·refine Ai (t_n (Ab (Am (Ab (Aa ?_)))))
  refine pM ?_
  refine p1 (Ac1 u175 sz174 (by kernel_rfl) rfl rfl (by omega) (E3 (by rw[W8.len];omega))) ?_
  refine pA (pA (Ac (t_n (Aa ?_))))
  refine pM ?_
  refine p1 (B5 u175 sz174 rfl rfl (by omega)) ?_
  refine p1 (Ae un174 rfl (hB2.cell (E3 (by rw[Qc,W8.len];omega)))) ?_
  refine pM ?_
  refine p1 (E1 rfl rfl) ?_
  refine p1 (B5 u175 sz174 rfl rfl (by omega)) ?_
  refine Ar rfl (by conv=>lhs;whnf) rfl rfl sz174 hB2 (by rw[E2,Qc,W8.len];omega) ?_
  intro w27 hP27
  have hX:=hX.put hP27 (by omega)
  have hB2:=hP27.blk
  rw[R9] at hB2
  have hB4:=hP27.keep hB4 (by omega)
  refine Ac (b_n (t_n (Aa ?_)))
  refine p1 (Aw rfl rfl (Ag (by omega) (by omega))) ?_
  refine pM (Ac ?_)
  refine t_n (aK (j+1) ⟨rfl,trivial⟩ ?_)
  exact⟨⟨hX,⟨by omega,hB2,hB4⟩⟩,by((show _<_);omega)⟩
 have h8:j=8:=by omega
 subst h8
 rw[Afx] at hB2
 refine Ba (t_e (t_e (Bu (t_n (Ab (Aa ?_))))))
 refine p1 (Bh ua175 rfl hB2 (by rw[E2];exact sz175)) ?_
 refine Az rfl (by conv=>lhs;whnf) (Xr _) (by rw[E2];exact sz175) hB4 (by rfl) ?_
 intro w28 hP28
 have hX:=hX.put hP28 (by omega)
 have hB2:=hP28.keep hB2 (by omega)
 have hB4:=hP28.blk
 refine Ac (t_n (Ak ?_))
 refine end1c rfl ua175 rfl hB4 (by rw[E2];exact sz175) ?_
 exact⟨by rw[hXX,hWW];rfl,hX⟩
end Go.Proofs.Eng
end
section
set_option maxRecDepth 100000
set_option maxHeartbeats 4000000
namespace Go.Proofs.Eng
open Go.RowKit
open Extern.Stop (cell)
theorem nb104:Instr.fill (fun i=>([(0,8),(8,64),(72,1),(73,1)]:List (Nat×Nat))[i]?) (Value.agg #[.int .u32 0,.int .u32 0,.int .u32 0,.int .u32 0,.int .u32 0,.int .u32 0,.int .u32 0,.int .u32 0,.int .u8 0,.int .u8 0,.int .u8 0,.int .u8 0,.int .u8 0,.int .u8 0,.int .u8 0,.int .u8 0,.int .u8 0,.int .u8 0,.int .u8 0,.int .u8 0,.int .u8 0,.int .u8 0,.int .u8 0,.int .u8 0,.int .u8 0,.int .u8 0,.int .u8 0,.int .u8 0,.int .u8 0,.int .u8 0,.int .u8 0,.int .u8 0,.int .u8 0,.int .u8 0,.int .u8 0,.int .u8 0,.int .u8 0,.int .u8 0,.int .u8 0,.int .u8 0,.int .u8 0,.int .u8 0,.int .u8 0,.int .u8 0,.int .u8 0,.int .u8 0,.int .u8 0,.int .u8 0,.int .u8 0,.int .u8 0,.int .u8 0,.int .u8 0,.int .u8 0,.int .u8 0,.int .u8 0,.int .u8 0,.int .u8 0,.int .u8 0,.int .u8 0,.int .u8 0,.int .u8 0,.int .u8 0,.int .u8 0,.int .u8 0,.int .u8 0,.int .u8 0,.int .u8 0,.int .u8 0,.int .u8 0,.int .u8 0,.int .u8 0,.int .u8 0,.int .i64 0,.int .i64 0]).cells [(0,.agg (wds s0W.l))]=some (hst s0W (List.replicate 64 0) 0 0):=by kernel_rfl
theorem Adf (w:World) (hbt:Bt w) :
    Ret Tryz.prog 81 [] w (fun v w'=>(∃ g,v = .pointer (some ⟨g,0,none⟩)∧g=w.heap.size∧Hs w' g [])∧Ext w w'):=by
 have hX:=Ext.refl w
 refine eN 4 Tryz.func81 ?_
 refine Ab (Aa ?_)
 refine pA (Ac (t_n (Ab (Aa ?_))))
 refine p1 (C9 ua175 rfl (by rw[List.length_map];exact sz175) (hbt.ext hX).range) ?_
 refine p1 (E0 (ps:=[(0,.agg (wds s0W.l))]) (cs:=hst s0W (List.replicate 64 0) 0 0) pl178 rfl nb104) ?_
 refine Em (by conv=>lhs;whnf) ?_
 intro w1 g3 hN3
 have hE1:=hN3.ext
 have hX:=hX.ext hE1
 have hB3:=hN3.blk
 refine pA (Ac (t_n (Ak ?_)))
 refine eR1 ?_
 exact⟨⟨g3,rfl,hN3.g_eq,s0W,_,0,HsP.new _ (by simp),hB3⟩,hX⟩
theorem Jo (all xs:List UInt8) (e:TypeId) (B g:Nat) (p:Option Addr) (n c:Nat) (w:World) (hs:Hs w g all) (hl:Sl kByte e B w p n c xs) (he:e≠178) (hBg:B≤g) (hn:all.length+n≤100000000000000) (hrt:Rt w) (h4:1<g) :
    Ret Tryz.prog 82 [.pointer (some ⟨g,0,none⟩),.slice p n c] w (fun v w'=>Hs w' g (all++xs)∧But g 178 w w'):=by
 obtain⟨s,wt,k,hp,hH⟩:=hs
 have hE:∀ u∈e :: kByte.E,u≠178:=by intro u hu;simp[kByte,Kind.pure] at hu;exact hu ▸ he
 have hlen:=hl.len
 have hlcap:=hl.cap
 have hlfit:=hl.fit
 have hX:=But.refl g 178 w
 refine eN 60 Tryz.func82 ?_
 refine Ab (Ab (Aa ?_))
 refine pM ?_
 refine p1 (Bb u132 rfl rfl) ?_
 refine Ac (t_n ?_)
 refine c_f (rfl) ?_
 refine Ai (t_n (Ab (Aa ?_)))
 refine pM ?_
 refine p1 (Af rfl) ?_
 refine p1 (Ad Te sz3 rfl) ?_
 refine p1 (Ae un3 rfl (hH.cell (Aep hp.wl))) ?_
 refine pM ?_
 refine p1 (Aj u23 rfl) ?_
 refine p1 ((Aw rfl rfl (Ag (by omega) (by omega))).cast (congrArg _ (by omega:((all.length:Nat):Int)+(n:Int)=((all.length+n:Nat):Int)))) ?_
 refine p1 (Af rfl) ?_
 refine p1 (Ad Te sz3 rfl) ?_
 refine Ar rfl (by conv=>lhs;whnf) rfl rfl sz3 hH (by rw[F0 hp.wl];omega) ?_
 intro w1 hP1
 have hX:=hX.trans (But.ofPut hP1)
 have hH:=hP1.blk
 rw[Ab0 hp.wl] at hH
 refine Ac (t_n (Am ?_))
 refine Bg (ι:=Option Addr×Nat×Nat×List UInt8×List UInt8×W8×List UInt8×Nat) [1,4,16,17,18,19,20,21,22,23,24,25,26,27,28,29,30,31,32,33,34,35,36,37,38,39,40,41,42,43,44,45,46,47,48,49,50,51,52,53,54,55,56,57,58,59] (fun (q,r,d,rest,done,s,wt,k)=>[(1,.slice q r d)]) (fun (q,r,d,rest,done,s,wt,k) w'=>But g 178 w w'∧(HsP s wt k done∧Blk w' g (hst s wt k (all.length+n)) 178∧Sl kByte e B w' q r d rest∧done++rest=all++xs)) (fun (q,r,d,rest,done,s,wt,k)=>r) ((p,n,c,xs,all,s,wt,k)) ⟨rfl,trivial⟩ ⟨hX,⟨hp,hH,hl.but hX hBg hE,rfl⟩⟩ ?_
 rintro⟨q,r,d,rest,done,s,wt,k⟩ GL0 w2 ⟨hE2,hp,hH,hS,hD⟩
 have hX:=hE2
 have hwl:=hp.wl
 have hklt:=hp.lt
 have hrl:=hS.len
 have hrfit:=hS.fit
 have hrcap:=hS.cap
 refine Ab (Ab (Aa ?_))
 refine pM ?_
 refine p1 (Aj u23 rfl) ?_
 refine p1 (C0 rfl rfl) ?_
 refine Ac (t_n ?_)
 refine As rfl (fun hc18=>?_) (fun hc18=>?_)
 ·refine Ai (t_n (Am (Ab ?_)))
  refine Cp 9 mixed (by kernel_rfl) ?_
  intro w3 hE3
  have hX:=hX.ext hE3
  have hH:=hH.ext hE3
  have hS:=hS.ext hE3
  refine s1 (Al (by conv=>lhs;whnf)) ?_
  refine s1 (Af rfl) ?_
  refine s1 (Ad Yi sz176 rfl) ?_
  refine s1 (Al (by conv=>lhs;whnf)) ?_
  refine s1 (Af rfl) ?_
  refine s1 (Ad J7 sz3 rfl) ?_
  refine s1 (Ae un3 rfl (hH.cell (Ye hwl))) ?_
  refine s1 (Qd u176 sz5 rfl rfl (by omega)) ?_
  refine s1 (Al (by conv=>lhs;whnf)) ?_
  refine Ca ?_
  refine Adq u23 sz5 rfl rfl hH (by rw[F0 hwl];omega) hS (by omega) ?_
  intro w4 hP4
  have hX:=hX.trans (But.ofPut hP4)
  have hS:=hS.but (But.ofPut hP4) hBg hE
  have hH:=hP4.blk
  rw[Ab1 hwl rest k _ (by omega) (by omega)] at hH
  obtain⟨j,hjj⟩:∃ j,j=min r (64 - k):=⟨_,rfl⟩
  rw[← hjj] at hH ⊢
  obtain⟨wt2,hwt2⟩:∃ x,x=wt.take k++rest.take j++wt.drop (k+j):=⟨_,rfl⟩
  have hwl2:wt2.length=64:=by rw[hwt2];simp;omega
  rw[← hwt2] at hH
  refine pA (Ac (t_n (Ab (Aa ?_))))
  refine pM ?_
  refine p1 (Af rfl) ?_
  refine p1 (Ad J7 sz3 rfl) ?_
  refine p1 (Ae un3 rfl (hH.cell (Ye hwl2))) ?_
  refine pM ?_
  refine p1 ((Aw rfl rfl (Ag (by omega) (by omega))).cast (congrArg _ (by omega:((k:Nat):Int)+((j:Nat):Int)=((k+j:Nat):Int)))) ?_
  refine p1 (Af rfl) ?_
  refine p1 (Ad J7 sz3 rfl) ?_
  refine Ar rfl (by conv=>lhs;whnf) rfl rfl sz3 hH (by rw[F0 hwl2];omega) ?_
  intro w5 hP5
  have hX:=hX.trans (But.ofPut hP5)
  have hH:=hP5.blk
  rw[U8 hwl2] at hH
  have hS:=hS.but (But.ofPut hP5) hBg hE
  refine Ac (t_n (Ab (Aa ?_)))
  refine pM (pM ?_)
  refine p1 (Es u23 sz5 rfl rfl (by omega)) ?_
  refine pA (Ac (t_n (Ab (Aa ?_))))
  refine pM ?_
  refine p1 (Af rfl) ?_
  refine p1 (Ad J7 sz3 rfl) ?_
  refine p1 (Ae un3 rfl (hH.cell (Ye hwl2))) ?_
  refine p1 (Bn rfl rfl) ?_
  refine Ac (t_n ?_)
  refine As rfl (fun hc44=>?_) (fun hc44=>?_)
  ·have hkj:k+j=64:=by omega
   have hp2:=hp.full rest (j:=j) (by omega) hkj
   rw[← hwt2] at hp2
   refine Ab ?_
   refine B7 (fun _ w2=>RwB w2 g wt2) mixed ?_
   intro w6 hE6
   have hX:=hX.ext hE6
   have hH:=hH.ext hE6
   have hS:=hS.ext hE6
   have hSr7:(fun _ w2=>RwB w2 g wt2) w6 w6:=Is hH
   have hRw:RwB _ g wt2:=Is hH
   refine hT 0 rfl hSr7 (fun wS hSS=>by(exact(Al (by conv=>lhs;whnf)))) ?_
   refine hT 1 rfl hSr7 (fun wS hSS=>by(exact(Al (by conv=>lhs;whnf)))) ?_
   refine hT 2 rfl hSr7 (fun wS hSS=>by(exact(Af rfl))) ?_
   refine hT 3 rfl hSr7 (fun wS hSS=>by(exact(Ad Tf sz175 rfl))) ?_
   refine hT 5 rfl hSr7 (fun wS hSS=>by(exact(Al (by conv=>lhs;whnf)))) ?_
   refine hT 6 rfl hSr7 (fun wS hSS=>by(exact(Af rfl))) ?_
   refine hT 7 rfl hSr7 (fun wS hSS=>by(exact(Ad Yi sz176 rfl))) ?_
   refine hT 8 rfl hSr7 (fun wS hSS=>by(have hRw:=hSS;exact(C9 ua176 rfl (by rw[List.length_map,hwl2];exact sz176) hRw))) ?_
   refine h1L 4 (fun Q4 hQ4=>?_)
   refine p1 (C9 ua175 rfl (by rw[List.length_map];exact sz175) (U9 hH)) ?_
   refine An hQ4 ⟨hSr7,?_⟩
   refine h1L 9 (fun Q9 hQ9=>?_)
   refine Ah Tryz.func126 fn126 fb126 (Ade s wt2 _ hwl2 (hrt.but hX h4)) rfl ?_
   rintro v7 w7 ⟨rfl,hE7⟩
   have hX:=hX.ext hE7
   have hH:=hH.ext hE7
   have hS:=hS.ext hE7
   have hSr7:=hSr7.ext hE7
   refine An hQ9 ⟨hSr7,?_⟩
   refine hT 10 rfl hSr7 (fun wS hSS=>by(exact(Af rfl))) ?_
   refine hT 11 rfl hSr7 (fun wS hSS=>by(exact(Ad Tf sz175 rfl))) ?_
   refine h1L 12 (fun Q12 hQ12=>?_)
   refine O6 rfl rfl (Xr _) (by rw[E2];exact sz175) hH (by rw[F0 hwl2,E2,W8.len];omega) ?_
   intro w8 hP8
   have hX:=hX.trans (But.ofPut hP8)
   have hH:=hP8.blk
   rw[Abz] at hH
   have hS:=hS.but (But.ofPut hP8) hBg hE
   have hSr7:=Is hH
   refine An hQ12 ⟨hSr7,?_⟩
   refine Bm (by kernel_rfl) ?_
   refine t_n (Aa ?_)
   refine pM ?_
   refine p1 (Af rfl) ?_
   refine p1 (Ad J7 sz3 rfl) ?_
   refine Ar rfl (by conv=>lhs;whnf) rfl rfl sz3 hH (by rw[F0 hwl2];omega) ?_
   intro w9 hP9
   have hX:=hX.trans (But.ofPut hP9)
   have hH:=hP9.blk
   rw[show (Value.int .i64 0) = .int .i64 ((0:Nat):Int) from rfl,U8 hwl2] at hH
   have hS:=hS.but (But.ofPut hP9) hBg hE
   refine Ac (b_n ?_)
   exact t_n (aK ((_,r - j,_,rest.drop j,done++rest.take j,mixF s wt2,wt2,0)) ⟨rfl,trivial⟩ ⟨⟨hX,⟨hp2,hH,hS.dropI j (by omega),by rw[List.append_assoc,List.take_append_drop];exact hD⟩⟩,by(dsimp only;omega)⟩)
  have hkj:k+j<64:=by omega
  have hp2:=hp.part rest (j:=j) (by omega) hkj
  rw[← hwt2] at hp2
  refine Ai (b_n ?_)
  exact t_n (aK ((_,r - j,_,rest.drop j,done++rest.take j,s,wt2,k+j)) ⟨rfl,trivial⟩ ⟨⟨hX,⟨hp2,hH,hS.dropI j (by omega),by rw[List.append_assoc,List.take_append_drop];exact hD⟩⟩,by(dsimp only;omega)⟩)
 have hr0:rest=[]:=List.length_eq_zero_iff.1 (by omega)
 rw[hr0,List.append_nil] at hD
 refine Ba (t_e (t_e (Bu ?_)))
 refine end0n rfl ?_
 exact⟨⟨s,wt,k,hD ▸ hp,by rw[List.length_append,hl.len];exact hH⟩,hX⟩
theorem Aa2 (all:List UInt8) (g0:Nat) (w:World) (hs:Hs w g0 all) (hn:all.length≤10000000000000) (hrt:Rt w) (h4:1<w.heap.size) :
    Ret Tryz.prog 83 [.pointer (some ⟨g0,0,none⟩)] w (fun v w'=>v = .agg (hv (shaF all))∧Ext w w'):=by
 obtain⟨s0,wt0,k0,hp0,hH⟩:=hs
 have hX:=Ext.refl w
 refine eN 62 Tryz.func83 ?_
 refine Ab (Aa ?_)
 refine A6 zr64 ?_
 intro w1 g2 hN2
 have hE1:=hN2.ext
 have hX:=hX.ext hE1
 have hH:=hH.ext hE1
 have hB2:=hN2.blk
 refine Ac (t_n (Ab (Ab (Aa ?_))))
 have hB2:Blk _ g2 (bcs (List.replicate 32 0)) 64:=hB2
 refine pM ?_
 refine p1 (Bb u132 rfl rfl) ?_
 refine Ac (t_n ?_)
 refine c_f (rfl) ?_
 refine Ai (t_n (Ab (Aa ?_)))
 refine pM ?_
 refine p1 (Af rfl) ?_
 refine p1 (Bh ua178 rfl hH (by rw[F0 hp0.wl];exact sz178)) ?_
 have sX:=hX.size
 have l2:=hB2.lt
 have lH:=hH.lt
 refine A6 zr178 ?_
 intro w2 g3 hN3
 have hE2:=hN3.ext
 have hX:=hX.ext hE2
 have hH:=hH.ext hE2
 have hB2:=hB2.ext hE2
 have hB3:=hN3.blk
 have e3:=hN3.g_eq
 have hg3:w.heap.size≤g3:=by omega
 have h23:g2<g3:=by omega
 refine Az rfl (by conv=>lhs;whnf) Ad3 (by rw[F0 hp0.wl];exact sz178) hB3 (by rw[F0 hp0.wl];rfl) ?_
 intro w3 hP3
 have hX:=hX.put hP3 (by omega)
 have hH:=hP3.keep hH (by omega)
 have hB2:=hP3.keep hB2 (by omega)
 have hB3:=hP3.blk
 refine Ac (t_n (Ab (Aa ?_)))
 refine pM ?_
 refine p1 (Af rfl) ?_
 refine p1 (Ad Te sz3 rfl) ?_
 refine p1 (Ae un3 rfl (hH.cell (Aep hp0.wl))) ?_
 refine p1 (Cs u180 us3 rfl (Eo (by omega) (by omega))) ?_
 refine p1 ((Qm rfl rfl (by omega)).cast (congrArg _ (shl3 (by omega)))) ?_
 refine pA (Ac (t_n (Ab (Aa ?_))))
 refine Au u23 inf5 rfl (by decide) (fun base hb=>Cj (by rfl) base hb) ?_
 intro w4 g21 hN21
 have hE4:=hN21.ext
 have hX:=hX.ext hE4
 have hB2:=hB2.ext hE4
 have hB3:=hB3.ext hE4
 have hJ:=O5 (b:=128) hN21 (B0:=0) (Nat.zero_le _)
 have hHs:Hs _ g3 all:=⟨s0,wt0,k0,hp0,hB3⟩
 refine Ah Tryz.func82 fn82 fb82 (Jo (all) ([128]) 5 0 g3 _ _ _ _ hHs hJ.sl (by decide) (Nat.zero_le _) (by simp[Nw];omega) (hrt.ext hX) (by omega)) rfl ?_
 rintro v5 w5 ⟨hHs,hM5⟩
 have hX:=hM5.extTo hX hg3
 have hB2:=hB2.but hM5 (.inl (by omega))
 skip
 refine Ac (t_n (Ab (Am ?_)))
 refine Bg (ι:=Nat) [23,24,25,26,27] (fun j=>[]) (fun j w'=>Ext w w'∧(j≤padZ all.length∧Blk w' g2 (bcs (List.replicate 32 0)) 64∧Hs w' g3 (all++[128]++List.replicate j 0))) (fun j=>padZ all.length - j) (0) trivial ⟨hX,⟨by omega,hB2,by rw[List.replicate_zero,List.append_nil];exact hHs⟩⟩ ?_
 rintro j GL0 w6 ⟨hE6,hj,hB2,hHs⟩
 have hX:=hE6
 have hHs0:=hHs
 obtain⟨s1,wt1,k1,hp1,hB3⟩:=hHs0
 have hk1:=hp1.kk
 have hl1:(all++[128]++List.replicate j 0).length=all.length+1+j:=by simp;omega
 rw[hl1] at hk1
 have hpm:=Aa9 all.length
 have hpz:=Adl all.length
 refine Ab (Ab (Aa ?_))
 refine p1 (Ad J7 sz3 rfl) ?_
 refine p1 (Ae un3 rfl (hB3.cell (Ye hp1.wl))) ?_
 refine p1 (A2 rfl rfl) ?_
 refine Ac (t_n ?_)
 refine As rfl (fun hc25=>?_) (fun hc25=>?_)
 ·have hjlt:j<padZ all.length:=by omega
  refine Ai (t_n (Am (Aa ?_)))
  refine Au u23 inf5 rfl (by decide) (fun base hb=>Cj (by rfl) base hb) ?_
  intro w7 g26 hN26
  have hE7:=hN26.ext
  have hX:=hX.ext hE7
  have hB2:=hB2.ext hE7
  have hHs:=hHs.ext hE7
  have hJ:=O5 (b:=0) hN26 (B0:=0) (Nat.zero_le _)
  refine Ah Tryz.func82 fn82 fb82 (Jo (all++[128]++List.replicate j 0) ([0]) 5 0 g3 _ _ _ _ hHs hJ.sl (by decide) (Nat.zero_le _) (by simp[Nw];omega) (hrt.ext hX) (by omega)) rfl ?_
  rintro v8 w8 ⟨hHs,hM8⟩
  have hX:=hM8.extTo hX hg3
  have hB2:=hB2.but hM8 (.inl (by omega))
  rw[List.append_assoc,← List.replicate_succ'] at hHs
  refine Ac (b_n ?_)
  refine t_n (aK (j+1) trivial ?_)
  exact⟨⟨hX,⟨by omega,hB2,hHs⟩⟩,by((show _<_);omega)⟩
 have hje:j=padZ all.length:=Classical.byContradiction fun h=>Adk (n:=all.length) (j:=j) (by omega) (by omega)
 subst hje
 refine Ba (t_e (t_e (Bu (t_n (Ab (Aa ?_))))))
 have l3:=hHs.lt
 have sX8:=hX.size
 refine A6 zr181 ?_
 intro w9 g5 hN5
 have hE9:=hN5.ext
 have hX:=hX.ext hE9
 have hB2:=hB2.ext hE9
 have hHs:=hHs.ext hE9
 have hB5:=hN5.blk
 refine Ac (t_n (Ab (Ab (Aa ?_))))
 have e5:=hN5.g_eq
 have h35:g3<g5:=by omega
 have hB5:Blk _ g5 (bcs (List.replicate 8 0)) 181:=hB5
 refine pM (Ac (t_n (Am ?_)))
 refine Bg (ι:=Nat) [6,28,29,30,31,32,33,34,35,36,37,38,39,40] (fun i=>[(28,.int .i64 (i:Int))]) (fun i w'=>Ext w w'∧(i≤8∧Blk w' g2 (bcs (List.replicate 32 0)) 64∧Hs w' g3 (all++[128]++List.replicate (padZ all.length) 0)∧Blk w' g5 (bcs (setB (beB all.length) (List.replicate 8 0) i)) 181)) (fun i=>8 - i) (0) ⟨rfl,trivial⟩ ⟨hX,⟨by omega,hB2,hHs,hB5⟩⟩ ?_
 rintro i GL2 w10 ⟨hE10,hi,hB2,hHs,hB5⟩
 have hX:=hE10
 refine Ab (Aa ?_)
 refine p1 (Bx rfl rfl) ?_
 refine Ac (t_n (Ab ?_))
 refine As rfl (fun hc29=>?_) (fun hc29=>?_)
 ·refine Ai (t_n (Ab (Am (Ab (Aa ?_)))))
  refine pM (pA (Ac (t_n (Aa ?_))))
  refine pM (pM (pM ?_))
  refine p1 (N6 rfl rfl (Ag (by omega) (by omega))) ?_
  refine p1 (Cz rfl rfl (Ag (by omega) (by omega))) ?_
  refine p1 (Cs u86 us3 rfl (Eo (by omega) (by omega))) ?_
  refine p1 (Ib rfl rfl (by omega)) ?_
  refine p1 ((Hb u5 us180 rfl).cast (congrArg _ (wrapI _))) ?_
  refine p1 (B5 u181 sz5 rfl rfl (by omega)) ?_
  refine Ar rfl (by conv=>lhs;whnf) rfl rfl sz5 hB5 (by rw[Qa,Oq,List.length_replicate];omega) ?_
  intro w11 hP11
  have hX:=hX.put hP11 (by omega)
  have hB2:=hP11.keep hB2 (by omega)
  have hHs:=hHs.keep hP11 (by omega)
  have hB5:=hP11.blk
  rw[Ys] at hB5
  refine Ac (b_n (t_n (Aa ?_)))
  refine p1 (Aw rfl rfl (Ag (by omega) (by omega))) ?_
  refine pM (Ac ?_)
  refine t_n (aK (i+1) ⟨rfl,trivial⟩ ?_)
  exact⟨⟨hX,⟨by omega,hB2,hHs,hB5⟩⟩,by((show _<_);omega)⟩
 have h8:i=8:=by omega
 subst h8
 rw[Sn _ _ 8 (by simp),List.drop_of_length_le (by simp),List.append_nil] at hB5
 have hB5:Blk _ g5 (bcs (be8 all.length)) 181:=hB5
 refine Ba (t_e (t_e (Bu (t_n (Ab (Aa ?_))))))
 refine p1 (Tx u181 sz5 rfl) ?_
 refine Ah Tryz.func82 fn82 fb82 (Jo (all++[128]++List.replicate (padZ all.length) 0) (be8 all.length) 181 0 g3 _ _ _ _ hHs (Ae4 hB5 (Nw _) (by decide)) (by decide) (Nat.zero_le _) (by simp[Nw];omega) (hrt.ext hX) (by omega)) rfl ?_
 rintro v12 w12 ⟨hHs,hM12⟩
 have hX:=hM12.extTo hX hg3
 have hB2:=hB2.but hM12 (.inl (by omega))
 have hHs:Hs _ g3 (padF all):=hHs
 have l3b:=hHs.lt
 refine Ac (t_n (Ab (Aa ?_)))
 refine A6 zr64 ?_
 intro w13 g7 hN7
 have hE13:=hN7.ext
 have hX:=hX.ext hE13
 have hB2:=hB2.ext hE13
 have hHs:=hHs.ext hE13
 have hB7:=hN7.blk
 refine Ac (t_n (Ab (Ab (Aa ?_))))
 have sX9:=hX.size
 have e7:=hN7.g_eq
 have h37:g3<g7:=by omega
 have hB7:Blk _ g7 (bcs (List.replicate 32 0)) 64:=hB7
 obtain⟨sF,wF,kF,hpF,hB3⟩:=hHs
 have hwF:=hpF.wl
 refine pM (Ac (t_n (Am ?_)))
 refine Bg (ι:=Nat) [8,43,44,45,46,47,48,49,50,51,52,53,54,55,56,57,58,59,60] (fun i=>[(43,.int .i64 (i:Int))]) (fun i w'=>Ext w w'∧(i≤32∧Blk w' g2 (bcs (List.replicate 32 0)) 64∧Blk w' g3 (hst sF wF kF (padF all).length) 178∧Blk w' g7 (bcs (setB (ouB sF) (List.replicate 32 0) i)) 64)) (fun i=>32 - i) (0) ⟨rfl,trivial⟩ ⟨hX,⟨by omega,hB2,hB3,hB7⟩⟩ ?_
 rintro i GL4 w14 ⟨hE14,hi,hB2,hB3,hB7⟩
 have hX:=hE14
 refine Ab (Aa ?_)
 refine p1 (Bx rfl rfl) ?_
 refine Ac (t_n (Ab ?_))
 refine As rfl (fun hc44=>?_) (fun hc44=>?_)
 ·refine Ai (t_n (Ab (Am (Ab (Aa ?_)))))
  refine pM (pA (Ac (t_n (Aa ?_))))
  refine pM (pM ?_)
  refine p1 ((Afz rfl rfl (by omega) (by omega) (Ag (by omega) (by omega))).cast (congrArg _ (by omega:((i:Nat):Int) / 4=((i / 4:Nat):Int)))) ?_
  refine p1 (Ad Tf sz175 rfl) ?_
  refine p1 (B5 (i:=i / 4) u175 sz174 rfl rfl (by omega)) ?_
  refine p1 (Ae un174 rfl (hB3.cell (Af9 (by omega)))) ?_
  refine pM ?_
  refine p1 ((N5 rfl rfl (by omega) (by omega)).cast (congrArg _ (by omega:((i:Nat):Int) % 4=((i % 4:Nat):Int)))) ?_
  refine p1 (N6 rfl rfl (Ag (by omega) (by omega))) ?_
  refine p1 (Cz rfl rfl (Ag (by omega) (by omega))) ?_
  refine p1 (Cs u86 us3 rfl (Eo (by omega) (by omega))) ?_
  refine p1 (Ib rfl rfl (by omega)) ?_
  refine p1 ((Hb u5 us174 rfl).cast (congrArg _ (wrapI _))) ?_
  refine p1 (B5 u64 sz5 rfl rfl (by omega)) ?_
  refine Ar rfl (by conv=>lhs;whnf) rfl rfl sz5 hB7 (by rw[Qa,Oq,List.length_replicate];omega) ?_
  intro w15 hP15
  have hX:=hX.put hP15 (by omega)
  have hB2:=hP15.keep hB2 (by omega)
  have hB3:=hP15.keep hB3 (by omega)
  have hB7:=hP15.blk
  rw[Ys] at hB7
  refine Ac (b_n (t_n (Aa ?_)))
  refine p1 (Aw rfl rfl (Ag (by omega) (by omega))) ?_
  refine pM (Ac ?_)
  refine t_n (aK (i+1) ⟨rfl,trivial⟩ ?_)
  exact⟨⟨hX,⟨by omega,hB2,hB3,hB7⟩⟩,by((show _<_);omega)⟩
 have h32:i=32:=by omega
 subst h32
 rw[Sn _ _ 32 (by simp),List.drop_of_length_le (by simp),List.append_nil] at hB7
 have hB7:Blk _ g7 (hv (outH sF)) 64:=hB7
 refine Ba (t_e (t_e (Bu (t_n (Ab (Aa ?_))))))
 refine p1 (Bh ua64 rfl hB7 (B4 sz64 _)) ?_
 refine Az rfl rfl (Cm _) (B4 sz64 _) hB2 (by rw[Dl];simp[Qa]) ?_
 intro w16 hP16
 have hX:=hX.put hP16 (by have e2:=hN2.g_eq;omega)
 have hB2:=hP16.blk
 have hB3:=hP16.keep hB3 (by omega)
 have hB7:=hP16.keep hB7 (by omega)
 refine Ac (t_n (Ak ?_))
 refine end1c rfl ua64 rfl hB2 (B4 sz64 _) ?_
 exact⟨by rw[hpF.st];rfl,hX⟩
theorem K6 (xs:List UInt8) (B:Nat) (p:Option Addr) (n c:Nat) (w:World) (hl:Sl kByte 5 B w p n c xs) (hn:n≤10000000000000) (hBw:B≤w.heap.size) (hrt:Rt w) (hbt:Bt w) (h4:1<w.heap.size) :
    Ret Tryz.prog 34 [.slice p n c] w (fun v w'=>v = .agg (hv (shaF xs))∧Ext w w'):=by
 have hX:=Ext.refl w
 refine eN 10 Tryz.func34 ?_
 refine Ab (Aa ?_)
 refine A6 zr64 ?_
 intro w1 g2 hN2
 have hE1:=hN2.ext
 have hX:=hX.ext hE1
 have hB2:=hN2.blk
 refine Ac (t_n (Ab (Aa ?_)))
 have l2:=hB2.lt
 have sX:=hX.size
 refine Ah Tryz.func81 fn81 fb81 (Adf _ (hbt.ext hX)) rfl ?_
 rintro v2 w2 ⟨⟨gh,rfl,hgh,hHs⟩,hE2⟩
 have hX:=hX.ext hE2
 have hB2:=hB2.ext hE2
 refine pA (Ac (t_n (Ab (Aa ?_))))
 refine pM (pM ?_)
 refine Ah Tryz.func82 fn82 fb82 (Jo [] xs 5 B gh _ _ _ _ hHs (hl.ext hX) (by decide) (by omega) (by simp;omega) (hrt.ext hX) (by omega)) rfl ?_
 rintro v3 w3 ⟨hHs,hM3⟩
 have hX:=hM3.extTo hX (by omega)
 have hB2:=hB2.but hM3 (.inl (by omega))
 rw[List.nil_append] at hHs
 refine Ac (t_n (Ab (Aa ?_)))
 refine pM ?_
 refine Ah Tryz.func83 fn83 fb83 (Aa2 xs gh _ hHs (by have:=hl.len;omega) (hrt.ext hX) (by have:=hX.size;omega)) rfl ?_
 rintro v4 w4 ⟨rfl,hE4⟩
 have hX:=hX.ext hE4
 have hB2:=hB2.ext hE4
 refine Az rfl rfl (Cm _) (B4 sz64 _) hB2 (Dl _) ?_
 intro w5 hP5
 have hX:=hX.put hP5 (by have e2:=hN2.g_eq;omega)
 have hB2:=hP5.blk
 refine Ac (t_n (Ak ?_))
 refine end1c rfl ua64 rfl hB2 (B4 sz64 _) ?_
 exact⟨rfl,hX⟩
end Go.Proofs.Eng
end
section
set_option maxRecDepth 100000
set_option maxHeartbeats 4000000
namespace Go.Proofs.Eng
open Go.RowKit
open Extern.Stop (cell)
theorem fb47:Tryz.f47.body.isNone=false:=by kernel_rfl
theorem fb51:Tryz.f51.body.isNone=false:=by kernel_rfl
theorem fn47 : ngB Tryz.f47 = false := by kernel_rfl
theorem fn51 : ngB Tryz.f51 = false := by kernel_rfl
theorem Ch:Bc Tryz.prog 91 1=some (3,1):=by kernel_rfl
theorem un30:(Tryz.prog.underlying 30).map TypeDesc.isRow=some false:=by kernel_rfl
end Go.Proofs.Eng
end
section
set_option maxRecDepth 100000
set_option maxHeartbeats 4000000
namespace Go.Proofs.Eng
open Go.RowKit
open Extern.Stop (cell)
theorem Afa (gd:Nat) (S:Nat→Prop) (D:DS) (w:World) (hD:Dsk S w gd D) (hok:DOk D) (hst:D.steps<4611686018427380000) (hle:D.left≤9223372036854775807) (hnm:∀ x∈D.l,A1 x.1=true) (hS:∀ k,S k→6≤k) (hg:Gt w) (b0:Nat) (hb0:Blk w b0 #[.pointer (some ⟨gd,0,none⟩)] 34) :
    Ret Tryz.prog 46 [.pointer (some ⟨b0,0,none⟩)] w (fun v w'=>v = .int .i64 (cleanD D (toStr [])).2∧Dsk (grow S w w') w' gd (cleanD D (toStr [])).1∧ModS S ED w w'):=by
 have hX:=Ext.refl w
 refine eN 4 Tryz.func46 ?_
 refine Ab (Aa ?_)
 refine pA (Ac (t_n (Ab (Aa ?_))))
 refine p1 (Ae un34 rfl (hb0.cell (rfl))) ?_
 have hXs:=hX.size
 refine Ah Tryz.func47 fn47 fb47 (H9 gd S D _ hD hok hst hle hnm hS hg (toStr [])) rfl ?_
 rintro v1 w1 ⟨rfl,hD2,hM2⟩
 refine pA (Ac (t_n (Ak ?_)))
 refine eR1 ?_
 exact⟨rfl,hD2.wide hXs,(ModS.ofExt hX).trans hM2 (fun _ _ h=>h)⟩
theorem Ae9 (gd:Nat) (S:Nat→Prop) (D:DS) (w:World) (hD:Dsk S w gd D) (hok:DOk D) (hst:D.steps<4611686018427380000) (hle:D.left≤9223372036854775807) (hnm:∀ x∈D.l,A1 x.1=true) (hS:∀ k,S k→6≤k) (hg:Gt w) (b0 b1 gs:Nat) (cs:Array Value) (hb0:Blk w b0 #[.pointer (some ⟨gd,0,none⟩)] 34) (hb1:Blk w b1 #[.pointer (some ⟨gs,0,none⟩)] 30) (hs:Blk w gs cs 91) (hs1:cs[1]? = some (.int .i64 1)) :
    Ret Tryz.prog 48 [.pointer (some ⟨b0,0,none⟩),.pointer (some ⟨b1,0,none⟩)] w (fun v w'=>v = .int .i64 (Bk D (nSeg 1)).2∧Dsk (grow S w w') w' gd (Bk D (nSeg 1)).1∧ModS S ED w w'):=by
 have hX:=Ext.refl w
 refine eN 10 Tryz.func48 ?_
 refine Ab (Aa ?_)
 refine pA (Ac (t_n (Ab ?_)))
 refine B7 (fun w1 w2=>ModS S ED w1 w2) mixed ?_
 intro w1 hE1
 have hX:=hX.ext hE1
 have hD:=hD.ext hE1
 have hb0:=hb0.ext hE1
 have hb1:=hb1.ext hE1
 have hs:=hs.ext hE1
 have hSr1:(fun w1 w2=>ModS S ED w1 w2) w1 w1:=ModS.refl S ED _
 refine hT 0 rfl hSr1 (fun wS hSS=>by(have hb0:=hb0.modS hSS (.inr (by decide));have hb1:=hb1.modS hSS (.inr (by decide));have hs:=hs.modS hSS (.inr (by decide));exact(Ae un34 rfl (hb0.cell (rfl))))) ?_
 refine hT 1 rfl hSr1 (fun wS hSS=>by(have hb0:=hb0.modS hSS (.inr (by decide));have hb1:=hb1.modS hSS (.inr (by decide));have hs:=hs.modS hSS (.inr (by decide));exact(Ae un30 rfl (hb1.cell (rfl))))) ?_
 refine hT 2 rfl hSr1 (fun wS hSS=>by(exact(Af rfl))) ?_
 refine hT 3 rfl hSr1 (fun wS hSS=>by(exact(Ad Ch sz3 rfl))) ?_
 refine hT 4 rfl hSr1 (fun wS hSS=>by(have hb0:=hb0.modS hSS (.inr (by decide));have hb1:=hb1.modS hSS (.inr (by decide));have hs:=hs.modS hSS (.inr (by decide));exact(Ae un3 rfl (hs.cell (hs1))))) ?_
 refine h1L 5 (fun Q5 hQ5=>?_)
 refine Ah Tryz.func49 fn49 fb49 (A3 1 _ (hg.ext hX).l) rfl ?_
 rintro v2 w2 ⟨rfl,hE2⟩
 have hX:=hX.ext hE2
 have hD:=hD.ext hE2
 have hSr1:=hSr1.ext hE2
 refine An hQ5 ⟨hSr1,?_⟩
 refine h1L 6 (fun Q6 hQ6=>?_)
 have hXs:=hX.size
 refine Ah Tryz.func18 fn18 fb18 (I6 gd S D _ hD hok (by omega) hle (nSeg 1) (by decide)) rfl ?_
 rintro v3 w3 ⟨rfl,hD2,hM2⟩
 have hSr1:=hSr1.trans hM2 (fun _ _ h=>h)
 refine An hQ6 ⟨hSr1,?_⟩
 refine hT 7 rfl hSr1 (fun wS hSS=>by(exact(Ax (by conv=>lhs;whnf)))) ?_
 refine Bm (by kernel_rfl) ?_
 refine t_n (Ak ?_)
 refine eR1 ?_
 exact⟨rfl,hD2.wide hXs,(ModS.ofExt hX).trans hM2 (fun _ _ h=>h)⟩
theorem Ae8 (gd:Nat) (S:Nat→Prop) (D:DS) (w:World) (hD:Dsk S w gd D) (hok:DOk D) (hst:D.steps<4611686018427380000) (hle:D.left≤9223372036854775807) (hnm:∀ x∈D.l,A1 x.1=true) (hS:∀ k,S k→6≤k) (hg:Gt w) (b0 b1 gs:Nat) (cs:Array Value) (hb0:Blk w b0 #[.pointer (some ⟨gd,0,none⟩)] 34) (hb1:Blk w b1 #[.pointer (some ⟨gs,0,none⟩)] 30) (hs:Blk w gs cs 91) (hs1:cs[1]? = some (.int .i64 1)) :
    Ret Tryz.prog 50 [.pointer (some ⟨b0,0,none⟩),.pointer (some ⟨b1,0,none⟩)] w (fun v w'=>v = .int .i64 (writeM D ⟨1,0,[]⟩).2∧Dsk (grow S w w') w' gd (writeM D ⟨1,0,[]⟩).1∧ModS S ED w w'):=by
 have hX:=Ext.refl w
 refine eN 10 Tryz.func50 ?_
 refine Ab (Aa ?_)
 refine pA (Ac (t_n (Ab ?_)))
 refine Cp 6 mixed (by kernel_rfl) ?_
 intro w1 hE1
 have hX:=hX.ext hE1
 have hD:=hD.ext hE1
 have hb0:=hb0.ext hE1
 have hb1:=hb1.ext hE1
 have hs:=hs.ext hE1
 refine s1 (Ae un34 rfl (hb0.cell (rfl))) ?_
 refine s1 (Ae un30 rfl (hb1.cell (rfl))) ?_
 refine s1 (Af rfl) ?_
 refine s1 (Ad Ch sz3 rfl) ?_
 refine s1 (Ae un3 rfl (hs.cell (hs1))) ?_
 refine s1 (T3 pl99 rfl rfl) ?_
 refine Ca ?_
 have hXs:=hX.size
 refine Ah Tryz.func51 fn51 fb51 (Ge gd S D _ hD hok hst hle hnm 1 0 [] 0 0 none 0 0 (Sl.nil _ _ _ _ _ _ (by omega)) (hg.ext hX).l.q) rfl ?_
 rintro v2 w2 ⟨rfl,hD2,hM2⟩
 refine pA (Ac (t_n (Ak ?_)))
 refine eR1 ?_
 exact⟨rfl,hD2.wide hXs,(ModS.ofExt hX).trans hM2 (fun _ _ h=>h)⟩
end Go.Proofs.Eng
end
section
set_option maxRecDepth 100000
set_option maxHeartbeats 4000000
namespace Go.Proofs.Eng
open Go.RowKit
open Extern.Stop (cell)
theorem fb34:Tryz.f34.body.isNone=false:=by kernel_rfl
theorem fb37:Tryz.f37.body.isNone=false:=by kernel_rfl
theorem fb38:Tryz.f38.body.isNone=false:=by kernel_rfl
theorem fb93:Tryz.f93.body.isNone=false:=by kernel_rfl
theorem fb94:Tryz.f94.body.isNone=false:=by kernel_rfl
theorem fn34 : ngB Tryz.f34 = false := by kernel_rfl
theorem fn37 : ngB Tryz.f37 = false := by kernel_rfl
theorem fn38 : ngB Tryz.f38 = false := by kernel_rfl
theorem fn93 : ngB Tryz.f93 = false := by kernel_rfl
theorem fn94 : ngB Tryz.f94 = false := by kernel_rfl
theorem Cr:Bc Tryz.prog 91 0=some (34,0):=by kernel_rfl
theorem D6:Bc Tryz.prog 91 2=some (3,2):=by kernel_rfl
theorem Kr:Bc Tryz.prog 91 3=some (23,3):=by kernel_rfl
theorem Fp:Bc Tryz.prog 91 4=some (88,4):=by kernel_rfl
theorem sz34:(Tryz.prog.info? 34).map (·.size)=some 1:=by kernel_rfl
theorem sz88:(Tryz.prog.info? 88).map (·.size)=some 1:=by kernel_rfl
theorem u88:Tryz.prog.underlying 88=some (.map 64 23):=by kernel_rfl
theorem un88:(Tryz.prog.underlying 88).map TypeDesc.isRow=some false:=by kernel_rfl
end Go.Proofs.Eng
end
section
set_option maxRecDepth 100000
set_option maxHeartbeats 4000000
namespace Go.Proofs.Eng
open Go.RowKit
open Extern.Stop (cell)
theorem We (gd:Nat) (S:Nat→Prop) (D:DS) (w:World) (hD:Dsk S w gd D) (hok:DOk D) (hst:D.steps<4611686018427370000) (hle:D.left≤9223372036854775807) (hnm:∀ x∈D.l,A1 x.1=true) (hS:∀ k,S k→6≤k) (hg:Gt w) (hSb:∀ j,S j→j<w.heap.size) (g r:Nat) (hb:Blk w g #[.pointer (some ⟨gd,0,none⟩),.int .i64 1,.int .i64 0,.slice none 0 0,.map (some r),.pointer none,.bool false] 91) (hM:Mp Bf vCh 0 0 w r (fun _=>none)) (hrS:¬ S r) (hg6:6≤g) (hr6:6≤r) (raw:By) (e B:Nat) (p:Option Addr) (n c:Nat) (hl:Sl kByte 5 B w p n c raw) :
    Ret Tryz.prog 44 [.pointer (some ⟨g,0,none⟩),.slice p n c] w (fun v w'=>v = .int .i64 (loadC D raw).2∧((loadC D raw).2=0→Cst (grow (fun j=>S j∨j=g∨j=r) w w') w' g gd (loadC D raw).1)∧Dsk (grow S w w') w' gd (loadC D raw).1.D∧ModS (fun j=>S j∨j=g∨j=r) EC w w'):=by
 have hgs:=hg.size
 have hbl:=hb.lt
 have hGd:Good D D.steps:=⟨hok,Nat.le_refl _,hle,hnm⟩
 have hX:=ModS.refl (fun j=>S j∨j=g∨j=r) EC w
 refine eN 113 Tryz.func44 ?_
 refine Ab (Aa ?_)
 refine pA (Ac (t_n (Ab (Aa ?_))))
 refine pM ?_
 refine Ah Tryz.func93 fn93 fb93 (S6 raw _ _ _ _ _ hl hg.l.q) rfl ?_
 rintro v1 w1 ⟨⟨seg,size,qi,mi,ci,e0,rfl,hdis⟩,hE1⟩
 have hX:=hX.ext hE1
 have hD:=hD.ext hE1
 have hb:=hb.ext hE1
 have hM:=hM.ext hE1
 have hg:=hg.ext hE1
 have hIx:∀ w2,Ext w1 w2→e0=0→∃ M:Mf,ManOf raw M∧seg=(M.seg:Int)∧size=(M.size:Int)∧FB (nS S) w2 qi mi ci M.index:=fun w2 hx he=>by
   obtain⟨_,M,h1,h2,h3,h4⟩:=hdis.resolve_right (fun h=>by omega)
   exact⟨M,h1,h2,h3,(FB.ofOwn h4 (fun k _ hk hs=>by have:=hSb k hs;omega)).ext hx⟩
 have hIn:e0≠0→¬ ∃ M,ManOf raw M:=fun he=>(hdis.resolve_left (fun h=>he h.1)).2
 have hG:=Ext.refl w1
 refine pM ?_
 refine p1 (Ao rfl rfl) ?_
 refine p1 (Ao rfl rfl) ?_
 have hz5:=hX.size
 refine A6 zr99 ?_
 intro w2 g5 hN5
 have hE2:=hN5.ext
 have hX:=hX.ext hE2
 have hD:=hD.ext hE2
 have hb:=hb.ext hE2
 have hM:=hM.ext hE2
 have hg:=hg.ext hE2
 have hG:=hG.ext hE2
 have hB5:=hN5.blk
 have hq5:=hN5.g_eq
 refine Az rfl (by conv=>lhs;whnf) (by simp[Value.oneCell']) (by exact sz99) hB5 (by rfl) ?_
 intro w3 hP3
 have hX:=hX.new hP3 (by omega)
 have hD:=hD.modT (hP3.mod 0 (Nat.zero_le _)) (by decide)
 have hb:=hP3.keep hb (by omega)
 have hM:=hM.mod (hP3.mod 0 (Nat.zero_le _)) (Nat.zero_le _) (by decide)
 have hg:=hg.put hP3 (by omega)
 have hG:=hG.put hP3 (by omega)
 have hB5:=hP3.blk
 refine pA (Ac (t_n (Ab (Ab (Aa ?_)))))
 refine pM ?_
 refine p1 (A2 rfl rfl) ?_
 refine Ac (t_n ?_)
 refine As rfl (fun hc20=>?_) (fun hc20=>?_)
 ·try simp only[dA,dB,dC,dD,dE,dF,dG,Int.not_lt,Int.not_le] at hc20
  have hp:loadC D raw=_:=Abn (hIn hc20)
  refine Ab (Aa ?_)
  refine pA (Ac (t_n (Ak (t_r ?_))))
  refine eR1 ?_
  (rw[hp];exact⟨rfl,fun h=>absurd (show (50:Int)=0 from h) (by decide),hD.mono (fun j hj h => .inl h),hX⟩)
 try simp only[dA,dB,dC,dD,dE,dF,dG,Int.not_lt,Int.not_le] at hc20
 have he0:e0=0:=by omega
 obtain⟨M,hMO,rfl,rfl,hI⟩:=hIx _ hG he0
 have hlm:=L9 (D:=D) hMO
 have hlo:=hMO.1.lo
 have hhi:=hMO.1.hi
 have hsz:=hMO.1.sz
 refine Ai (t_n (Ab (Aa ?_)))
 refine p1 (Ad Ps sz3 rfl) ?_
 refine p1 (Ae un3 rfl (hB5.cell (rfl))) ?_
 refine Ah Tryz.func49 fn49 fb49 (A3 (M.seg:Int) _ hg.l) rfl ?_
 rintro v4 w4 ⟨rfl,hE4⟩
 have hX:=hX.ext hE4
 have hD:=hD.ext hE4
 have hb:=hb.ext hE4
 have hM:=hM.ext hE4
 have hg:=hg.ext hE4
 have hB5:=hB5.ext hE4
 have hI:=hI.ext hE4
 refine pA (Ac (t_n (Ab (Aa ?_))))
 refine pM ?_
 refine p1 (Af rfl) ?_
 refine p1 (Ad Cr sz34 rfl) ?_
 refine p1 (Ae un34 rfl (hb.cell (rfl))) ?_
 refine pM ?_
 refine Ah Tryz.func37 fn37 fb37 (J9 gd S D _ hD hok (nSeg M.seg) (Ci M.seg)) rfl ?_
 rintro v5 w5 ⟨⟨qb,nb,cb,rfl,hO⟩,hE5⟩
 have hX:=hX.ext hE5
 have hD:=hD.ext hE5
 have hb:=hb.ext hE5
 have hM:=hM.ext hE5
 have hg:=hg.ext hE5
 have hB5:=hB5.ext hE5
 have hI:=hI.ext hE5
 have hO:=hO.lower (Nat.zero_le _)
 have hOl:=hO.len
 have hOc:=hO.sl.cap
 have hOf:=hO.sl.fit
 refine pM ?_
 refine p1 (Ao rfl rfl) ?_
 refine p1 (Ao rfl rfl) ?_
 refine pA (pA (Ac (t_n (Ab (Ab ?_)))))
 have hWr6:=Ext.refl w5
 refine F6 (ι:=Unit) [33,34,35,36,37,38,39,40,41] (fun _=>[(41,.bool (decide ((readD D (nSeg M.seg)).2≠0∨(readD D (nSeg M.seg)).1.length<M.size)))]) (fun _ w'=>Ext w5 w') ?_ ?_
 ·skip
  refine Aa ?_
  refine pM ?_
  refine p1 (A2 rfl rfl) ?_
  refine p1b (Al (by conv=>lhs;whnf)) (fun hb6_2=>?_) (fun hb6_2=>?_)
  ·try simp only[dA,dB,dC,dD,dE,dF,dG,Int.not_lt,Int.not_le] at hb6_2
   refine gF 35 (gF 35 (gF 35 (gF 35 (gF 35 ?_))))
   refine p1 (Ap rfl (by conv=>lhs;whnf)) ?_
   refine Ac ?_
   refine t_n (aK () ⟨congrArg Value.bool (by exact(decide_eq_true (by omega)).symm),trivial⟩ hWr6)
  try simp only[dA,dB,dC,dD,dE,dF,dG,Int.not_lt,Int.not_le] at hb6_2
  refine gM 35 ?_
  refine Eng.g1 35 rfl rfl (Aj u23 rfl) ?_
  refine Eng.g1 35 rfl rfl (Ad I1 sz3 rfl) ?_
  refine Eng.g1 35 rfl rfl (Ae un3 rfl (hB5.cell (rfl))) ?_
  refine Eng.g1 35 rfl rfl (Bx rfl rfl) ?_
  refine p1 (Aq rfl (by conv=>lhs;whnf)) ?_
  refine Ac ?_
  refine t_n (aK () ⟨congrArg Value.bool (by exact decide_eq_decide.2 (by omega)),trivial⟩ hWr6)
 rintro _ Gr6 w6 hE6
 have hX:=hX.ext hE6
 have hD:=hD.ext hE6
 have hb:=hb.ext hE6
 have hM:=hM.ext hE6
 have hg:=hg.ext hE6
 have hB5:=hB5.ext hE6
 have hI:=hI.ext hE6
 have hO:=hO.ext hE6
 refine t_n ?_
 refine As rfl (fun hc41=>?_) (fun hc41=>?_)
 ·try simp only[dA,dB,dC,dD,dE,dF,dG,Int.not_lt,Int.not_le] at hc41
  have hp:loadC D raw=(loadS D M,50):=by rw[hlm,if_pos (hc41.elim .inl (fun h => .inr (.inl h)))]
  refine Ab (Aa ?_)
  refine pA (Ac (t_n (Ak (t_r ?_))))
  refine eR1 ?_
  (rw[hp];exact⟨rfl,fun h=>absurd (show (50:Int)=0 from h) (by decide),hD.mono (fun j hj h => .inl h),hX⟩)
 try simp only[dA,dB,dC,dD,dE,dF,dG,Int.not_lt,Int.not_le] at hc41
 refine Ai (t_n (Ab (Aa ?_)))
 refine pM ?_
 refine p1 (Ad I1 sz3 rfl) ?_
 refine p1 (Ae un3 rfl (hB5.cell (rfl))) ?_
 refine p1 (D8 u23 sz5 rfl rfl (by omega)) ?_
 obtain⟨BL,hBL⟩:∃ b,b=w6.heap.size:=⟨_,rfl⟩
 obtain⟨LL,hLL⟩:∃ l,l=(getSg ((readD D (nSeg M.seg)).1.take M.size)).1:=⟨_,rfl⟩
 refine Ah Tryz.func38 fn38 fb38 (Ui ((readD D (nSeg M.seg)).1.take M.size) _ _ _ _ _ (hO.sl.take M.size (by omega)) hg.l.q (Nat.zero_le _) (by omega)) rfl ?_
 rintro v7 w7 ⟨⟨ql,ml,cl,rfl,hLs⟩,hE7⟩
 have hX:=hX.ext hE7
 have hD:=hD.ext hE7
 have hb:=hb.ext hE7
 have hM:=hM.ext hE7
 have hg:=hg.ext hE7
 have hB5:=hB5.ext hE7
 have hI:=hI.ext hE7
 have hO:=hO.ext hE7
 rw[← hBL,← hLL] at hLs
 have hLl:=hLs.len
 have hLc:=hLs.sl.cap
 have hLf:=hLs.sl.fit
 refine pM ?_
 refine p1 (Ao rfl rfl) ?_
 refine p1 (Ao rfl rfl) ?_
 refine pA (pA (Ac (t_n (Ab (Ab (Aa ?_))))))
 refine pM ?_
 refine p1 (A2 rfl rfl) ?_
 refine Ac (t_n ?_)
 refine As rfl (fun hc51=>?_) (fun hc51=>?_)
 ·try simp only[dA,dB,dC,dD,dE,dF,dG,Int.not_lt,Int.not_le] at hc51
  have hp:loadC D raw=(loadS D M,50):=by rw[hlm,if_pos (.inr (.inr hc51))]
  refine Ab (Aa ?_)
  refine pA (Ac (t_n (Ak (t_r ?_))))
  refine eR1 ?_
  (rw[hp];exact⟨rfl,fun h=>absurd (show (50:Int)=0 from h) (by decide),hD.mono (fun j hj h => .inl h),hX⟩)
 try simp only[dA,dB,dC,dD,dE,dF,dG,Int.not_lt,Int.not_le] at hc51
 have hlp:=hlm.trans (if_neg (by rintro (h | h | h) <;> omega))
 have hlc:∀ i,(LL.getD i []).length≤16777216:=fun i=>by
   rw[hLL]
   have h1:=Ab7 ((readD D (nSeg M.seg)).1.take M.size) i
   omega
 refine Ai (t_n (Ab (Ab (Aa ?_))))
 refine pM ?_
 refine p1 (Aj u22 rfl) ?_
 refine pM (Ac (t_n (Am ?_)))
 refine Bg (ι:=Nat) [11,12,54,55,56,57,58,59,60,61,62,63,64,65,66,67,68,69,70,71,72,73,74,75] (fun k=>[(54,.int .i64 (k:Int))]) (fun k w'=>ModS (fun j=>S j∨j=g∨j=r) EC w w'∧(k≤ml∧Dsk S w' gd D∧Blk w' g #[.pointer (some ⟨gd,0,none⟩),.int .i64 1,.int .i64 0,.slice none 0 0,.map (some r),.pointer none,.bool false] 91∧(∃ μ,Mp Bf vCh 0 0 w' r μ∧Chs S w' μ (LL.take k))∧Gt w'∧FB (nS S) w' qi mi ci M.index∧Own kByte 5 0 0 w' qb nb cb (readD D (nSeg M.seg)).1∧Blk w' g5 #[.int .i64 (M.seg:Int),.int .i64 (M.size:Int),.slice qi mi ci] 99∧Own (kOb BL) 23 0 BL w' ql ml cl LL)) (fun k=>ml - k) (0) ⟨rfl,trivial⟩ ⟨hX,Nat.zero_le _,hD,hb,⟨_,hM,by rw[List.take_zero];exact Chs.none_ S _⟩,hg,hI,hO,hB5,hLs⟩ ?_
 rintro k GL0 w8 ⟨hE8,hk,hD,hb,⟨μ,hM,hC⟩,hg,hI,hO,hB5,hLs⟩
 have hX:=hE8
 refine Ab (Aa ?_)
 refine p1 (Bx rfl rfl) ?_
 refine Ac (t_n (Ab ?_))
 refine As rfl (fun hc55=>?_) (fun hc55=>?_)
 ·try simp only[dA,dB,dC,dD,dE,dF,dG,Int.not_lt,Int.not_le] at hc55
  refine Ai (t_n (Ab (Am (Ab ?_))))
  obtain⟨qk,mk,ck,hck,hrow⟩:=hLs.sl.obAt k (by omega)
  have hlek:=hlc k
  have hrl:=hrow.len
  refine Aa ?_
  refine p1 (C5 (i:=k) u22 sz23 rfl rfl (hLs.sl.adr Lk (by omega)) (by omega)) ?_
  refine p1 (Ae un23 rfl hck) ?_
  refine pA (Ac (t_n (Ab (Aa ?_))))
  refine pM ?_
  refine Ah Tryz.func34 fn34 fb34 (K6 (LL.getD k []) _ _ _ _ _ hrow.sl (by omega) (Nat.zero_le _) hg.r hg.b (by have:=hg.size;omega)) rfl ?_
  rintro v9 w9 ⟨rfl,hE9⟩
  have hX:=hX.ext hE9
  have hD:=hD.ext hE9
  have hb:=hb.ext hE9
  have hM:=hM.ext hE9
  have hC:=hC.ext hE9
  have hg:=hg.ext hE9
  have hI:=hI.ext hE9
  have hO:=hO.ext hE9
  have hB5:=hB5.ext hE9
  have hLs:=hLs.ext hE9
  have hrow:=hrow.ext hE9
  have hz12:=hX.size
  have hl12_5:=hB5.lt
  refine A6 zr64 ?_
  intro w10 g12 hN12
  have hE10:=hN12.ext
  have hX:=hX.ext hE10
  have hD:=hD.ext hE10
  have hb:=hb.ext hE10
  have hM:=hM.ext hE10
  have hC:=hC.ext hE10
  have hg:=hg.ext hE10
  have hI:=hI.ext hE10
  have hO:=hO.ext hE10
  have hB5:=hB5.ext hE10
  have hLs:=hLs.ext hE10
  have hrow:=hrow.ext hE10
  have hB12:=hN12.blk
  have hq12:=hN12.g_eq
  refine Az rfl rfl (Cm _) (B4 sz64 _) hB12 (Dl _) ?_
  intro w11 hP11
  have hX:=hX.new hP11 (by omega)
  have hD:=hD.modT (hP11.mod 0 (Nat.zero_le _)) (by decide)
  have hb:=hP11.keep hb (by omega)
  have hM:=hM.mod (hP11.mod 0 (Nat.zero_le _)) (Nat.zero_le _) (by decide)
  have hC:=hC.mod (hP11.mod 0 (Nat.zero_le _)) (Nat.zero_le _) (by decide)
  have hg:=hg.put hP11 (by omega)
  have hI:=hI.mod (hP11.mod 0 (Nat.zero_le _)) (Nat.zero_le _) (by decide)
  have hO:=hO.mod (hP11.mod 0 (Nat.zero_le _)) (Nat.zero_le _) (by decide)
  have hB5:=hP11.keep hB5 (by omega)
  have hLs:=hLs.mod (hP11.mod 0 (Nat.zero_le _)) (Nat.zero_le _) (by simp[kOb])
  have hrow:=hrow.mod (hP11.mod 0 (Nat.zero_le _)) (Nat.zero_le _) (by decide)
  have hB12:=hP11.blk
  refine Ac (t_n (Ab ?_))
  refine Du mixed (by kernel_rfl) ?_
  intro w12 hE12
  have hX:=hX.ext hE12
  have hD:=hD.ext hE12
  have hb:=hb.ext hE12
  have hM:=hM.ext hE12
  have hC:=hC.ext hE12
  have hg:=hg.ext hE12
  have hI:=hI.ext hE12
  have hO:=hO.ext hE12
  have hB5:=hB5.ext hE12
  have hLs:=hLs.ext hE12
  have hrow:=hrow.ext hE12
  have hB12:=hB12.ext hE12
  refine s1 (Al (by conv=>lhs;whnf)) ?_
  refine s1 (Af rfl) ?_
  refine s1 (Ad Fp sz88 rfl) ?_
  refine s1 (Ae un88 rfl (hb.cell (rfl))) ?_
  refine s1 (Bh ua64 rfl hB12 (B4 sz64 _)) ?_
  obtain⟨⟨p0,n0,c0⟩,hr0⟩:∃ x:R3,x=(μ (shaF (LL.getD k []))).getD r30:=⟨_,rfl⟩
  obtain⟨hC0a,hC0b⟩:=hC.get (shaF (LL.getD k []))
  rw[← hr0] at hC0a hC0b
  simp only at hC0a hC0b
  refine s1 (((lookC u88 zr23 (Cg u64 u5 sz5) hM (shaF (LL.getD k [])) rfl rfl)).cast (by rw[← hr0];rfl:r3V _=Value.slice p0 n0 c0)) ?_
  refine s1 (D9 u23 rfl rfl) ?_
  refine Ca (t_n ?_)
  refine As rfl (fun hc66=>?_) (fun hc66=>?_)
  ·try simp only[dA,dB,dC,dD,dE,dF,dG,Int.not_lt,Int.not_le] at hc66
   refine B7 (fun w1 w2=>ModS (fun j=>j=r) [tMap] w1 w2) mixed ?_
   intro w13 hE13
   have hX:=hX.ext hE13
   have hD:=hD.ext hE13
   have hb:=hb.ext hE13
   have hM:=hM.ext hE13
   have hC:=hC.ext hE13
   have hg:=hg.ext hE13
   have hI:=hI.ext hE13
   have hO:=hO.ext hE13
   have hB5:=hB5.ext hE13
   have hLs:=hLs.ext hE13
   have hrow:=hrow.ext hE13
   have hB12:=hB12.ext hE13
   have hSr16:(fun w1 w2=>ModS (fun j=>j=r) [tMap] w1 w2) w13 w13:=ModS.refl _ _ _
   refine hT 0 rfl hSr16 (fun wS hSS=>by(exact(Al (by conv=>lhs;whnf)))) ?_
   refine hT 1 rfl hSr16 (fun wS hSS=>by(exact(Af rfl))) ?_
   refine hT 2 rfl hSr16 (fun wS hSS=>by(exact(Ad Fp sz88 rfl))) ?_
   refine hT 3 rfl hSr16 (fun wS hSS=>by(have hb:=hb.modS hSS (.inr (by decide));have hB12:=hB12.modS hSS (.inr (by decide));exact(Ae un88 rfl (hb.cell (rfl))))) ?_
   refine hT 4 rfl hSr16 (fun wS hSS=>by(have hb:=hb.modS hSS (.inr (by decide));have hB12:=hB12.modS hSS (.inr (by decide));exact(Bh ua64 rfl hB12 (B4 sz64 _)))) ?_
   refine hT 6 rfl hSr16 (fun wS hSS=>by(exact(Al (by conv=>lhs;whnf)))) ?_
   refine h1L 5 (fun Q5 hQ5=>?_)
   have hXz:=hX.size
   have hSq:=hSr16
   refine Au u23 inf5 rfl (by decide) (fun base hb=>by have h0:base=#[]:=Array.eq_empty_of_size_eq_zero (by simpa using hb);subst h0;rfl) ?_
   intro wJ g72 hN72
   have hE72:=hN72.ext
   have hSr16:=hSr16.ext hE72
   have hJ:Own kByte 5 0 w13.heap.size wJ (some ⟨g72,0,none⟩) 0 0 []:=Cw (B0:=w13.heap.size) ([]:List UInt8) hN72 (Nat.le_refl _) (by simp)
   refine An hQ5 ⟨hSr16,?_⟩
   refine h1L 7 (fun Q7 hQ7=>?_)
   have hrl:=hrow.sl.len
   refine Qz (d:=kByte) (LL.getD k []) u23 inf5 rfl Bw rfl rfl hJ (C6 u23 (hrow.sl.ext hE72) (by decide)) hrl (C8 _ _ _) rfl (by omega) (by omega) hE72.size (Nat.zero_le _) (by decide) ?_
   intro p74 c74 w14 hA hM14 hp74 hon74
   rw[List.nil_append] at hA
   have hE14:Ext w13 w14:=hE72.mod hM14 (Nat.le_refl _)
   have hpn:p74≠none:=by rcases hp74 with h | ⟨g,h,_⟩ <;> rw[h] <;> simp
   have hSr16:=hSq
   have hX:=hX.ext hE14
   have hD:=hD.ext hE14
   have hb:=hb.ext hE14
   have hM:=hM.ext hE14
   have hC:=hC.ext hE14
   have hg:=hg.ext hE14
   have hI:=hI.ext hE14
   have hO:=hO.ext hE14
   have hB5:=hB5.ext hE14
   have hLs:=hLs.ext hE14
   have hSr16:=hSr16.ext hE14
   refine An hQ7 ⟨hSr16,?_⟩
   refine h1L 8 (fun Q8 hQ8=>?_)
   have hMt15:=hM.tyOf
   refine Ej (a:=(shaF (LL.getD k []))) (b:=(p74,0+mk,c74)) u88 (Cg u64 u5 sz5) rfl rfl rfl hM rfl (Nat.zero_le _) (by decide) ?_
   intro w15 hM hMm15 hne15
   have hO115:=One.ofMod hMm15 hMt15 hne15
   have hSr16:=hSr16.trans hO115.mods (fun _ _ h=>h)
   have hFA:=FB.ofOwn (S:=nS S) hA (fun j _ hj hs=>by have:=hSb j hs;have:=hXz;omega)
   have hX:=hX.one hO115 ⟨.inl (.inr (.inr rfl)),by decide⟩
   have hD:=hD.oneF hO115 hrS (by decide)
   have hb:=hb.one hO115 (by decide)
   have hC:=hC.one hO115 (by decide)
   have hg:=hg.one hO115 hr6
   have hI:=hI.one hO115 (by decide)
   have hO:=hO.mod (hO115.mod (Nat.zero_le _)) (Nat.zero_le _) (by decide)
   have hB5:=hB5.one hO115 (by decide)
   have hLs:=hLs.mod (hO115.mod (Nat.zero_le _)) (Nat.zero_le _) (by show tMap∉[23,5];decide)
   have hFA:=hFA.one hO115 (by decide)
   have hCn:=hC.put (hC0a.1 hc66) (p74,0+mk,c74) hpn hFA
   rw[← Fg (by omega)] at hCn
   refine An hQ8 ⟨hSr16,?_⟩
   refine Bm (by kernel_rfl) ?_
   refine b_n (t_n (Aa ?_))
   refine p1 (Aw rfl rfl (Ag (by omega) (by omega))) ?_
   refine pM (Ac ?_)
   refine t_n (aK (k+1) ⟨rfl,trivial⟩ ?_)
   exact⟨⟨hX,by omega,hD,hb,⟨_,hM,hCn⟩,hg,hI,hO,hB5,hLs⟩,by((show _<_);omega)⟩
  try simp only[dA,dB,dC,dD,dE,dF,dG,Int.not_lt,Int.not_le] at hc66
  have hCn:=hC.dup (c:=LL.getD k []) (fun e=>hc66 (hC0a.2 e))
  rw[← Fg (by omega)] at hCn
  refine Ai (b_n (t_n (Aa ?_)))
  refine p1 (Aw rfl rfl (Ag (by omega) (by omega))) ?_
  refine pM (Ac ?_)
  refine t_n (aK (k+1) ⟨rfl,trivial⟩ ?_)
  exact⟨⟨hX,by omega,hD,hb,⟨_,hM,hCn⟩,hg,hI,hO,hB5,hLs⟩,by((show _<_);omega)⟩
 try simp only[dA,dB,dC,dD,dE,dF,dG,Int.not_lt,Int.not_le] at hc55
 have hkk:LL.take k=LL:=List.take_of_length_le (by omega)
 rw[hkk] at hC
 refine Ba (t_e (t_e (Bu (t_n (Ab ?_)))))
 refine B7 (fun _ w2=>Blk w2 g5 #[.int .i64 (M.seg:Int),.int .i64 (M.size:Int),.slice qi mi ci] 99) mixed ?_
 intro w16 hE16
 have hX:=hX.ext hE16
 have hD:=hD.ext hE16
 have hb:=hb.ext hE16
 have hM:=hM.ext hE16
 have hC:=hC.ext hE16
 have hg:=hg.ext hE16
 have hI:=hI.ext hE16
 have hB5:=hB5.ext hE16
 have hSr18:(fun _ w2=>Blk w2 g5 #[.int .i64 (M.seg:Int),.int .i64 (M.size:Int),.slice qi mi ci] 99) w16 w16:=hB5
 refine hT 0 rfl hSr18 (fun wS hSS=>by(exact(Al (by conv=>lhs;whnf)))) ?_
 refine hT 1 rfl hSr18 (fun wS hSS=>by(exact(Al (by conv=>lhs;whnf)))) ?_
 refine hT 2 rfl hSr18 (fun wS hSS=>by(exact(Al (by conv=>lhs;whnf)))) ?_
 refine hT 3 rfl hSr18 (fun wS hSS=>by(exact(Ad Ps sz3 rfl))) ?_
 refine hT 4 rfl hSr18 (fun wS hSS=>by(have hB5:=hSS;exact(Ae un3 rfl (hB5.cell (rfl))))) ?_
 refine hT 5 rfl hSr18 (fun wS hSS=>by(exact(Ad I1 sz3 rfl))) ?_
 refine hT 6 rfl hSr18 (fun wS hSS=>by(have hB5:=hSS;exact(Ae un3 rfl (hB5.cell (rfl))))) ?_
 refine hT 7 rfl hSr18 (fun wS hSS=>by(exact(Ad Td sz23 rfl))) ?_
 refine hT 8 rfl hSr18 (fun wS hSS=>by(have hB5:=hSS;exact(Ae un23 rfl (hB5.cell (rfl))))) ?_
 refine hT 9 rfl hSr18 (fun wS hSS=>by(exact(Af rfl))) ?_
 refine hT 10 rfl hSr18 (fun wS hSS=>by(exact(Ad Ch sz3 rfl))) ?_
 refine h1L 11 (fun Q11 hQ11=>?_)
 refine Ar rfl (by conv=>lhs;whnf) rfl rfl sz3 hb (by simp) ?_
 intro w17 hP17
 have hX:=hX.put hP17 (⟨.inl (.inr (.inl rfl)),by decide⟩)
 have hD:=hD.modT (hP17.mod 0 (Nat.zero_le _)) (by decide)
 have hb:=hP17.blk
 try simp only[List.setIfInBounds_toArray,List.set_cons_zero,List.set_cons_succ] at hb
 have hM:=hM.mod (hP17.mod 0 (Nat.zero_le _)) (Nat.zero_le _) (by decide)
 have hC:=hC.mod (hP17.mod 0 (Nat.zero_le _)) (Nat.zero_le _) (by decide)
 have hg:=hg.put hP17 (by omega)
 have hI:=hI.mod (hP17.mod 0 (Nat.zero_le _)) (Nat.zero_le _) (by decide)
 have hB5:=hP17.keep hB5 (by omega)
 have hSr18:=hP17.keep hSr18 (by omega)
 refine An hQ11 ⟨hSr18,?_⟩
 refine hT 12 rfl hSr18 (fun wS hSS=>by(exact(Af rfl))) ?_
 refine hT 13 rfl hSr18 (fun wS hSS=>by(exact(Ad D6 sz3 rfl))) ?_
 refine h1L 14 (fun Q14 hQ14=>?_)
 refine Ar rfl (by conv=>lhs;whnf) rfl rfl sz3 hb (by simp) ?_
 intro w18 hP18
 have hX:=hX.put hP18 (⟨.inl (.inr (.inl rfl)),by decide⟩)
 have hD:=hD.modT (hP18.mod 0 (Nat.zero_le _)) (by decide)
 have hb:=hP18.blk
 try simp only[List.setIfInBounds_toArray,List.set_cons_zero,List.set_cons_succ] at hb
 have hM:=hM.mod (hP18.mod 0 (Nat.zero_le _)) (Nat.zero_le _) (by decide)
 have hC:=hC.mod (hP18.mod 0 (Nat.zero_le _)) (Nat.zero_le _) (by decide)
 have hg:=hg.put hP18 (by omega)
 have hI:=hI.mod (hP18.mod 0 (Nat.zero_le _)) (Nat.zero_le _) (by decide)
 have hB5:=hP18.keep hB5 (by omega)
 have hSr18:=hP18.keep hSr18 (by omega)
 refine An hQ14 ⟨hSr18,?_⟩
 refine hT 15 rfl hSr18 (fun wS hSS=>by(exact(Af rfl))) ?_
 refine hT 16 rfl hSr18 (fun wS hSS=>by(exact(Ad Kr sz23 rfl))) ?_
 refine h1L 17 (fun Q17 hQ17=>?_)
 refine Ar rfl (by conv=>lhs;whnf) rfl rfl sz23 hb (by simp) ?_
 intro w19 hP19
 have hX:=hX.put hP19 (⟨.inl (.inr (.inl rfl)),by decide⟩)
 have hD:=hD.modT (hP19.mod 0 (Nat.zero_le _)) (by decide)
 have hb:=hP19.blk
 try simp only[List.setIfInBounds_toArray,List.set_cons_zero,List.set_cons_succ] at hb
 have hM:=hM.mod (hP19.mod 0 (Nat.zero_le _)) (Nat.zero_le _) (by decide)
 have hC:=hC.mod (hP19.mod 0 (Nat.zero_le _)) (Nat.zero_le _) (by decide)
 have hg:=hg.put hP19 (by omega)
 have hI:=hI.mod (hP19.mod 0 (Nat.zero_le _)) (Nat.zero_le _) (by decide)
 have hB5:=hP19.keep hB5 (by omega)
 have hSr18:=hP19.keep hSr18 (by omega)
 have hCX:CstX (fun j=>S j∨j=g∨j=r) S _ g gd r μ qi mi ci none (loadS D M):=⟨fun k h => .inl h,hD,hb,hM,by show Chs S _ μ (getSg _).1;rw[← hLL];exact hC,hI,.inr (.inl rfl),.inr (.inr rfl),hrS,rfl⟩
 refine An hQ17 ⟨hSr18,?_⟩
 refine Bm (by kernel_rfl) ?_
 refine t_n (Ab (Ab (Aa ?_)))
 refine pM ?_
 refine p1 (Aj u23 rfl) ?_
 refine p1 (Ad I1 sz3 rfl) ?_
 refine p1 (Ae un3 rfl (hB5.cell (rfl))) ?_
 refine p1 (C0 rfl rfl) ?_
 refine Ac (t_n ?_)
 refine As rfl (fun hc95=>?_) (fun hc95=>?_)
 ·try simp only[dA,dB,dC,dD,dE,dF,dG,Int.not_lt,Int.not_le] at hc95
  refine Ab ?_
  refine Cp 7 mixed (by kernel_rfl) ?_
  intro w20 hE20
  have hX:=hX.ext hE20
  have hb:=hb.ext hE20
  have hg:=hg.ext hE20
  have hB5:=hB5.ext hE20
  have hCX:=hCX.ext hE20
  refine s1 (Al (by conv=>lhs;whnf)) ?_
  refine s1 (Af rfl) ?_
  refine s1 (Ad Cr sz34 rfl) ?_
  refine s1 (Ae un34 rfl (hb.cell (rfl))) ?_
  refine s1 (Al (by conv=>lhs;whnf)) ?_
  refine s1 (Ad I1 sz3 rfl) ?_
  refine s1 (Ae un3 rfl (hB5.cell (rfl))) ?_
  refine Ca ?_
  have hXs:=hX.size
  refine Ah Tryz.func94 fn94 fb94 (Pz gd S D _ hCX.d hok (by omega) hle (nSeg M.seg) (Ci _) (M.size:Int) (by omega) (by omega)) rfl ?_
  rintro v21 w21 ⟨rfl,hD2,hM2⟩
  have hz20:=hX.size
  have hCX:=hCX.turn hM2 hD2
  have hX:=hX.trans (hM2.wideE fun k h => .inl h) (fun _ _ h=>h)
  have hg:=hg.modS hM2 hS
  have hGd:=Iw hGd (nSeg M.seg) (M.size:Int)
  have hXs3:=hX.size
  have hmc:=hM2.size
  have hb:=hCX.b
  refine pA (Ac (t_n (Ab (Aa ?_))))
  refine pM ?_
  refine p1 (A2 rfl rfl) ?_
  refine Ac (t_n ?_)
  refine As rfl (fun hc105=>?_) (fun hc105=>?_)
  ·try simp only[dA,dB,dC,dD,dE,dF,dG,Int.not_lt,Int.not_le] at hc105
   have hlr:loadR D M=cutD D (nSeg M.seg) M.size:=by unfold loadR;rw[if_pos (by omega),andD,if_neg hc105]
   refine Ab (Aa ?_)
   refine pM (pA (Ac (t_n (Ak (t_r ?_)))))
   refine eR1 ?_
   (rw[hlp,hlr];exact⟨rfl,fun h=>absurd h hc105,hCX.d.mono (into1 hz20),hX⟩)
  try simp only[dA,dB,dC,dD,dE,dF,dG,Int.not_lt,Int.not_le] at hc105
  have hlr:loadR D M=cleanD (cutD D (nSeg M.seg) M.size).1 (nSeg M.seg):=by unfold loadR;rw[if_pos (by omega),andD,if_pos (by omega)]
  refine Ai (t_n (Ab (Aa ?_)))
  refine pM ?_
  refine p1 (Af rfl) ?_
  refine p1 (Ad Cr sz34 rfl) ?_
  refine p1 (Ae un34 rfl (hb.cell (rfl))) ?_
  refine pM ?_
  have hXs2:=hX.size
  refine Ah Tryz.func47 fn47 fb47 (H9 gd _ _ _ hCX.d hGd.ok (Nat.lt_of_le_of_lt hGd.steps (by omega)) hGd.left hGd.names (by exact Hq hS (by omega)) hg (nSeg M.seg)) rfl ?_
  rintro v22 w22 ⟨rfl,hDZ,hMZ⟩
  have hCZ:=hCX.turn hMZ hDZ
  have hX:=hX.trans (hMZ.wideE fun k h=>h) (by exact fun j hj h=>h.elim .inl (fun q=>absurd q.1 (by omega)))
  refine pA (Ac (t_n (Ak ?_)))
  refine eR1 ?_
  (rw[hlp,hlr];exact⟨rfl,fun _=>hCZ.fin.mono (into2 hz20 hXs2),hDZ.mono (into2 hz20 hXs2),hX⟩)
 try simp only[dA,dB,dC,dD,dE,dF,dG,Int.not_lt,Int.not_le] at hc95
 have hlr:loadR D M=cleanD D (nSeg M.seg):=by unfold loadR;rw[if_neg (by omega)];rfl
 refine Ai (t_n (Ab (Aa ?_)))
 refine pM ?_
 refine p1 (Af rfl) ?_
 refine p1 (Ad Cr sz34 rfl) ?_
 refine p1 (Ae un34 rfl (hb.cell (rfl))) ?_
 refine pM ?_
 have hXs2:=hX.size
 refine Ah Tryz.func47 fn47 fb47 (H9 gd _ _ _ hCX.d hGd.ok (Nat.lt_of_le_of_lt hGd.steps (by omega)) hGd.left hGd.names (by exact hS) hg (nSeg M.seg)) rfl ?_
 rintro v23 w23 ⟨rfl,hDZ,hMZ⟩
 have hCZ:=hCX.turn hMZ hDZ
 have hX:=hX.trans (hMZ.wideE fun k h=>h) (by exact fun j _ h => .inl h)
 refine pA (Ac (t_n (Ak ?_)))
 refine eR1 ?_
 (rw[hlp,hlr];exact⟨rfl,fun _=>hCZ.fin.mono (into1 hXs2),hDZ.mono (into1 hXs2),hX⟩)
end Go.Proofs.Eng
end
section
set_option maxRecDepth 100000
set_option maxHeartbeats 4000000
namespace Go.Proofs.Eng
open Go.RowKit
open Extern.Stop (cell)
theorem fb44:Tryz.f44.body.isNone=false:=by kernel_rfl
theorem fb46:Tryz.f46.body.isNone=false:=by kernel_rfl
theorem fb48:Tryz.f48.body.isNone=false:=by kernel_rfl
theorem fb50:Tryz.f50.body.isNone=false:=by kernel_rfl
theorem fn44 : ngB Tryz.f44 = false := by kernel_rfl
theorem fn46 : ngB Tryz.f46 = false := by kernel_rfl
theorem fn48 : ngB Tryz.f48 = false := by kernel_rfl
theorem fn50 : ngB Tryz.f50 = false := by kernel_rfl
theorem pl91:Da Tryz.prog 91=some (.agg #[.pointer none,.int .i64 0,.int .i64 0,.slice none 0 0,.map none,.pointer none,.bool false],[(0,1),(1,1),(2,1),(3,1),(4,1),(5,1),(6,1)]):=by kernel_rfl
theorem sz30:(Tryz.prog.info? 30).map (·.size)=some 1:=by kernel_rfl
theorem zr30:(Tryz.prog.info? 30).map (·.zero)=some (some (.pointer none)):=by kernel_rfl
end Go.Proofs.Eng
end
section
set_option maxRecDepth 100000
set_option maxHeartbeats 4000000
namespace Go.Proofs.Eng
open Go.RowKit
open Extern.Stop (cell)
theorem F4 (gd:Nat) (S:Nat→Prop) (D:DS) (w:World) (hD:Dsk S w gd D) (hok:DOk D) (hst:D.steps<4611686018427360000) (hle:D.left≤9223372036854775807) (hnm:∀ x∈D.l,A1 x.1=true) (hS:∀ k,S k→6≤k) (hg:Gt w) :
    Ret Tryz.prog 12 [.pointer (some ⟨gd,0,none⟩)] w (fun v w'=>(∃ pv,v = .tuple #[pv,.int .i64 (openC D).2]∧(((openC D).2=0∧∃ g,pv = .pointer (some ⟨g,0,none⟩)∧Cst (grow S w w') w' g gd (openC D).1)∨((openC D).2≠0∧pv = .pointer none∧Dsk (grow S w w') w' gd (openC D).1.D)))∧ModS S EC w w'):=by
 have hgs:=hg.size
 have hD:=hD.narrow (Nat.le_refl _)
 have hS1:∀ k,(fun j=>S j∧j<w.heap.size) k→6≤k:=fun k h=>hS k h.1
 have hSb:∀ k,(fun j=>S j∧j<w.heap.size) k→k<w.heap.size:=fun k h=>h.2
 have hX:=ModS.refl S EC w
 refine eN 35 Tryz.func12 ?_
 refine Ab (Aa ?_)
 have hz1:=hX.size
 refine Cq (by conv=>lhs;whnf) rfl ?_
 intro w1 g1 hN1
 have hE1:=hN1.ext
 have hX:=hX.ext hE1
 have hD:=hD.ext hE1
 have hg:=hg.ext hE1
 have hB1:=hN1.blk
 have hq1:=hN1.g_eq
 refine pA (pA (Ac (t_n (Ab (Ab (Aa ?_))))))
 refine p1 (Ae un34 rfl (hB1.cell (rfl))) ?_
 refine p1 ((Bb u34 rfl rfl).cast (congrArg _ (decide_eq_false (by simp)))) ?_
 refine Ac (t_n ?_)
 refine c_f rfl ?_
 refine Ai (t_n (Ab (Aa ?_)))
 refine p1 (Ae un34 rfl (hB1.cell (rfl))) ?_
 have hXs:=hX.size
 refine H2 (κ:=Hash) (ν:=R3) ?_
 intro w2 g10 hE2 hK10
 have hX:=hX.ext hE2
 have hD:=hD.ext hE2
 have hg:=hg.ext hE2
 have hB1:=hB1.ext hE2
 have hM:=hK10 Bf vCh 0 w.heap.size (hXs)
 refine p1 (Aac pl91 rfl rfl rfl) ?_
 have hMl:=hM.low
 have hMt:=hM.lt
 have hz12:=hX.size
 have hl12_1:=hB1.lt
 refine Em (by conv=>lhs;whnf) ?_
 intro w3 g12 hN12
 have hE3:=hN12.ext
 have hX:=hX.ext hE3
 have hD:=hD.ext hE3
 have hg:=hg.ext hE3
 have hB1:=hB1.ext hE3
 have hM:=hM.ext hE3
 have hB12:=hN12.blk
 have hq12:=hN12.g_eq
 have hz4:=hX.size
 have hl4_1:=hB1.lt
 have hl4_12:=hB12.lt
 refine A6 zr30 ?_
 intro w4 g4 hN4
 have hE4:=hN4.ext
 have hX:=hX.ext hE4
 have hD:=hD.ext hE4
 have hg:=hg.ext hE4
 have hB1:=hB1.ext hE4
 have hM:=hM.ext hE4
 have hB12:=hB12.ext hE4
 have hB4:=hN4.blk
 have hq4:=hN4.g_eq
 refine Ar rfl (by conv=>lhs;whnf) rfl rfl sz30 hB4 (by exact Nat.zero_lt_one) ?_
 intro w5 hP5
 have hX:=hX.new hP5 (by omega)
 have hD:=hD.modT (hP5.mod 0 (Nat.zero_le _)) (by decide)
 have hg:=hg.put hP5 (by omega)
 have hB1:=hP5.keep hB1 (by omega)
 have hM:=hM.mod (hP5.mod 0 (Nat.zero_le _)) (Nat.zero_le _) (by decide)
 have hB12:=hP5.keep hB12 (by omega)
 have hB4:=hP5.blk
 try simp only[List.setIfInBounds_toArray,List.set_cons_zero,List.set_cons_succ] at hB4
 refine Ac (t_n (Ab (Aa ?_)))
 refine p1 (Ae un34 rfl (hB1.cell (rfl))) ?_
 refine Ah Tryz.func37 fn37 fb37 (J9 gd (fun j=>S j∧j<w.heap.size) D _ hD hok nMan (by decide)) rfl ?_
 rintro v6 w6 ⟨⟨qb,nb,cb,rfl,hO⟩,hE6⟩
 have hX:=hX.ext hE6
 have hD:=hD.ext hE6
 have hg:=hg.ext hE6
 have hB1:=hB1.ext hE6
 have hM:=hM.ext hE6
 have hB12:=hB12.ext hE6
 have hB4:=hB4.ext hE6
 refine pM ?_
 refine p1 (Ao rfl rfl) ?_
 refine p1 (Ao rfl rfl) ?_
 refine pA (pA (Ac (t_n (Ab (Ab (Aa ?_))))))
 refine pM (Ac (t_n (Am (Ab (Aa ?_)))))
 refine p1 (Bn rfl rfl) ?_
 refine pA (Ac (t_n ?_))
 refine As rfl (fun hc19=>?_) (fun hc19=>?_)
 ·have hoc:=Ko hc19
  refine Aa ?_
  refine p1 (Ae un30 rfl (hB4.cell (rfl))) ?_
  refine pM ?_
  have hXs:=hX.size
  refine Ah Tryz.func44 fn44 fb44 (We gd (fun j=>S j∧j<w.heap.size) D _ hD hok (by omega) hle hnm hS1 hg (fun j h=>Nat.lt_of_lt_of_le h.2 hXs) g12 g10 hB12 (hM.lower (Nat.zero_le _)) (fun h=>by have:=h.2;omega) (by omega) (by omega) (readD D nMan).1 0 _ _ _ _ hO.sl) rfl ?_
  rintro v7 w7 ⟨rfl,hCs,hD2,hM2⟩
  have hX:=hX.trans hM2 (fun j hj h=>by rcases h with h | h | h <;> first | exact h.1 | (exfalso;omega))
  have hB4:=hB4.modS hM2 (.inr (by decide))
  have hMs:=hM2.size
  refine pA (Ac (b_n (t_n (Ab (Ab (Aa ?_))))))
  refine pM ?_
  refine p1 (A2 rfl rfl) ?_
  refine Ac (t_n ?_)
  refine As rfl (fun hc32=>?_) (fun hc32=>?_)
  ·refine Ab (Aa ?_)
   refine pM (pA (pA (Ac (t_n (Ak (t_r ?_))))))
   refine eR2 ?_
   (rw[hoc];exact⟨⟨_,rfl,.inr ⟨hc32,rfl,hD2.mono (fun j hj h=>h.imp (fun h=>h.1) fun ⟨a,_⟩=>⟨by omega,hj⟩)⟩⟩,hX⟩)
  refine Ai (t_n (Ab (Aa ?_)))
  refine p1 (Ae un30 rfl (hB4.cell (rfl))) ?_
  refine pA (pA (Ac (t_n (Ak ?_))))
  refine eR2 ?_
  (rw[hoc]
   have h0:(loadC D (readD D nMan).1).2=0:=by omega
   refine⟨⟨_,by rw[h0],.inl ⟨h0,_,rfl,(hCs h0).mono (fun j hj h=>?_)⟩⟩,hX⟩
   rcases h with (h | h | h) | ⟨h,_⟩
   · exact .inl h.1
   · exact .inr ⟨by omega,hj⟩
   · exact .inr ⟨by omega,hj⟩
   · exact .inr ⟨by omega,hj⟩)
 refine Ab (Aa ?_)
 refine p1 (Bn rfl rfl) ?_
 refine pA (Ac (t_n ?_))
 refine As rfl (fun hc24=>?_) (fun hc24=>?_)
 ·have hoc:=L7 hc24
  refine Aa ?_
  refine p1 (Bi (fs:=[]) (cs:=[.pointer (some ⟨g1,0,none⟩)]) rfl rfl) ?_
  refine p1 (Bi (fs:=[]) (cs:=[.pointer (some ⟨g1,0,none⟩),.pointer (some ⟨g4,0,none⟩)]) rfl rfl) ?_
  refine p1 (Bi (fs:=[]) (cs:=[.pointer (some ⟨g1,0,none⟩),.pointer (some ⟨g4,0,none⟩)]) rfl rfl) ?_
  refine Au u149 inf95 rfl (by decide) (fun base hb=>Gc [fcv (46,[.pointer (some ⟨g1,0,none⟩)]),fcv (48,[.pointer (some ⟨g1,0,none⟩),.pointer (some ⟨g4,0,none⟩)]),fcv (50,[.pointer (some ⟨g1,0,none⟩),.pointer (some ⟨g4,0,none⟩)])] (by intro v hv';simp only[List.mem_cons,List.not_mem_nil,or_false] at hv';rcases hv' with rfl | rfl | rfl <;> rfl) base hb) ?_
  intro w8 g29 hN29
  have hE8:=hN29.ext
  have hX:=hX.ext hE8
  have hD:=hD.ext hE8
  have hg:=hg.ext hE8
  have hB1:=hB1.ext hE8
  have hM:=hM.ext hE8
  have hB12:=hB12.ext hE8
  have hB4:=hB4.ext hE8
  have hS29:Sl kFn 95 0 w8 (some ⟨g29,0,none⟩) 3 3 [(46,[.pointer (some ⟨g1,0,none⟩)]),(48,[.pointer (some ⟨g1,0,none⟩),.pointer (some ⟨g4,0,none⟩)]),(50,[.pointer (some ⟨g1,0,none⟩),.pointer (some ⟨g4,0,none⟩)])]:=(Cw (B0:=0) ([(46,[.pointer (some ⟨g1,0,none⟩)]),(48,[.pointer (some ⟨g1,0,none⟩),.pointer (some ⟨g4,0,none⟩)]),(50,[.pointer (some ⟨g1,0,none⟩),.pointer (some ⟨g4,0,none⟩)])]:List Clo) hN29 (Nat.zero_le _) (by simp)).sl
  have hXs:=hX.size
  refine Ah Tryz.func45 fn45 fb45 (Lz [(46,[.pointer (some ⟨g1,0,none⟩)]),(48,[.pointer (some ⟨g1,0,none⟩),.pointer (some ⟨g4,0,none⟩)]),(50,[.pointer (some ⟨g1,0,none⟩),.pointer (some ⟨g4,0,none⟩)])] [fun D=>cleanD D (toStr []),fun D=>Bk D (nSeg 1),fun D=>writeM D ⟨1,0,[]⟩] (fun i=>D.steps+64 * i) gd (fun j=>S j∧j<w.heap.size) D _ _ _ _ hD (⟨hok,Nat.le_refl _,hle,hnm⟩) hS29 rfl (fun i hi=>?_)) rfl ?_
  · rcases i with _ | _ | _ | i
    · exact⟨Tryz.f46,Tryz.func46,fn46,fb46,fun Di w1 hDi m hgi=>(Afa gd _ Di w1 hDi hgi.ok (Nat.lt_of_le_of_lt hgi.steps (by show _+_<_;omega)) hgi.left hgi.names (Hq hS1 (by omega)) (hg.modS m hS1) g1 (hB1.modS m (.inr (by decide)))).dg ((Good.cleanD hgi _).mono (by show D.steps+64 * 0+64≤D.steps+64 * 1;omega))⟩
    · exact⟨Tryz.f48,Tryz.func48,fn48,fb48,fun Di w1 hDi m hgi=>(Ae9 gd _ Di w1 hDi hgi.ok (Nat.lt_of_le_of_lt hgi.steps (by show _+_<_;omega)) hgi.left hgi.names (Hq hS1 (by omega)) (hg.modS m hS1) g1 g4 g12 _ (hB1.modS m (.inr (by decide))) (hB4.modS m (.inr (by decide))) (hB12.modS m (.inr (by decide))) rfl).dg ((Good.create hgi _).mono (by show D.steps+64 * 1+1≤D.steps+64 * 2;omega))⟩
    · exact⟨Tryz.f50,Tryz.func50,fn50,fb50,fun Di w1 hDi m hgi=>(Ae8 gd _ Di w1 hDi hgi.ok (Nat.lt_of_le_of_lt hgi.steps (by show _+_<_;omega)) hgi.left hgi.names (Hq hS1 (by omega)) (hg.modS m hS1) g1 g4 g12 _ (hB1.modS m (.inr (by decide))) (hB4.modS m (.inr (by decide))) (hB12.modS m (.inr (by decide))) rfl).dg ((Good.writeM hgi ⟨1,0,[]⟩).mono (by show D.steps+64 * 2+4≤D.steps+64 * 3;omega))⟩
    · exact absurd hi (by omega)
  rintro v9 w9 ⟨rfl,hD2,hM2⟩
  have hM8:=hM.lt
  have hB12:=hB12.modS hM2 (.inr (by decide))
  have hB4:=hB4.modS hM2 (.inr (by decide))
  have hMs:=hM2.size
  have hXw:=hX.size
  have hX:=hX.trans (hM2.wideE fun k h=>h) (fun j hj h=>h.1)
  have hMz:=(hM.lower (Nat.zero_le _)).turn hM2 (fun h=>by have:=h.2;omega) rfl
  have hl12:=hB12.lt
  refine pA (Ac (b_n (t_n (Ab (Ab (Aa ?_))))))
  refine pM ?_
  refine p1 (A2 rfl rfl) ?_
  refine Ac (t_n ?_)
  refine As rfl (fun hc32=>?_) (fun hc32=>?_)
  ·refine Ab (Aa ?_)
   refine pM (pA (pA (Ac (t_n (Ak (t_r ?_))))))
   refine eR2 ?_
   (rw[hoc];exact⟨⟨_,rfl,.inr ⟨hc32,rfl,hD2.mono (fun j hj h=>h.imp (fun h=>h.1) fun ⟨a,_⟩=>⟨by omega,hj⟩)⟩⟩,hX⟩)
  refine Ai (t_n (Ab (Aa ?_)))
  refine p1 (Ae un30 rfl (hB4.cell (rfl))) ?_
  refine pA (pA (Ac (t_n (Ak ?_))))
  refine eR2 ?_
  (rw[hoc]
   have h0:(runD openOps D).2=0:=by exact Classical.byContradiction hc32
   refine⟨⟨_,by rw[h0],.inl ⟨h0,_,rfl,grow (fun j=>S j∧j<w.heap.size) _ _,g10,_,none,0,0,none,⟨fun k h=>?_,hD2,hB12,hMz,Chs.none_ _ _,FB.nil _ _,.inr ⟨by omega,hl12⟩,.inr ⟨by omega,hMz.lt⟩,fun h=>?_,rfl⟩⟩⟩,hX⟩
   · exact h.imp (fun h=>h.1) fun ⟨a,b⟩=>⟨by omega,b⟩
   · rcases h with h | ⟨h, _⟩
     · have:=h.2;omega
     · omega)
 have hoc:=Ze hc19 hc24
 refine Ai (b_n (t_n (Ab (Ab (Aa ?_)))))
 refine pM ?_
 refine p1 (A2 rfl rfl) ?_
 refine Ac (t_n ?_)
 refine As rfl (fun hc32=>?_) (fun hc32=>?_)
 ·refine Ab (Aa ?_)
  refine pM (pA (pA (Ac (t_n (Ak (t_r ?_))))))
  refine eR2 ?_
  (rw[hoc];exact⟨⟨_,rfl,.inr ⟨hc32,rfl,hD.mono (fun j hj h => .inl h.1)⟩⟩,hX⟩)
 refine Ai (t_n (Ab (Aa ?_)))
 refine p1 (Ae un30 rfl (hB4.cell (rfl))) ?_
 refine pA (pA (Ac (t_n (Ak ?_))))
 refine eR2 ?_
 exact absurd (by omega:(readD D nMan).2=0) hc19
end Go.Proofs.Eng
end
section
set_option maxRecDepth 100000
set_option maxHeartbeats 4000000
namespace Go.Proofs.Eng
open Go.RowKit
open Extern.Stop (cell)
theorem K5 (xs:List Hash) (B:Nat) (p:Option Addr) (n c:Nat) (w:World) (hl:Sl kHash 64 B w p n c xs) (hs:n≤4194304000) :
    Ret Tryz.prog 88 [.slice p n c] w (fun v w'=>(∃ q c',v = .slice q n c'∧Own kHash 64 0 w.heap.size w' q n c' xs)∧Ext w w'):=by
 have hX:=Ext.refl w
 refine eN 8 Tryz.func88 ?_
 refine Ab (Aa ?_)
 refine pA (Ac (t_n (Ab (Ab (Aa ?_)))))
 refine pM ?_
 refine p1 (D9 u54 rfl rfl) ?_
 refine Ac (t_n ?_)
 refine As rfl (fun hc4=>?_) (fun hc4=>?_)
 ·have hn:n=0:=by
    rcases Nat.eq_zero_or_pos n with h | h
    · exact h
    · have:=hl.adr Cb h;rw[hc4] at this;cases this
  have hx0:xs=[]:=List.eq_nil_of_length_eq_zero (by rw[hl.len,hn])
  have hp:Own kHash 64 0 w.heap.size w none 0 0 xs:=by rw[hx0];exact Own.nil _ _ _ _ _
  refine Ab (Aa ?_)
  refine pA (Ac (t_n (Ak (t_r ?_))))
  refine eR1 ?_
  (subst hn;exact⟨⟨none,0,rfl,hp⟩,hX⟩)
 refine Ai (t_n (Ab (Aa ?_)))
 refine Au u54 inf64 rfl (by decide) (fun base hb=>by have h0:base=#[]:=Array.eq_empty_of_size_eq_zero (by simpa using hb);subst h0;rfl) ?_
 intro w1 g5 hN5
 have hE1:=hN5.ext
 have hX:=hX.ext hE1
 have hO:Own kHash 64 0 w.heap.size w1 (some ⟨g5,0,none⟩) 0 0 []:=Own.made kHash 64 0 _ hN5 [] [] 0 0 rfl trivial (by have:=hX.size;have:=hN5.g_eq;have:=hN5.ext.size;omega) (by omega) (by omega) (by rfl) (by simp)
 refine pM ?_
 have hB0:=hX.size
 have hl2:=hl.ext hX
 refine Bv (d:=kHash) (xs) u54 inf64 rfl Cb rfl rfl hO (C6 u54 hl2 (by decide)) hl.len (It _ _ _) (rfl) (by omega) (by omega) (by omega) (by omega) (by decide) ?_
 intro p7 c7 w2 hO hM2
 have hX:=hX.mod hM2 (Nat.le_refl _)
 refine pA (Ac (t_n (Ak ?_)))
 refine eR1 ?_
 exact⟨⟨_,_,by rw[Nat.zero_add],by rw[List.nil_append,Nat.zero_add] at hO;exact hO⟩,hX⟩
theorem Kc (xs:List Hash) (B0:Nat) (p:Option Addr) (n c:Nat) (w:World) (hO:Own kHash 64 0 B0 w p n c xs) :
    Ret Tryz.prog 91 [.slice p n c] w (fun v w'=>∃ m,m≤n∧v = .slice p m c∧Own kHash 64 0 B0 w' p m c (cpt xs n)∧Mod B0 64 w w'):=by
 have hX:=Mod.refl B0 64 w
 refine eN 61 Tryz.func91 ?_
 refine Ab (Aa ?_)
 refine pA (Ac (t_n (Ab (Ab ?_))))
 have hlen:=hO.len
 have hsm:=hO.small
 refine Aa ?_
 refine pM ?_
 refine p1 (Aj u54 rfl) ?_
 refine p1 (Bx rfl rfl) ?_
 refine Ac (t_n ?_)
 refine As rfl (fun hc8=>?_) (fun hc8=>?_)
 ·have hp:cpt xs n=xs:=by rw[Lx n (by omega) (fun i h1 h2=>by omega),List.take_of_length_le (by omega)]
  refine Ab (Aa ?_)
  refine pM (pA (Ac (t_n (Ak (t_r ?_)))))
  refine eR1 ?_
  exact⟨n,Nat.le_refl _,rfl,(by rw[hp];exact hO),hX⟩
 refine Ai (t_n (Ab (Ab (Aa ?_))))
 refine pA (Ac (t_n (Am ?_)))
 have hWL0:=Ext.refl w
 refine Bg (ι:=Nat) [2,3,4,5,10,11,12,13,14,15,16,17,18,19,20,21,22,23,24,25,26,27,28,29,30,31,32,33,34,35,36,37,38,39,40,41,42,43,44,45,46,47,48,49,50,51,52,53,54,55,56,57,58,59] (fun k=>[(3,.int .i64 (k:Int))]) (fun k w'=>Ext w w'∧(1≤k∧k≤n∧∀ i,0<i→i<k→xs.getD i default≠xs.getD (i - 1) default)) (fun k=>n - k) (1) ⟨rfl,trivial⟩ ⟨Ext.refl _,⟨by omega,by omega,fun i h1 h2=>by omega⟩⟩ ?_
 rintro k GL0 w1 ⟨hE1,hk1,hkn,hL⟩
 have hX:=hX.ext hE1
 have hO:=hO.ext hE1
 have hWL0:=hE1
 refine Ab (Ab (Aa ?_))
 refine pM (pM ?_)
 refine p1 (Aj u54 rfl) ?_
 refine p1 (Bx rfl rfl) ?_
 refine Ac (t_n ?_)
 refine As rfl (fun hc13=>?_) (fun hc13=>?_)
 ·refine Ai (t_n (Ab (Am (Ab ?_))))
  refine Du mixed (by kernel_rfl) ?_
  intro w2 hE2
  have hX:=hX.ext hE2
  have hO:=hO.ext hE2
  have hWL0:=hWL0.ext hE2
  refine s1 (Al (by conv=>lhs;whnf)) ?_
  refine s1 (Al (by conv=>lhs;whnf)) ?_
  refine s1 (Fd u54 sz64 rfl rfl (hO.sl.adr Cb (by omega)) (by omega) (by omega)) ?_
  refine s1 (C9 ua64 rfl (G0 sz64 _) (hO.sl.hashAt _ (by omega) (by omega))) ?_
  refine s1 (Al (by conv=>lhs;whnf)) ?_
  refine s1 (Al (by conv=>lhs;whnf)) ?_
  refine s1 (Cz rfl rfl (Ag (by omega) (by omega))) ?_
  refine s1 (Fd u54 sz64 rfl rfl (hO.sl.adr Cb (by omega)) (by omega) (by omega)) ?_
  refine s1 (C9 ua64 rfl (G0 sz64 _) (hO.sl.hashAt _ (by omega) (by omega))) ?_
  refine s1 (Fv u64 u5 sz5 eg64 rfl rfl (xs.getD _ default).2 (xs.getD _ default).2) ?_
  refine Ca (t_n ?_)
  refine As rfl (fun hc25=>?_) (fun hc25=>?_)
  ·have hq:xs.getD k default=xs.getD (k - 1) default:=by have:=Subtype.ext hc25;rw[show ((k:Int) - 1).toNat=k - 1 from by omega,Int.toNat_natCast] at this;exact this
   have hq2:cpt xs (k+1)=xs.take k:=by rw[Ack (by omega) hq,Lx k (by omega) hL]
   refine Ab (Aa ?_)
   refine pM (pM ?_)
   refine p1 (Es u54 sz64 rfl rfl (by omega)) ?_
   refine pA (Ac (t_n (Ab (Ab (Aa ?_)))))
   refine pA (Ac (t_n (Am ?_)))
   refine Bg (ι:=Nat×Nat×List Hash) [3,5,29,30,31,32,33,34,35,36,37,38,39,40,41,42,43,44,45,46,47,48,49,50,51,52,53] (fun (j,m,zs)=>[(3,.int .i64 (m:Int)),(5,.int .i64 (j:Int))]) (fun (j,m,zs) w'=>Mod B0 64 w w'∧(Own kHash 64 0 B0 w' p n c zs∧1≤j∧k+j≤n∧m<k+j∧m=(cpt xs (k+j)).length∧zs.take m=cpt xs (k+j)∧zs.drop (k+j - 1)=xs.drop (k+j - 1))) (fun (j,m,zs)=>n - k - j) ((1,k,xs)) ⟨rfl,rfl,trivial⟩ ⟨hX,⟨hO,by omega,by omega,by omega,by rw[hq2,List.length_take];omega,hq2.symm,rfl⟩⟩ ?_
   rintro⟨j,m,zs⟩ GL2 w3 ⟨hE3,hO,hj1,hjn,hmk,hml,hmt,hmd⟩
   have hX:=hE3
   refine Ab (Ab (Aa ?_))
   refine pM (pM ?_)
   refine p1 (Aj u54 rfl) ?_
   refine p1 (Bx rfl rfl) ?_
   refine Ac (t_n ?_)
   refine As rfl (fun hc32=>?_) (fun hc32=>?_)
   ·refine Ai (t_n (Ab (Am (Ab ?_))))
    have hlz:=hO.len
    have ez:∀ i,k+j - 1≤k+i→(zs.drop k).getD i default=xs.getD (k+i) default:=fun i hi=>by
      have h1:=congrArg (fun l=>l.getD (k+i - (k+j - 1)) default) hmd
      simp only[List.getD_eq_getElem?_getD,List.getElem?_drop] at h1 ⊢
      rw[show k+j - 1+(k+i - (k+j - 1))=k+i from by omega] at h1
      exact h1
    refine Du mixed (by kernel_rfl) ?_
    intro w4 hE4
    have hX:=hX.ext hE4
    have hO:=hO.ext hE4
    refine s1 (Al (by conv=>lhs;whnf)) ?_
    refine s1 (Al (by conv=>lhs;whnf)) ?_
    refine s1 (Fd u54 sz64 rfl rfl ((hO.sl.dropI k (by omega)).adr Cb (by omega)) (by omega) (by omega)) ?_
    refine s1 (C9 ua64 rfl (G0 sz64 _) ((hO.sl.dropI k (by omega)).hashAt _ (by omega) (by omega))) ?_
    refine s1 (Al (by conv=>lhs;whnf)) ?_
    refine s1 (Al (by conv=>lhs;whnf)) ?_
    refine s1 (Cz rfl rfl (Ag (by omega) (by omega))) ?_
    refine s1 (Fd u54 sz64 rfl rfl ((hO.sl.dropI k (by omega)).adr Cb (by omega)) (by omega) (by omega)) ?_
    refine s1 (C9 ua64 rfl (G0 sz64 _) ((hO.sl.dropI k (by omega)).hashAt _ (by omega) (by omega))) ?_
    refine s1 (Ms u64 u5 sz5 eg64 rfl rfl ((zs.drop k).getD _ default).2 ((zs.drop k).getD _ default).2) ?_
    refine Ca (t_n ?_)
    refine As rfl (fun hc44=>?_) (fun hc44=>?_)
    ·have hne:xs.getD (k+j) default≠xs.getD (k+j - 1) default:=fun e=>hc44 (by rw[show ((j:Int) - 1).toNat=j - 1 from by omega,Int.toNat_natCast,ez j (by omega),ez (j - 1) (by omega),show k+(j - 1)=k+j - 1 from by omega,e])
     have hcp:cpt xs (k+j+1)=cpt xs (k+j)++[xs.getD (k+j) default]:=Afv hne
     have ey:(zs.drop k).getD ((j:Int)).toNat default=xs.getD (k+j) default:=by rw[Int.toNat_natCast,ez j (by omega)]
     refine Ab (Aa ?_)
     refine pM (pM (pM (pM ?_)))
     refine p1 (Fd u54 sz64 rfl rfl ((hO.sl.dropI k (by omega)).adr Cb (by omega)) (by omega) (by omega)) ?_
     refine p1 (C9 ua64 rfl (G0 sz64 _) ((hO.sl.dropI k (by omega)).hashAt _ (by omega) (by omega))) ?_
     refine p1 (Fd u54 sz64 rfl rfl (hO.sl.adr Cb (by omega)) (by omega) (by omega)) ?_
     refine Zf (d:=kHash) (i:=m) ((zs.drop k).getD ((j:Int)).toNat default) rfl rfl hO (by omega) rfl sz64 (Nat.zero_le _) (by decide) ?_
     intro w5 hO hM5
     have hX:=hX.mod hM5 (trivial)
     refine Ac (t_n (Aa ?_))
     refine pM ?_
     refine p1 (Aw rfl rfl (Ag (by omega) (by omega))) ?_
     refine pA (Ac (b_n (t_n (Aa ?_))))
     refine pM ?_
     refine p1 (Aw rfl rfl (Ag (by omega) (by omega))) ?_
     refine pA (Ac ?_)
     exact t_n (At.mk ((j+1,m+1,zs.set m ((zs.drop k).getD ((j:Int)).toNat default))) (by repeat (first | exact Agr.refl _ _ | exact Agr.hav _ _ _ | refine Agr.upd rfl ?_ | refine Agr.updR rfl ?_ | refine Agr.updL ?_ _ rfl | refine Agr.hav' rfl ?_)) ⟨rfl,rfl,trivial⟩ ⟨⟨hX,hO,by omega,by omega,by omega,by rw[← Nat.add_assoc,hcp,List.length_append,← hml];rfl,by rw[← Nat.add_assoc,hcp,ey,List.take_succ_eq_append_getElem (by rw[List.length_set];omega),List.getElem_set_self,List.take_set_of_le (Nat.le_refl _),hmt],by rw[List.drop_set_of_lt (by omega)];exact R0 hmd (by omega)⟩,by(dsimp only;omega)⟩)
    have heq:xs.getD (k+j) default=xs.getD (k+j - 1) default:=by
      have h1:=Subtype.ext (Classical.byContradiction hc44)
      rw[show ((j:Int) - 1).toNat=j - 1 from by omega,Int.toNat_natCast,ez j (by omega),ez (j - 1) (by omega),show k+(j - 1)=k+j - 1 from by omega] at h1
      exact h1
    have hcp:cpt xs (k+j+1)=cpt xs (k+j):=Ack (by omega) heq
    refine Ai (b_n (t_n (Aa ?_)))
    refine pM ?_
    refine p1 (Aw rfl rfl (Ag (by omega) (by omega))) ?_
    refine pA (Ac ?_)
    exact t_n (aK ((j+1,m,zs)) ⟨rfl,rfl,trivial⟩ ⟨⟨hX,hO,by omega,by omega,by omega,by rw[← Nat.add_assoc,hcp];exact hml,by rw[← Nat.add_assoc,hcp];exact hmt,R0 hmd (by omega)⟩,by(dsimp only;omega)⟩)
   have hjj:k+j=n:=by omega
   have hlz:=hO.len
   rw[hjj] at hmt
   refine Ba (t_e (t_e (Bu (t_n (Ab (Aa ?_))))))
   refine pM (pM ?_)
   refine p1 (Es u54 sz64 rfl rfl (by omega)) ?_
   refine Adr (d:=kHash) u54 inf64 rfl (by decide) Cb rfl hO (by omega) (Nat.zero_le _) (by decide) ?_
   intro w6 hO hM6
   have hX:=hX.mod hM6 (trivial)
   refine Ac (t_n (Ab (Aa ?_)))
   refine pM (pM ?_)
   refine p1 (D8 u54 sz64 rfl rfl (by omega)) ?_
   refine pA (Ac (t_n (Ak (b_r (t_r (t_r (b_r (t_r ?_))))))))
   refine eR1 ?_
   exact⟨m,by omega,rfl,(by rw[← hmt];exact hO),hX⟩
  have hq:xs.getD k default≠xs.getD (k - 1) default:=fun e=>hc25 (by rw[show ((k:Int) - 1).toNat=k - 1 from by omega,Int.toNat_natCast,e])
  refine Ai (b_n (t_n (Aa ?_)))
  refine pM ?_
  refine p1 (Aw rfl rfl (Ag (by omega) (by omega))) ?_
  refine pA (Ac ?_)
  refine t_n (aK (k+1) ⟨rfl,trivial⟩ ?_)
  exact⟨⟨hWL0,⟨by omega,by omega,fun i h1 h2=>if h:i<k then hL i h1 h else by rw[show i=k from by omega];exact hq⟩⟩,by((show _<_);omega)⟩
 have hp:cpt xs n=xs:=by rw[Lx n (by omega) (fun i h1 h2=>hL i h1 (by omega)),List.take_of_length_le (by omega)]
 refine Ba (t_e (t_e (Bu (t_n (Ab (Aa ?_))))))
 refine pM (pA (Ac (t_n (Ak ?_))))
 refine eR1 ?_
 exact⟨n,Nat.le_refl _,rfl,(by rw[hp];exact hO),hX⟩
end Go.Proofs.Eng
end
section
set_option maxRecDepth 100000
set_option maxHeartbeats 4000000
namespace Go.Proofs.Eng
open Go.RowKit
open Extern.Stop (cell)
theorem F1 (xs:List Hash) (B:Nat) (p:Option Addr) (n c:Nat) (w:World) (hl:Sl kHash 64 B w p n c xs) (hs:n≤4194304000) :
    Ret Tryz.prog 39 [.slice p n c] w (fun v w'=>(∃ q m c',v = .slice q m c'∧m≤n∧Own kHash 64 0 w.heap.size w' q m c' (srt xs))∧Ext w w'):=by
 have hX:=Ext.refl w
 refine eN 10 Tryz.func39 ?_
 refine Ab (Aa ?_)
 refine pA (Ac (t_n (Ab (Aa ?_))))
 refine pM ?_
 refine Ah Tryz.func88 fn88 fb88 (K5 xs B p n c _ (hl.ext hX) hs) rfl ?_
 rintro v1 w1 ⟨⟨q,c1,rfl,hO⟩,hE1⟩
 have hX:=hX.ext hE1
 refine pA (Ac (t_n (Ab (Aa ?_))))
 refine pM ?_
 refine Ah Tryz.func89 fn89 fb89 (Ig xs _ _ _ _ _ hO hs) rfl ?_
 rintro v2 w2 ⟨ys,hO,hpm,hso,hM2⟩
 have hX:=hX.mod hM2 (Nat.le_refl _)
 refine Ac (t_n (Ab (Aa ?_)))
 refine pM ?_
 refine Ah Tryz.func91 fn91 fb91 (Kc ys _ _ _ _ _ hO) rfl ?_
 rintro v3 w3 ⟨m,hm,rfl,hO2,hM3⟩
 have hX:=hX.mod hM3 (Nat.le_refl _)
 refine pA (Ac (t_n (Ak ?_)))
 refine eR1 ?_
 exact⟨⟨_,_,_,rfl,hm,by rw[← Ada hpm hso hO.len];exact hO2⟩,hX⟩
theorem Va (xs ys:List Hash) (B B2:Nat) (p q:Option Addr) (n c m c2:Nat) (w:World) (ha:Sl kHash 64 B w p n c xs) (hb:Sl kHash 64 B2 w q m c2 ys) :
    Ret Tryz.prog 41 [.slice p n c,.slice q m c2] w (fun v w'=>v = .bool (decide (xs=ys))∧Ext w w'):=by
 have hX:=Ext.refl w
 refine eN 8 Tryz.func41 ?_
 refine Ab (Aa ?_)
 refine pA (Ac (t_n (Ab (Aa ?_))))
 refine pM (pM ?_)
 refine Ah Tryz.func92 fn92 fb92 (K4 xs ys _ _ _ _ _ _ _ _ _ (ha.ext hX) (hb.ext hX)) rfl ?_
 rintro v1 w1 ⟨rfl,hE1⟩
 have hX:=hX.ext hE1
 refine pA (Ac (t_n (Ak ?_)))
 refine eR1 ?_
 exact⟨rfl,hX⟩
end Go.Proofs.Eng
end
section
set_option maxRecDepth 100000
set_option maxHeartbeats 4000000
namespace Go.Proofs.Eng
open Go.RowKit
open Extern.Stop (cell)
theorem Pg (xs:List Hash) (B:Nat) (p:Option Addr) (n c:Nat) (w:World) (hl:Sl kHash 64 B w p n c xs) (hs:n≤4194304000) :
    Ret Tryz.prog 204 [.slice p n c] w (fun v w'=>(∃ g,v = .map (some g)∧Mp Bf vBool 0 w.heap.size w' g (inS xs))∧Ext w w'):=by
 have hX:=Ext.refl w
 refine eN 19 Tryz.func204 ?_
 refine Ab (Aa ?_)
 refine pA (Ac (t_n (Ab (Aa ?_))))
 refine pM ?_
 refine p1 (Aj u54 rfl) ?_
 have hXs:=hX.size
 refine Zg (κ:=Hash) (ν:=Bool) u164 rfl ?_
 intro w1 g8 hE1 hK8
 have hX:=hX.ext hE1
 have hM:=hK8 Bf vBool 0 w.heap.size (hXs)
 refine pA (Ac (t_n (Ab (Ab (Aa ?_)))))
 refine pM ?_
 refine p1 (Aj u54 rfl) ?_
 refine pM (Ac (t_n (Am ?_)))
 have hlen:=hl.len
 have hfit:=hl.fit
 have hcap:=hl.cap
 refine Bg (ι:=Nat) [5,11,12,13,14,15,16,17] (fun k=>[(11,.int .i64 (k:Int))]) (fun k w'=>Ext w w'∧(Mp Bf vBool 0 w.heap.size w' g8 (inS (xs.take k))∧k≤n)) (fun k=>n - k) (0) ⟨rfl,trivial⟩ ⟨hX,⟨hM.congr (fun z=>by simp[inS]),by omega⟩⟩ ?_
 rintro k GL0 w2 ⟨hE2,hM,hk⟩
 have hX:=hE2
 refine Ab (Aa ?_)
 refine p1 (Bx rfl rfl) ?_
 refine Ac (t_n (Ab ?_))
 refine As rfl (fun hc12=>?_) (fun hc12=>?_)
 ·refine Ai (t_n (Ab (Am (Ab (Aa ?_)))))
  refine p1 (Fd u54 sz64 rfl rfl ((hl.ext hX).adr Cb (by omega)) (by omega) (by omega)) ?_
  refine p1 (C9 ua64 rfl (G0 sz64 _) ((hl.ext hX).hashAt _ (by omega) (by omega))) ?_
  have hXs:=hX.size
  refine A6 zr64 ?_
  intro w3 g5 hN5
  have hE3:=hN5.ext
  have hX:=hX.ext hE3
  have hM:=hM.ext hE3
  have hB5:=hN5.blk
  refine Az rfl rfl (Cm _) (B4 sz64 _) hB5 (Dl _) ?_
  intro w4 hP4
  have hX:=hX.put hP4 (by have:=hN5.g_eq;omega)
  have hM:=hM.mod (hP4.mod 0 (Nat.zero_le _)) (Nat.zero_le _) (by decide)
  have hB5:=hP4.blk
  refine Ac (t_n (Aa ?_))
  refine pM ?_
  refine p1 (Bh ua64 rfl hB5 (B4 sz64 _)) ?_
  refine U0 (a:=xs.getD k default) (b:=true) u164 (Cg u64 u5 sz5) rfl rfl (by conv=>lhs;whnf) hM (rfl) (Nat.zero_le _) (by decide) ?_
  intro w5 hM hM5
  have hX:=hX.mod hM5 (Nat.le_refl _)
  refine Ac (b_n (t_n (Aa ?_)))
  refine p1 (Aw rfl rfl (Ag (by omega) (by omega))) ?_
  refine pM (Ac ?_)
  refine t_n (aK (k+1) ⟨rfl,trivial⟩ ?_)
  exact⟨⟨hX,⟨hM.congr (Aby (by omega)),by omega⟩⟩,by((show _<_);omega)⟩
 have hkn:k=n:=by omega
 rw[hkn,List.take_of_length_le (by omega)] at hM
 refine Ba (t_e (t_e (Bu (t_n (Ab (Aa ?_))))))
 refine pM (pA (Ac (t_n (Ak ?_))))
 refine eR1 ?_
 exact⟨⟨_,rfl,hM⟩,hX⟩
theorem Tb (xs ys:List Hash) (inn:Bool) (B B2:Nat) (p q:Option Addr) (n c m c2:Nat) (w:World) (ha:Sl kHash 64 B w p n c xs) (hb:Sl kHash 64 B2 w q m c2 ys) (hs:n≤4194304000) (hs2:m≤4194304000) :
    Ret Tryz.prog 161 [.slice p n c,.slice q m c2,.bool inn] w (fun v w'=>(∃ q m c',v = .slice q m c'∧m≤n∧Own kHash 64 0 w.heap.size w' q m c' (srt (sel ys inn xs)))∧Ext w w'):=by
 have hX:=Ext.refl w
 refine eN 30 Tryz.func161 ?_
 refine Ab (Aa ?_)
 refine pA (Ac (t_n (Ab (Aa ?_))))
 refine pM ?_
 have hXs:=hX.size
 refine Ah Tryz.func204 fn204 fb204 (Pg ys _ _ _ _ _ (hb.ext hX) hs2) rfl ?_
 rintro v1 w1 ⟨⟨g1,rfl,hMb⟩,hE1⟩
 have hX:=hX.ext hE1
 have hMb:=hMb.lower hXs
 refine pA (Ac (t_n (Ab (Aa ?_))))
 refine pA (Ac (t_n (Ab (Ab (Aa ?_)))))
 refine pM ?_
 have hXs:=hX.size
 refine Ah Tryz.func204 fn204 fb204 (Pg xs _ _ _ _ _ (ha.ext hX) hs) rfl ?_
 rintro v2 w2 ⟨⟨g2,rfl,hMa⟩,hE2⟩
 have hX:=hX.ext hE2
 have hMb:=hMb.ext hE2
 have hMa:=hMa.lower hXs
 have hXs:=hX.size
 refine Ju u164 rfl hMa ?_
 intro w3 it14 hE3 hit14 hK14
 have hX:=hX.ext hE3
 have hMb:=hMb.ext hE3
 have hR:=hK14 w.heap.size (hXs)
 refine Ac (t_n (Am ?_))
 have hlen:=ha.len
 have hfit:=ha.fit
 have hcap:=ha.cap
 refine Bg (ι:=List Hash×Option Addr×Nat×Nat) [8,9,15,16,17,18,19,20,21,22,23,24,25,26,27] (fun (vs,q3,m3,c3)=>[(8,.slice q3 m3 c3)]) (fun (vs,q3,m3,c3) w'=>Ext w w'∧(Rg Bf vBool 0 w.heap.size w' g2 it14 (inS xs) vs∧Mp Bf vBool 0 w.heap.size w' g1 (inS ys)∧Own kHash 64 0 w.heap.size w' q3 m3 c3 (sel ys inn vs))) (fun (vs,q3,m3,c3)=>n - vs.length) (([],none,0,0)) ⟨rfl,trivial⟩ ⟨hX,⟨hR,hMb,Own.nil _ _ _ _ _⟩⟩ ?_
 rintro⟨vs,q3,m3,c3⟩ GL0 w4 ⟨hE4,hR,hMb,hO⟩
 have hX:=hE4
 have hvx:∀ z∈vs,z∈xs:=fun z hz=>Pd.1 (hR.sub z hz)
 have hvl:=Fz hR.nd hvx
 have hml:=hO.len
 have hsl:=Adh ys inn vs
 refine Ab (Aa ?_)
 refine O7 rfl hR (Nat.zero_le _) (by decide) (fun hdone15=>?_) (fun w5 a15 b15 v15 hna15 hmu15 hR hM5=>?_)
 ·skip
  refine p1 (Ao rfl rfl) ?_
  refine Ac (t_n (Ab ?_))
  refine c_f rfl ?_
  have hall:∀ z∈xs,z∈vs:=fun z hz=>hdone15 z (Pd.2 hz)
  refine Ba (t_e (t_e (Bu (t_n (Ab (Aa ?_))))))
  refine pM ?_
  have hXs:=hX.size
  refine Ah Tryz.func39 fn39 fb39 (F1 (sel ys inn vs) _ _ _ _ _ hO.sl (by omega)) rfl ?_
  rintro v6 w6 ⟨⟨q4,m4,c4,rfl,hm4,hS⟩,hE6⟩
  have hX:=hX.ext hE6
  rw[Ue hvx hall] at hS
  have hS:=hS.lower hXs
  refine pA (Ac (t_n (Ak ?_)))
  refine eR1 ?_
  exact⟨⟨_,_,_,rfl,by omega,hS⟩,hX⟩
 skip
 have hX:=hX.mod hM5 (Nat.le_refl _)
 have hMb:=hMb.mod hM5 (Nat.zero_le _) (by decide)
 have hO:=hO.mod hM5 (Nat.zero_le _) (by decide)
 have hvl2:=Fz hR.nd (fun z hz=>Pd.1 (hR.sub z hz))
 simp only[List.length_append,List.length_cons,List.length_nil] at hvl2
 refine p1 (Ao rfl rfl) ?_
 refine Ac (t_n (Ab ?_))
 refine c_t rfl ?_
 refine Ai (t_n (Am (Ab ?_)))
 have hOlt0:=hO.below
 obtain⟨b17,v17,hb17,hv17,hen17⟩:=hR.entry
 refine Aa ?_
 refine p1 (hen17 rfl) ?_
 refine p1 (Ao rfl rfl) ?_
 have hXs:=hX.size
 refine A6 zr64 ?_
 intro w7 g9 hN9
 have hE7:=hN9.ext
 have hX:=hX.ext hE7
 have hMb:=hMb.ext hE7
 have hO:=hO.ext hE7
 have hR:=hR.ext hE7
 have hB9:=hN9.blk
 have hOlt:q3=none∨ab q3<g9:=by rw[hN9.g_eq];exact hOlt0
 refine Az rfl rfl (Cm _) (B4 sz64 _) hB9 (Dl _) ?_
 intro w8 hP8
 have hX:=hX.put hP8 (by have:=hN9.g_eq;omega)
 have hMb:=hMb.mod (hP8.mod 0 (Nat.zero_le _)) (Nat.zero_le _) (by decide)
 have hO:=hO.modB (hP8.mod g9 (Nat.le_refl _)) (Nat.zero_le _) (by decide) hOlt
 have hR:=hR.mod (hP8.mod 0 (Nat.zero_le _)) (Nat.zero_le _) (by decide)
 have hB9:=hP8.blk
 refine Ac (t_n (Ab (Aa ?_)))
 refine pM ?_
 refine p1 (Bh ua64 rfl hB9 (B4 sz64 _)) ?_
 refine p1 ((Kd u164 zr4 (Cg u64 u5 sz5) rfl rfl hMb).cast (congrArg Value.bool (Ad2 ys a15))) ?_
 refine pM ?_
 refine p1 (V7 u4 rfl rfl) ?_
 refine Ac (t_n ?_)
 refine As rfl (fun hc23=>?_) (fun hc23=>?_)
 ·have hsn:=Uh ys inn vs a15
  rw[if_pos hc23] at hsn
  refine Aa ?_
  refine pM ?_
  refine p1 (Bh ua64 rfl hB9 (B4 sz64 _)) ?_
  refine Au u54 inf64 rfl (by decide) (fun base hb=>Gc [.agg (hv a15)] (by intro v hv';simp only[List.mem_singleton] at hv';subst hv';simp[Value.cells,hv,E8]) base hb) ?_
  intro w9 g26 hN26
  have hE9:=hN26.ext
  have hX:=hX.ext hE9
  have hMb:=hMb.ext hE9
  have hO:=hO.ext hE9
  have hR:=hR.ext hE9
  have hJ:Own kHash 64 0 0 w9 (some ⟨g26,0,none⟩) 1 1 [a15]:=Cw [a15] hN26 (Nat.zero_le _) (by simp)
  have hB1:=hX.size
  refine Bv (d:=kHash) ([a15]) u54 inf64 rfl Cb rfl rfl hO (C6 u54 hJ.sl (by decide)) rfl (It _ _ _) (rfl) (by omega) (by omega) (by omega) (by omega) (by decide) ?_
  intro p27 c27 w10 hO hM10
  have hX:=hX.mod hM10 (Nat.le_refl _)
  have hMb:=hMb.mod hM10 (Nat.zero_le _) (by decide)
  have hR:=hR.mod hM10 (Nat.zero_le _) (by decide)
  refine pA (Ac (b_n ?_))
  exact t_n (aK ((vs++[a15],p27,m3+1,c27)) ⟨rfl,trivial⟩ ⟨⟨hX,⟨hR,hMb,by rw[hsn];exact hO⟩⟩,by show n - (vs++[a15]).length<n - vs.length;simp only[List.length_append,List.length_cons,List.length_nil];omega⟩)
 have hsn:=Uh ys inn vs a15
 rw[if_neg hc23] at hsn
 refine Ai (b_n ?_)
 exact t_n (aK ((vs++[a15],q3,m3,c3)) ⟨rfl,trivial⟩ ⟨⟨hX,⟨hR,hMb,by rw[hsn];exact hO⟩⟩,by show n - (vs++[a15]).length<n - vs.length;simp only[List.length_append,List.length_cons,List.length_nil];omega⟩)
theorem Ll (xs ys:List Hash) (B B2:Nat) (p q:Option Addr) (n c m c2:Nat) (w:World) (ha:Sl kHash 64 B w p n c xs) (hb:Sl kHash 64 B2 w q m c2 ys) (hs:n≤2097152000) (hs2:m≤2097152000) :
    Ret Tryz.prog 117 [.slice p n c,.slice q m c2] w (fun v w'=>(∃ q1 m1 c1,v = .slice q1 m1 c1∧m1≤n+m∧Own kHash 64 0 w.heap.size w' q1 m1 c1 (srt (sel ys false xs)))∧Ext w w'):=by
 have hX:=Ext.refl w
 refine eN 8 Tryz.func117 ?_
 refine Ab (Aa ?_)
 refine pA (Ac (t_n (Ab (Aa ?_))))
 refine pM (pM ?_)
 have hXs:=hX.size
 refine Ah Tryz.func161 fn161 fb161 (Tb xs ys false _ _ _ _ _ _ _ _ _ (ha.ext hX) (hb.ext hX) (by omega) (by omega)) rfl ?_
 rintro v1 w1 ⟨⟨q4,m4,c4,rfl,hm4,hS⟩,hE1⟩
 have hX:=hX.ext hE1
 have hS:=hS.lower hXs
 refine pA (Ac (t_n (Ak ?_)))
 refine eR1 ?_
 exact⟨⟨_,_,_,rfl,by omega,hS⟩,hX⟩
end Go.Proofs.Eng
end
section
set_option maxRecDepth 100000
set_option maxHeartbeats 4000000
namespace Go.Proofs.Eng
open Go.RowKit
open Extern.Stop (cell)
theorem fb125:Tryz.f125.body.isNone=false:=by kernel_rfl
theorem fb160:Tryz.f160.body.isNone=false:=by kernel_rfl
theorem fn125 : ngB Tryz.f125 = false := by kernel_rfl
theorem fn160 : ngB Tryz.f160 = false := by kernel_rfl
theorem sz54:(Tryz.prog.info? 54).map (·.size)=some 1:=by kernel_rfl
theorem un164:(Tryz.prog.underlying 164).map TypeDesc.isRow=some false:=by kernel_rfl
theorem un54:(Tryz.prog.underlying 54).map TypeDesc.isRow=some false:=by kernel_rfl
end Go.Proofs.Eng
end
section
set_option maxRecDepth 100000
set_option maxHeartbeats 4000000
namespace Go.Proofs.Eng
open Go.RowKit
open Extern.Stop (cell)
theorem Zq (r gb N0:Nat) (μ:Hash→Option R3) (hks:∀ vs:List Hash,vs.Nodup→(∀ z∈vs,μ z≠none)→vs.length≤N0) (B9:Nat) (E:List TypeId) (hE:tMap∉E∧tIter∉E) (l:Nat) (J Jx:List Hash→World→Prop) (w:World) (hM:Mp Bf vCh 0 0 w r μ) (hb:Blk w gb #[.map (some r)] 88) (hB9:B9≤w.heap.size)
    (hJ:Hd J (Mod B9 tIter) [] w) (hY:∀ pre x W1,J pre W1→pre.length<N0→YieldAt (fnc none) 0 Tryz.prog l (encH x).toArray W1 fun e W'=>(e = .returned (.bool true)∧J (pre++[x]) W'∧Rnd E W1 W')∨(e = .returned (.bool false)∧Jx (pre++[x]) W')) :
    Ret Tryz.prog 125 [.func (.yield l) #[] #[],.pointer (some ⟨gb,0,none⟩)] w (fun v w'=>(∃ xs,(fun xs:List Hash=>xs.Nodup∧∀ z,z∈xs↔μ z≠none) xs∧J xs w')∨(∃ pre,True∧Jx pre w')):=by
 have hX:=Tv.mk
 refine eN 14 Tryz.func125 ?_
 refine Ab (Aa ?_)
 refine p1 (Ae un88 rfl (hb.cell (rfl))) ?_
 refine Ju u88 rfl hM ?_
 intro w1 it5 hE1 hit5 hK5
 have hX:=hX.ext hE1
 have hJ:=hJ.ext hE1
 have hR:=hK5 B9 hB9
 refine Ac (t_n (Am ?_))
 refine Bg (ι:=List Hash) [3,6,7,8,9,10,11,12,13] (fun vs=>[]) (fun vs w'=>Tv∧(Hd J (Mod B9 tIter) vs w'∧Rg Bf vCh 0 B9 w' r it5 μ vs)) (fun vs=>N0 - vs.length) ([]) trivial ⟨hX,⟨hJ,hR⟩⟩ ?_
 rintro vs GL0 w2 ⟨hE2,hJ,hR⟩
 have hX:=hE2
 have hvl:=hks vs hR.nd hR.sub
 refine Ab (Aa ?_)
 refine O7 rfl hR (Nat.zero_le _) (by decide) (fun hdone6=>?_) (fun w3 a6 b6 v6 hna6 hmu6 hR hM3=>?_)
 ·skip
  refine p1 (Ao rfl rfl) ?_
  refine Ac (t_n (Ab ?_))
  refine c_f rfl ?_
  have hall:∀ z,z∈vs↔μ z≠none:=fun z=>⟨hR.sub z,hdone6 z⟩
  refine Ba (t_e (t_e (Bu ?_)))
  refine end0n rfl ?_
  exact .inl ⟨vs,⟨hR.nd,hall⟩,hJ.h⟩
 skip
 have hX:=Tv.mk
 have hJ:=hJ.rel hM3
 have hvl2:=hks _ hR.nd hR.sub
 simp only[List.length_append,List.length_cons,List.length_nil] at hvl2
 refine p1 (Ao rfl rfl) ?_
 refine Ac (t_n (Ab ?_))
 refine c_t rfl ?_
 refine Ai (t_n (Am (Ab ?_)))
 obtain⟨b6,v6,hb6,hv6,hen6⟩:=hR.entry
 have hJ0:=hJ
 have hR0:=hR
 refine Aa ?_
 refine p1 (hen6 rfl) ?_
 refine p1 (Ao rfl rfl) ?_
 refine A6 zr64 ?_
 intro w4 g3 hN3
 have hE4:=hN3.ext
 have hX:=hX.ext hE4
 have hJ:=hJ.ext hE4
 have hR:=hR.ext hE4
 have hB3:=hN3.blk
 refine Az rfl rfl (Cm _) (B4 sz64 _) hB3 (Dl _) ?_
 intro w5 hP5
 have hX:=hX.put hP5 (True.intro)
 have hJ:=hJ0.ext (hN3.ext.put hP5 (by rw[hN3.g_eq];exact Nat.le_refl _))
 have hR:=hR0.ext (hN3.ext.put hP5 (by rw[hN3.g_eq];exact Nat.le_refl _))
 have hB3:=hP5.blk
 refine Ac (t_n (Ab ?_))
 refine Wf.toWp (Lu 2 rfl ?_)
 refine pM ?_
 refine p1 (Bh ua64 rfl hB3 (B4 sz64 _)) ?_
 refine Ac (t_n ?_)
 refine Nq rfl rfl (hY vs a6 _ hJ.h (by omega)) (fun e w0 hr=>by rcases hr with ⟨h,_⟩ | ⟨h,_⟩ <;> exact⟨_,h⟩) ?_
 rintro v6 w6 (⟨hv6,hJ6,hRn6⟩ | ⟨hv6,hJx6⟩) <;> cases hv6
 ·skip
  have hR:=hR.rnd hRn6 hE rfl
  have hJ:Hd J (Mod B9 tIter) (vs++[a6]) _:=hJ.to hJ6
  refine I4 rfl ?_
  refine p1 (Fc rfl) ?_
  refine Ac (t_n (t_n ?_))
  refine c_f rfl ?_
  refine Ai (b_n ?_)
  refine t_n (aK (vs++[a6]) trivial ?_)
  exact⟨⟨hX,⟨hJ,hR⟩⟩,by show N0 - (vs++[a6]).length<N0 - vs.length;simp only[List.length_append,List.length_cons,List.length_nil];omega⟩
 skip
 have hJx:=hJx6
 refine I4 rfl ?_
 refine p1 (Fc rfl) ?_
 refine Ac (t_n (t_n ?_))
 refine c_t rfl ?_
 refine Ak (b_r (t_r (b_r ?_)))
 refine end0 rfl ?_
 exact .inr ⟨_,trivial,hJx⟩
theorem Zp (r gb N0:Nat) (μ:Hash→Option R3) (hks:∀ vs:List Hash,vs.Nodup→(∀ z∈vs,μ z≠none)→vs.length≤N0) (w:World) (hM:Mp Bf vCh 0 0 w r μ) (hb:Blk w gb #[.map (some r)] 88) (E:List TypeId) (hE:tMap∉E∧tIter∉E) :
    SeqOk Tryz.prog 125 [.pointer (some ⟨gb,0,none⟩)] encH (Rnd E) (fun xs:List Hash=>xs.Nodup∧∀ z,z∈xs↔μ z≠none) (fun _=>True) (fun pre _ _=>pre.length<N0) (Mod w.heap.size tIter) w :=
  ⟨fun l J Jx W hx hJ hJx hY h0=>Calls.mono (Zq r gb N0 μ hks w.heap.size E hE l J Jx W (hM.ext hx) (hb.ext hx) hx.size ⟨h0,hJ,fun _ _ h => .ofExt h⟩ (fun pre x W1 h1 h2=>hY pre x W1 h1 h2)).out
    fun e w' ⟨v,he,hr⟩=>⟨⟨v,he⟩,hr⟩⟩
theorem Wx (r gb N0:Nat) (μ:Hash→Option R3) (hks:∀ vs:List Hash,vs.Nodup→(∀ z∈vs,μ z≠none)→vs.length≤N0) (w:World) (hM:Mp Bf vCh 0 0 w r μ) :
    Ret Tryz.prog 80 [.map (some r)] w (fun v w'=>(∃ lb:List Value,v = .func (.func 125) #[] lb.toArray∧SeqOk Tryz.prog 125 lb encH (Rnd [54,64]) (fun xs:List Hash=>xs.Nodup∧∀ z,z∈xs↔μ z≠none) (fun _=>True) (fun pre _ _=>pre.length<N0) (Mod w'.heap.size tIter) w')∧Ext w w'):=by
 have hX:=Ext.refl w
 refine eN 4 Tryz.func80 ?_
 refine Ab (Aa ?_)
 refine Cq (by conv=>lhs;whnf) rfl ?_
 intro w1 g1 hN1
 have hE1:=hN1.ext
 have hX:=hX.ext hE1
 have hM:=hM.ext hE1
 have hB1:=hN1.blk
 refine pA (Ac (t_n (Ab (Aa ?_))))
 refine p1 (Bi (fs:=[]) (cs:=[.pointer (some ⟨g1,0,none⟩)]) rfl rfl) ?_
 refine pA (Ac (t_n (Ak ?_)))
 refine eR1 ?_
 exact⟨⟨_,rfl,Zp r g1 N0 μ hks _ hM hB1 [54,64] (by decide)⟩,hX⟩
theorem Xo (lb:List Value) (N0:Nat) (Sq:List Hash→Prop) (hN:N0≤4194304) (w:World) (hSeq:SeqOk Tryz.prog 125 lb encH (Rnd [54,64]) Sq (fun _=>True) (fun pre _ _=>pre.length<N0) (Mod w.heap.size tIter) w) :
    Ret Tryz.prog 124 [.slice none 0 0,.func (.func 125) #[] lb.toArray] w (fun v w'=>(∃ (xs:List Hash) (q:Option Addr) (m c:Nat),Sq xs∧v = .slice q m c∧Own kHash 64 0 w.heap.size w' q m c xs)∧Ext w w'):=by
 have hX:=Ext.refl w
 refine Xe 13 _ Tryz.func124 rfl rfl (Nat.le_of_ble_eq_true rfl) rfl ?_
 refine Ab (Aa ?_)
 have hz2:=hX.size
 refine Cq (by conv=>lhs;whnf) rfl ?_
 intro w1 g2 hN2
 have hE1:=hN2.ext
 have hX:=hX.ext hE1
 have hB2:=hN2.blk
 have hq2:=hN2.g_eq
 refine pA (Ac (t_n (Ab (Ab (Aa ?_)))))
 refine pM (Ac (t_n (Am ?_)))
 have hXr:=hX.size
 obtain⟨B0,hB0⟩:∃ b,b=w.heap.size:=⟨_,rfl⟩
 have hg2:=hN2.g_eq
 refine Aer (ps:=[7]) ([]) (fun pre W=>Ext w W∧∃ q m c,Blk W g2 #[.slice q m c] 54∧Own kHash 64 0 w.heap.size W q m c pre) (fun c pre W=>False) (fun _ _ h => .ofExt h) rfl rfl Tryz.func125 fn125 fb125 (fun _ _ h=>h.size) (fun _ _ h => .ofLp h) (fun _ _ _ h k=>h.trans k) (hSeq.ext hX) (fun _ _ _ _ h _=>h) (fun _ _ h => .ofExt h) (Yd _) (fun _=>rfl) (by rintro s A B ⟨h1,q,m,c,h2,h3⟩ x;exact⟨h1.mod x (by omega),q,m,c,h2.mod x (by decide),h3.mod x (Nat.zero_le _) (by decide)⟩) (by rintro s A B ⟨h1,q,m,c,h2,h3⟩ x;exact⟨h1.lp x hXr,q,m,c,h2.lp x,h3.lp x (Nat.zero_le _)⟩) (fun _ _ _ _ h _=>h) (fun _ _ _ _ h _=>h) (⟨hX,none,0,0,hB2,Own.nil _ _ _ _ _⟩) ?_ ?_ ?_
 ·intro l pre x W hsz hI hXx
  obtain⟨hX,q,m,c,hB2,hO⟩:=hI
  have hol:=hO.len
  have hXa:=Ext.refl W
  refine Gd rfl ?_
  have hOlt0:=hO.below
  have hz5:=hX.size
  have hl5_2:=hB2.lt
  refine A6 zr64 ?_
  intro w3 g5 hN5
  have hE3:=hN5.ext
  have hX:=hX.ext hE3
  have hB2:=hB2.ext hE3
  have hO:=hO.ext hE3
  have hXa:=hXa.ext hE3
  have hB5:=hN5.blk
  have hq5:=hN5.g_eq
  have hOlt:q=none∨ab q<g5:=by rw[hN5.g_eq];exact hOlt0
  refine Az rfl rfl (Cm _) (B4 sz64 _) hB5 (Dl _) ?_
  intro w4 hP4
  have hX:=hX.put hP4 (by omega)
  have hB2:=hP4.keep hB2 (by omega)
  have hO:=hO.modB (hP4.mod g5 (Nat.le_refl _)) (Nat.zero_le _) (by decide) hOlt
  have hXa:=hXa.put hP4 (by omega)
  have hB5:=hP4.blk
  refine Ac (t_n ?_)
  refine t_n ⟨_,rfl,hXa,fun w5 hLp=>?_⟩
  have hX:=hX.lp hLp hXr
  have hB2:=hB2.lp hLp
  have hO:=hO.lp hLp (Nat.zero_le _)
  have hB5:=hB5.lp hLp
  have hR:=Rnd.refl [54,64] w5
  have hZ:=Nn.refl w5
  have hXs:=hX.size
  refine Tl ?_
  refine Gd rfl ?_
  refine p1 (Ae un54 rfl (hB2.cell (rfl))) ?_
  refine p1 (Bh ua64 rfl hB5 (B4 sz64 _)) ?_
  refine Au u54 inf64 rfl (by decide) (fun base hb=>Gc [.agg (hv x)] (by intro v hv';simp only[List.mem_singleton] at hv';subst hv';simp[Value.cells,hv,E8]) base hb) ?_
  intro w6 g10 hN10
  have hE6:=hN10.ext
  have hX:=hX.ext hE6
  have hB2:=hB2.ext hE6
  have hO:=hO.ext hE6
  have hR:=hR.ext hE6
  have hZ:=hZ.ext hE6
  have hJ:Own kHash 64 0 0 w6 (some ⟨g10,0,none⟩) 1 1 [x]:=Cw [x] hN10 (Nat.zero_le _) (by simp)
  have hB1:=hX.size
  have hXl:pre.length<N0:=hXx
  refine Bv (d:=kHash) ([x]) u54 inf64 rfl Cb rfl rfl hO (C6 u54 hJ.sl (by decide)) rfl (It _ _ _) (rfl) (by omega) (by omega) (by omega) (by omega) (by decide) ?_
  intro p11 c11 w7 hO hM7
  have hX:=hX.mod hM7 (Nat.le_refl _)
  have hB2:=hB2.mod hM7 (by decide)
  have hR:=hR.mod hM7 (by decide)
  have hZ:=hZ.mod hM7 
  refine Ar rfl (by conv=>lhs;whnf) rfl rfl sz54 hB2 (by first | exact Nat.zero_lt_one | simp) ?_
  intro w8 hP8
  have hX:=hX.put hP8 (by omega)
  have hB2:=hP8.blk
  try simp only[List.setIfInBounds_toArray,List.set_cons_zero,List.set_cons_succ] at hB2
  have hR:=hR.put hP8 (by decide)
  have hZ:=hZ.put hP8
  have hO:=hO.mod (hP8.mod 0 (Nat.zero_le _)) (Nat.zero_le _) (by decide)
  refine Ac (t_n (b_n ?_))
  exact⟨hR,fun k hn hk=>hZ.old k hk hn,hX,_,_,_,hB2,hO⟩
 ·rintro D zs_ w2 hsz hS ⟨hX,q,m,c,hB2,hO⟩ hDf
  have hDs:Dfs w.heap.size w2 [D]:=(Dfs.nil _ _).cons hDf (Nat.le_trans hXr hsz) (by simp)
  refine b_n (t_n (Ab (Aa ?_)))
  refine p1 (Ae un54 rfl (hB2.cell (rfl))) ?_
  refine pA (Ac (t_n (Ak ?_)))
  exact end1M [D] rfl rfl rfl hDs fun wz hLz=>⟨⟨_,_,_,_,hS,rfl,hO.lp hLz (Nat.zero_le _)⟩,hX.lp hLz (Nat.le_refl _)⟩
 intro D c pre W hsz hSp hx hDf
 exact hx.elim
theorem Zo (r gb N0:Nat) (μ:Hash→Option Bool) (hks:∀ vs:List Hash,vs.Nodup→(∀ z∈vs,μ z≠none)→vs.length≤N0) (B9:Nat) (E:List TypeId) (hE:tMap∉E∧tIter∉E) (l:Nat) (J Jx:List Hash→World→Prop) (w:World) (hM:Mp Bf vBool 0 0 w r μ) (hb:Blk w gb #[.map (some r)] 164) (hB9:B9≤w.heap.size)
    (hJ:Hd J (Mod B9 tIter) [] w) (hY:∀ pre x W1,J pre W1→pre.length<N0→YieldAt (fnc none) 0 Tryz.prog l (encH x).toArray W1 fun e W'=>(e = .returned (.bool true)∧J (pre++[x]) W'∧Rnd E W1 W')∨(e = .returned (.bool false)∧Jx (pre++[x]) W')) :
    Ret Tryz.prog 160 [.func (.yield l) #[] #[],.pointer (some ⟨gb,0,none⟩)] w (fun v w'=>(∃ xs,(fun xs:List Hash=>xs.Nodup∧∀ z,z∈xs↔μ z≠none) xs∧J xs w')∨(∃ pre,True∧Jx pre w')):=by
 have hX:=Tv.mk
 refine eN 14 Tryz.func160 ?_
 refine Ab (Aa ?_)
 refine p1 (Ae un164 rfl (hb.cell (rfl))) ?_
 refine Ju u164 rfl hM ?_
 intro w1 it5 hE1 hit5 hK5
 have hX:=hX.ext hE1
 have hJ:=hJ.ext hE1
 have hR:=hK5 B9 hB9
 refine Ac (t_n (Am ?_))
 refine Bg (ι:=List Hash) [3,6,7,8,9,10,11,12,13] (fun vs=>[]) (fun vs w'=>Tv∧(Hd J (Mod B9 tIter) vs w'∧Rg Bf vBool 0 B9 w' r it5 μ vs)) (fun vs=>N0 - vs.length) ([]) trivial ⟨hX,⟨hJ,hR⟩⟩ ?_
 rintro vs GL0 w2 ⟨hE2,hJ,hR⟩
 have hX:=hE2
 have hvl:=hks vs hR.nd hR.sub
 refine Ab (Aa ?_)
 refine O7 rfl hR (Nat.zero_le _) (by decide) (fun hdone6=>?_) (fun w3 a6 b6 v6 hna6 hmu6 hR hM3=>?_)
 ·skip
  refine p1 (Ao rfl rfl) ?_
  refine Ac (t_n (Ab ?_))
  refine c_f rfl ?_
  have hall:∀ z,z∈vs↔μ z≠none:=fun z=>⟨hR.sub z,hdone6 z⟩
  refine Ba (t_e (t_e (Bu ?_)))
  refine end0n rfl ?_
  exact .inl ⟨vs,⟨hR.nd,hall⟩,hJ.h⟩
 skip
 have hX:=Tv.mk
 have hJ:=hJ.rel hM3
 have hvl2:=hks _ hR.nd hR.sub
 simp only[List.length_append,List.length_cons,List.length_nil] at hvl2
 refine p1 (Ao rfl rfl) ?_
 refine Ac (t_n (Ab ?_))
 refine c_t rfl ?_
 refine Ai (t_n (Am (Ab ?_)))
 obtain⟨b6,v6,hb6,hv6,hen6⟩:=hR.entry
 have hJ0:=hJ
 have hR0:=hR
 refine Aa ?_
 refine p1 (hen6 rfl) ?_
 refine p1 (Ao rfl rfl) ?_
 refine A6 zr64 ?_
 intro w4 g3 hN3
 have hE4:=hN3.ext
 have hX:=hX.ext hE4
 have hJ:=hJ.ext hE4
 have hR:=hR.ext hE4
 have hB3:=hN3.blk
 refine Az rfl rfl (Cm _) (B4 sz64 _) hB3 (Dl _) ?_
 intro w5 hP5
 have hX:=hX.put hP5 (True.intro)
 have hJ:=hJ0.ext (hN3.ext.put hP5 (by rw[hN3.g_eq];exact Nat.le_refl _))
 have hR:=hR0.ext (hN3.ext.put hP5 (by rw[hN3.g_eq];exact Nat.le_refl _))
 have hB3:=hP5.blk
 refine Ac (t_n (Ab ?_))
 refine Wf.toWp (Lu 2 rfl ?_)
 refine pM ?_
 refine p1 (Bh ua64 rfl hB3 (B4 sz64 _)) ?_
 refine Ac (t_n ?_)
 refine Nq rfl rfl (hY vs a6 _ hJ.h (by omega)) (fun e w0 hr=>by rcases hr with ⟨h,_⟩ | ⟨h,_⟩ <;> exact⟨_,h⟩) ?_
 rintro v6 w6 (⟨hv6,hJ6,hRn6⟩ | ⟨hv6,hJx6⟩) <;> cases hv6
 ·skip
  have hR:=hR.rnd hRn6 hE rfl
  have hJ:Hd J (Mod B9 tIter) (vs++[a6]) _:=hJ.to hJ6
  refine I4 rfl ?_
  refine p1 (Fc rfl) ?_
  refine Ac (t_n (t_n ?_))
  refine c_f rfl ?_
  refine Ai (b_n ?_)
  refine t_n (aK (vs++[a6]) trivial ?_)
  exact⟨⟨hX,⟨hJ,hR⟩⟩,by show N0 - (vs++[a6]).length<N0 - vs.length;simp only[List.length_append,List.length_cons,List.length_nil];omega⟩
 skip
 have hJx:=hJx6
 refine I4 rfl ?_
 refine p1 (Fc rfl) ?_
 refine Ac (t_n (t_n ?_))
 refine c_t rfl ?_
 refine Ak (b_r (t_r (b_r ?_)))
 refine end0 rfl ?_
 exact .inr ⟨_,trivial,hJx⟩
theorem Zn (r gb N0:Nat) (μ:Hash→Option Bool) (hks:∀ vs:List Hash,vs.Nodup→(∀ z∈vs,μ z≠none)→vs.length≤N0) (w:World) (hM:Mp Bf vBool 0 0 w r μ) (hb:Blk w gb #[.map (some r)] 164) (E:List TypeId) (hE:tMap∉E∧tIter∉E) :
    SeqOk Tryz.prog 160 [.pointer (some ⟨gb,0,none⟩)] encH (Rnd E) (fun xs:List Hash=>xs.Nodup∧∀ z,z∈xs↔μ z≠none) (fun _=>True) (fun pre _ _=>pre.length<N0) (Mod w.heap.size tIter) w :=
  ⟨fun l J Jx W hx hJ hJx hY h0=>Calls.mono (Zo r gb N0 μ hks w.heap.size E hE l J Jx W (hM.ext hx) (hb.ext hx) hx.size ⟨h0,hJ,fun _ _ h => .ofExt h⟩ (fun pre x W1 h1 h2=>hY pre x W1 h1 h2)).out
    fun e w' ⟨v,he,hr⟩=>⟨⟨v,he⟩,hr⟩⟩
theorem Ww (r gb N0:Nat) (μ:Hash→Option Bool) (hks:∀ vs:List Hash,vs.Nodup→(∀ z∈vs,μ z≠none)→vs.length≤N0) (w:World) (hM:Mp Bf vBool 0 0 w r μ) :
    Ret Tryz.prog 116 [.map (some r)] w (fun v w'=>(∃ lb:List Value,v = .func (.func 160) #[] lb.toArray∧SeqOk Tryz.prog 160 lb encH (Rnd [54,64]) (fun xs:List Hash=>xs.Nodup∧∀ z,z∈xs↔μ z≠none) (fun _=>True) (fun pre _ _=>pre.length<N0) (Mod w'.heap.size tIter) w')∧Ext w w'):=by
 have hX:=Ext.refl w
 refine eN 4 Tryz.func116 ?_
 refine Ab (Aa ?_)
 refine Cq (by conv=>lhs;whnf) rfl ?_
 intro w1 g1 hN1
 have hE1:=hN1.ext
 have hX:=hX.ext hE1
 have hM:=hM.ext hE1
 have hB1:=hN1.blk
 refine pA (Ac (t_n (Ab (Aa ?_))))
 refine p1 (Bi (fs:=[]) (cs:=[.pointer (some ⟨g1,0,none⟩)]) rfl rfl) ?_
 refine pA (Ac (t_n (Ak ?_)))
 refine eR1 ?_
 exact⟨⟨_,rfl,Zn r g1 N0 μ hks _ hM hB1 [54,64] (by decide)⟩,hX⟩
theorem Xn (lb:List Value) (N0:Nat) (Sq:List Hash→Prop) (hN:N0≤4194304) (w:World) (hSeq:SeqOk Tryz.prog 160 lb encH (Rnd [54,64]) Sq (fun _=>True) (fun pre _ _=>pre.length<N0) (Mod w.heap.size tIter) w) :
    Ret Tryz.prog 124 [.slice none 0 0,.func (.func 160) #[] lb.toArray] w (fun v w'=>(∃ (xs:List Hash) (q:Option Addr) (m c:Nat),Sq xs∧v = .slice q m c∧Own kHash 64 0 w.heap.size w' q m c xs)∧Ext w w'):=by
 have hX:=Ext.refl w
 refine Xe 13 _ Tryz.func124 rfl rfl (Nat.le_of_ble_eq_true rfl) rfl ?_
 refine Ab (Aa ?_)
 have hz2:=hX.size
 refine Cq (by conv=>lhs;whnf) rfl ?_
 intro w1 g2 hN2
 have hE1:=hN2.ext
 have hX:=hX.ext hE1
 have hB2:=hN2.blk
 have hq2:=hN2.g_eq
 refine pA (Ac (t_n (Ab (Ab (Aa ?_)))))
 refine pM (Ac (t_n (Am ?_)))
 have hXr:=hX.size
 obtain⟨B0,hB0⟩:∃ b,b=w.heap.size:=⟨_,rfl⟩
 have hg2:=hN2.g_eq
 refine Aer (ps:=[7]) ([]) (fun pre W=>Ext w W∧∃ q m c,Blk W g2 #[.slice q m c] 54∧Own kHash 64 0 w.heap.size W q m c pre) (fun c pre W=>False) (fun _ _ h => .ofExt h) rfl rfl Tryz.func160 fn160 fb160 (fun _ _ h=>h.size) (fun _ _ h => .ofLp h) (fun _ _ _ h k=>h.trans k) (hSeq.ext hX) (fun _ _ _ _ h _=>h) (fun _ _ h => .ofExt h) (Yd _) (fun _=>rfl) (by rintro s A B ⟨h1,q,m,c,h2,h3⟩ x;exact⟨h1.mod x (by omega),q,m,c,h2.mod x (by decide),h3.mod x (Nat.zero_le _) (by decide)⟩) (by rintro s A B ⟨h1,q,m,c,h2,h3⟩ x;exact⟨h1.lp x hXr,q,m,c,h2.lp x,h3.lp x (Nat.zero_le _)⟩) (fun _ _ _ _ h _=>h) (fun _ _ _ _ h _=>h) (⟨hX,none,0,0,hB2,Own.nil _ _ _ _ _⟩) ?_ ?_ ?_
 ·intro l pre x W hsz hI hXx
  obtain⟨hX,q,m,c,hB2,hO⟩:=hI
  have hol:=hO.len
  have hXa:=Ext.refl W
  refine Gd rfl ?_
  have hOlt0:=hO.below
  have hz5:=hX.size
  have hl5_2:=hB2.lt
  refine A6 zr64 ?_
  intro w3 g5 hN5
  have hE3:=hN5.ext
  have hX:=hX.ext hE3
  have hB2:=hB2.ext hE3
  have hO:=hO.ext hE3
  have hXa:=hXa.ext hE3
  have hB5:=hN5.blk
  have hq5:=hN5.g_eq
  have hOlt:q=none∨ab q<g5:=by rw[hN5.g_eq];exact hOlt0
  refine Az rfl rfl (Cm _) (B4 sz64 _) hB5 (Dl _) ?_
  intro w4 hP4
  have hX:=hX.put hP4 (by omega)
  have hB2:=hP4.keep hB2 (by omega)
  have hO:=hO.modB (hP4.mod g5 (Nat.le_refl _)) (Nat.zero_le _) (by decide) hOlt
  have hXa:=hXa.put hP4 (by omega)
  have hB5:=hP4.blk
  refine Ac (t_n ?_)
  refine t_n ⟨_,rfl,hXa,fun w5 hLp=>?_⟩
  have hX:=hX.lp hLp hXr
  have hB2:=hB2.lp hLp
  have hO:=hO.lp hLp (Nat.zero_le _)
  have hB5:=hB5.lp hLp
  have hR:=Rnd.refl [54,64] w5
  have hZ:=Nn.refl w5
  have hXs:=hX.size
  refine Tl ?_
  refine Gd rfl ?_
  refine p1 (Ae un54 rfl (hB2.cell (rfl))) ?_
  refine p1 (Bh ua64 rfl hB5 (B4 sz64 _)) ?_
  refine Au u54 inf64 rfl (by decide) (fun base hb=>Gc [.agg (hv x)] (by intro v hv';simp only[List.mem_singleton] at hv';subst hv';simp[Value.cells,hv,E8]) base hb) ?_
  intro w6 g10 hN10
  have hE6:=hN10.ext
  have hX:=hX.ext hE6
  have hB2:=hB2.ext hE6
  have hO:=hO.ext hE6
  have hR:=hR.ext hE6
  have hZ:=hZ.ext hE6
  have hJ:Own kHash 64 0 0 w6 (some ⟨g10,0,none⟩) 1 1 [x]:=Cw [x] hN10 (Nat.zero_le _) (by simp)
  have hB1:=hX.size
  have hXl:pre.length<N0:=hXx
  refine Bv (d:=kHash) ([x]) u54 inf64 rfl Cb rfl rfl hO (C6 u54 hJ.sl (by decide)) rfl (It _ _ _) (rfl) (by omega) (by omega) (by omega) (by omega) (by decide) ?_
  intro p11 c11 w7 hO hM7
  have hX:=hX.mod hM7 (Nat.le_refl _)
  have hB2:=hB2.mod hM7 (by decide)
  have hR:=hR.mod hM7 (by decide)
  have hZ:=hZ.mod hM7 
  refine Ar rfl (by conv=>lhs;whnf) rfl rfl sz54 hB2 (by first | exact Nat.zero_lt_one | simp) ?_
  intro w8 hP8
  have hX:=hX.put hP8 (by omega)
  have hB2:=hP8.blk
  try simp only[List.setIfInBounds_toArray,List.set_cons_zero,List.set_cons_succ] at hB2
  have hR:=hR.put hP8 (by decide)
  have hZ:=hZ.put hP8
  have hO:=hO.mod (hP8.mod 0 (Nat.zero_le _)) (Nat.zero_le _) (by decide)
  refine Ac (t_n (b_n ?_))
  exact⟨hR,fun k hn hk=>hZ.old k hk hn,hX,_,_,_,hB2,hO⟩
 ·rintro D zs_ w2 hsz hS ⟨hX,q,m,c,hB2,hO⟩ hDf
  have hDs:Dfs w.heap.size w2 [D]:=(Dfs.nil _ _).cons hDf (Nat.le_trans hXr hsz) (by simp)
  refine b_n (t_n (Ab (Aa ?_)))
  refine p1 (Ae un54 rfl (hB2.cell (rfl))) ?_
  refine pA (Ac (t_n (Ak ?_)))
  exact end1M [D] rfl rfl rfl hDs fun wz hLz=>⟨⟨_,_,_,_,hS,rfl,hO.lp hLz (Nat.zero_le _)⟩,hX.lp hLz (Nat.le_refl _)⟩
 intro D c pre W hsz hSp hx hDf
 exact hx.elim
end Go.Proofs.Eng
end
section
set_option maxRecDepth 100000
set_option maxHeartbeats 4000000
namespace Go.Proofs.Eng
open Go.RowKit
open Extern.Stop (cell)
theorem fb124:Tryz.f124.body.isNone=false:=by kernel_rfl
theorem fb149:Tryz.f149.body.isNone=false:=by kernel_rfl
theorem fb79:Tryz.f79.body.isNone=false:=by kernel_rfl
theorem fb80:Tryz.f80.body.isNone=false:=by kernel_rfl
theorem fn124 : ngB Tryz.f124 = false := by kernel_rfl
theorem fn149 : ngB Tryz.f149 = false := by kernel_rfl
theorem fn79 : ngB Tryz.f79 = false := by kernel_rfl
theorem fn80 : ngB Tryz.f80 = false := by kernel_rfl
theorem u30:Tryz.prog.underlying 30=some (.pointer 91):=by kernel_rfl
end Go.Proofs.Eng
end
section
set_option maxRecDepth 100000
set_option maxHeartbeats 4000000
namespace Go.Proofs.Eng
open Go.RowKit
open Extern.Stop (cell)
theorem Acn (lb:List Value) (N0:Nat) (Sq:List Hash→Prop) (hN:N0≤4194304) (w:World) (hSeq:SeqOk Tryz.prog 125 lb encH (Rnd [54,64]) Sq (fun _=>True) (fun pre _ _=>pre.length<N0) (Mod w.heap.size tIter) w) :
    Ret Tryz.prog 79 [.func (.func 125) #[] lb.toArray] w (fun v w'=>(∃ (xs:List Hash) (q:Option Addr) (m c:Nat),Sq xs∧v = .slice q m c∧Own kHash 64 0 w.heap.size w' q m c xs)∧Ext w w'):=by
 have hX:=Ext.refl w
 refine eN 5 Tryz.func79 ?_
 refine Ab (Aa ?_)
 refine pA (Ac (t_n (Ab (Aa ?_))))
 refine pM ?_
 refine Ah Tryz.func124 fn124 fb124 (Xo lb N0 Sq hN _ hSeq) rfl ?_
 rintro v1 w1 ⟨⟨xs,q,m,c,hS,rfl,hO⟩,hE1⟩
 have hX:=hX.ext hE1
 refine pA (Ac (t_n (Ak ?_)))
 refine eR1 ?_
 exact⟨⟨xs,q,m,c,hS,rfl,hO⟩,hX⟩
theorem Acm (lb:List Value) (N0:Nat) (Sq:List Hash→Prop) (hN:N0≤4194304) (w:World) (hSeq:SeqOk Tryz.prog 160 lb encH (Rnd [54,64]) Sq (fun _=>True) (fun pre _ _=>pre.length<N0) (Mod w.heap.size tIter) w) :
    Ret Tryz.prog 79 [.func (.func 160) #[] lb.toArray] w (fun v w'=>(∃ (xs:List Hash) (q:Option Addr) (m c:Nat),Sq xs∧v = .slice q m c∧Own kHash 64 0 w.heap.size w' q m c xs)∧Ext w w'):=by
 have hX:=Ext.refl w
 refine eN 5 Tryz.func79 ?_
 refine Ab (Aa ?_)
 refine pA (Ac (t_n (Ab (Aa ?_))))
 refine pM ?_
 refine Ah Tryz.func124 fn124 fb124 (Xn lb N0 Sq hN _ hSeq) rfl ?_
 rintro v1 w1 ⟨⟨xs,q,m,c,hS,rfl,hO⟩,hE1⟩
 have hX:=hX.ext hE1
 refine pA (Ac (t_n (Ak ?_)))
 refine eR1 ?_
 exact⟨⟨xs,q,m,c,hS,rfl,hO⟩,hX⟩
theorem there_mem {D:DS} {k:ByteArray}:El D k↔k∈D.l.map (·.1):=D5
theorem Gy {S:Nat→Prop} {w:World} {μ:Hash→Option R3} {L:List By} (h:Chs S w μ L):∀ vs:List Hash,vs.Nodup→(∀ z∈vs,μ z≠none)→vs.length≤L.length:=fun vs h1 h2=>by
  have:=Fz h1 (ks:=L.map shaF) fun z hz=>by
    have h3:=h2 z hz
    rw[Ne,h.iff z] at h3
    obtain⟨c,hc⟩:=Option.ne_none_iff_exists'.1 h3
    obtain⟨e,hm⟩:=Do hc
    exact List.mem_map.2 ⟨c,hm,e⟩
  rwa [List.length_map] at this
theorem Abu {S:Nat→Prop} {w:World} {μ:Hash→Option R3} {L:List By} (h:Chs S w μ L) {xs:List Hash} (hx:∀ z,z∈xs↔μ z≠none):srt xs=srt (L.map shaF) :=
  Om (Fy xs) fun z=>by
    rw[mem_srt,hx,Ne,h.iff z,← Ne,List.mem_map]
    constructor
    · intro hne
      obtain⟨c,hc⟩:=Option.ne_none_iff_exists'.1 hne
      obtain⟨e,hm⟩:=Do hc
      exact⟨c,hm,e⟩
    · rintro ⟨c, hm, e⟩ hn
      exact I3.1 hn c hm e
theorem Dr (g gd r:Nat) (S Sd:Nat→Prop) (μ:Hash→Option R3) (pi nx:Option Addr) (ni ci:Nat) (C:CS) (w:World) (hCX:CstX S Sd w g gd r μ pi ni ci nx C) (hok:DOk C.D) (nm:ByteArray) :
    Ret Tryz.prog 105 [.pointer (some ⟨g,0,none⟩),.string nm] w (fun v w'=>(∃ b:Bool,v = .bool b∧(b=true↔El C.D nm))∧Ext w w'):=by
 have hb:=hCX.b
 have hX:=Ext.refl w
 refine eN 12 Tryz.func105 ?_
 refine Ab (Aa ?_)
 refine pA (Ac (t_n (Ab (Aa ?_))))
 refine pM ?_
 refine p1 (Af rfl) ?_
 refine p1 (Ad Cr sz34 rfl) ?_
 refine p1 (Ae un34 rfl (hb.cell (rfl))) ?_
 refine Ah Tryz.func35 fn35 fb35 (R4 gd Sd C.D _ hCX.d hok) rfl ?_
 rintro v1 w1 ⟨⟨qn,cn,rfl,hN⟩,hE1⟩
 have hX:=hX.ext hE1
 have hN:=hN.sl
 refine pM ?_
 refine Ah Tryz.func149 fn149 fb149 (To (C.D.l.map (·.1)) nm _ hN) rfl ?_
 rintro v2 w2 ⟨⟨bz,rfl,hbz⟩,hE2⟩
 have hX:=hX.ext hE2
 refine pA (Ac (t_n (Ak ?_)))
 refine eR1 ?_
 exact⟨⟨bz,rfl,hbz.trans there_mem.symm⟩,hX⟩
theorem Wg (g gd r:Nat) (S Sd:Nat→Prop) (μ:Hash→Option R3) (pi nx:Option Addr) (ni ci:Nat) (C:CS) (k:Nat) (w:World) (hCX:CstX S Sd w g gd r μ pi ni ci nx C) (hn:CN C k) :
    Ret Tryz.prog 15 [.pointer (some ⟨g,0,none⟩)] w (fun v w'=>v = .int .i64 (C.size:Int)∧Ext w w'):=by
 have hb:=hCX.b
 have hM:=hCX.m
 have hC:=hCX.c
 have hI:=hCX.i
 have hX:=Ext.refl w
 refine eN 9 Tryz.func15 ?_
 refine Ab (Aa ?_)
 refine pA (Ac (t_n (Ab (Ab (Aa ?_)))))
 refine pM ?_
 refine p1 ((Bb u30 rfl rfl).cast (congrArg _ (decide_eq_false (by simp)))) ?_
 refine Ac (t_n ?_)
 refine c_f rfl ?_
 refine Ai (t_n (Ab (Aa ?_)))
 refine pM ?_
 refine p1 (Af rfl) ?_
 refine p1 (Ad D6 sz3 rfl) ?_
 refine p1 (Ae un3 rfl (hb.cell (rfl))) ?_
 refine pA (Ac (t_n (Ak ?_)))
 refine eR1 ?_
 exact⟨rfl,hX⟩
theorem Ie (g gd r:Nat) (S Sd:Nat→Prop) (μ:Hash→Option R3) (pi nx:Option Addr) (ni ci:Nat) (C:CS) (k:Nat) (w:World) (hCX:CstX S Sd w g gd r μ pi ni ci nx C) (hn:CN C k) :
    Ret Tryz.prog 31 [.pointer (some ⟨g,0,none⟩)] w (fun v w'=>(∃ q n c,v = .slice q n c∧Own kByte 5 0 w.heap.size w' q n c C.index)∧Ext w w'):=by
 have hb:=hCX.b
 have hM:=hCX.m
 have hC:=hCX.c
 have hI:=hCX.i
 have hX:=Ext.refl w
 refine eN 10 Tryz.func31 ?_
 refine Ab (Aa ?_)
 refine pA (Ac (t_n (Ab (Ab (Aa ?_)))))
 refine pM ?_
 refine p1 ((Bb u30 rfl rfl).cast (congrArg _ (decide_eq_false (by simp)))) ?_
 refine Ac (t_n ?_)
 refine c_f rfl ?_
 refine Ai (t_n (Ab (Aa ?_)))
 refine pM ?_
 refine p1 (Af rfl) ?_
 refine p1 (Ad Kr sz23 rfl) ?_
 refine p1 (Ae un23 rfl (hb.cell (rfl))) ?_
 refine Ah Tryz.func58 fn58 fb58 (Bz _ _ _ _ _ _ _ hI.sl (by have:=hI.len;have:=hn.ix;omega)) rfl ?_
 rintro v1 w1 ⟨⟨q4,c4,rfl,hO⟩,hE1⟩
 have hX:=hX.ext hE1
 refine pA (Ac (t_n (Ak ?_)))
 refine eR1 ?_
 exact⟨⟨_,_,_,rfl,hO⟩,hX⟩
theorem Y1 (g gd r:Nat) (S Sd:Nat→Prop) (μ:Hash→Option R3) (pi nx:Option Addr) (ni ci:Nat) (C:CS) (k:Nat) (w:World) (hCX:CstX S Sd w g gd r μ pi ni ci nx C) (hn:CN C k) (h:Hash) :
    Ret Tryz.prog 28 [.pointer (some ⟨g,0,none⟩),.agg (hv h)] w (fun v w'=>(∃ q n c e,v = .tuple #[.slice q n c,.int .i64 e]∧((e=22∧findF C.L h=none)∨(e=0∧∃ x,findF C.L h=some x∧Own kByte 5 0 w.heap.size w' q n c x)))∧Ext w w'):=by
 have hb:=hCX.b
 have hM:=hCX.m
 have hC:=hCX.c
 have hI:=hCX.i
 have hX:=Ext.refl w
 refine eN 24 Tryz.func28 ?_
 refine Ab (Aa ?_)
 refine Em (by conv=>lhs;whnf) ?_
 intro w1 g3 hN3
 have hE1:=hN3.ext
 have hX:=hX.ext hE1
 have hb:=hb.ext hE1
 have hM:=hM.ext hE1
 have hC:=hC.ext hE1
 have hB3:=hN3.blk
 refine pA (pA (Ac (t_n (Ab (Am (Ab (Aa ?_)))))))
 refine pM ?_
 refine p1 ((Bb u30 rfl rfl).cast (congrArg _ (decide_eq_false (by simp)))) ?_
 refine pA (Ac (t_n ?_))
 refine c_f (rfl) ?_
 refine Ab ?_
 refine Du mixed (by kernel_rfl) ?_
 intro w2 hE2
 have hX:=hX.ext hE2
 have hb:=hb.ext hE2
 have hM:=hM.ext hE2
 have hC:=hC.ext hE2
 have hB3:=hB3.ext hE2
 refine s1 (Al (by conv=>lhs;whnf)) ?_
 refine s1 (Af rfl) ?_
 refine s1 (Ad Fp sz88 rfl) ?_
 refine s1 (Ae un88 rfl (hb.cell (rfl))) ?_
 refine s1 (Bh ua64 rfl hB3 (B4 sz64 _)) ?_
 obtain⟨⟨p0,n0,c0⟩,hr0⟩:∃ x:R3,x=(μ h).getD r30:=⟨_,rfl⟩
 obtain⟨hC0a,hC0b⟩:=hC.get h
 rw[← hr0] at hC0a hC0b
 simp only at hC0a hC0b
 refine s1 (((lookC u88 zr23 (Cg u64 u5 sz5) hM h rfl rfl)).cast (by rw[← hr0];rfl:r3V _=Value.slice p0 n0 c0)) ?_
 refine s1 (D9 u23 rfl rfl) ?_
 refine s1 (Ax (by conv=>lhs;whnf)) ?_
 refine Ca (t_n ?_)
 refine As rfl (fun hc9=>?_) (fun hc9=>?_)
 ·have hnn:=hC0a.1 hc9
  refine Ab (Aa ?_)
  refine pA (pA (Ac (t_n (Ak (b_r (t_r ?_))))))
  refine eR2 ?_
  exact⟨⟨none,0,0,22,rfl,.inl ⟨rfl,hnn⟩⟩,hX⟩
 obtain⟨x,hx⟩:=Option.ne_none_iff_exists'.1 (fun e=>hc9 (hC0a.2 e))
 refine Ai (b_n (t_n (Ab ?_)))
 refine Cp 6 mixed (by kernel_rfl) ?_
 intro w3 hE3
 have hX:=hX.ext hE3
 have hb:=hb.ext hE3
 have hM:=hM.ext hE3
 have hC:=hC.ext hE3
 have hB3:=hB3.ext hE3
 refine s1 (Al (by conv=>lhs;whnf)) ?_
 refine s1 (Af rfl) ?_
 refine s1 (Ad Fp sz88 rfl) ?_
 refine s1 (Ae un88 rfl (hb.cell (rfl))) ?_
 refine s1 (Bh ua64 rfl hB3 (B4 sz64 _)) ?_
 obtain⟨⟨p9,n9,c9⟩,hr9⟩:∃ x:R3,x=(μ h).getD r30:=⟨_,rfl⟩
 obtain⟨hC9a,hC9b⟩:=hC.get h
 rw[← hr9] at hC9a hC9b
 simp only at hC9a hC9b
 have hxl:=hC9b.len
 have hfl:∀ x,findF C.L h=some x→x.length≤1048576:=fun x hx=>hn.cl x (Do hx).2
 have hXq:=hX.size
 refine s1 (((lookC u88 zr23 (Cg u64 u5 sz5) hM h rfl rfl)).cast (by rw[← hr9];rfl:r3V _=Value.slice p9 n9 c9)) ?_
 refine Ca ?_
 refine Ah Tryz.func58 fn58 fb58 (Bz _ _ _ _ _ _ _ hC9b.sl (by rw[hx] at hxl;have:=hfl x hx;simp only[Option.getD_some] at hxl;omega)) rfl ?_
 rintro v4 w4 ⟨⟨q4,c4,rfl,hO⟩,hE4⟩
 have hX:=hX.ext hE4
 refine pA (pA (Ac (t_n (Ak ?_))))
 refine eR2 ?_
 (rw[hx] at hO;exact⟨⟨_,_,_,0,rfl,.inr ⟨rfl,x,hx,hO.lower hXq⟩⟩,hX⟩)
theorem Hx (g gd r:Nat) (S Sd:Nat→Prop) (μ:Hash→Option R3) (pi nx:Option Addr) (ni ci:Nat) (C:CS) (k:Nat) (w:World) (hCX:CstX S Sd w g gd r μ pi ni ci nx C) (hn:CN C k) :
    Ret Tryz.prog 30 [.pointer (some ⟨g,0,none⟩)] w (fun v w'=>(∃ q m c,v = .slice q m c∧Own kHash 64 0 w.heap.size w' q m c (srt (C.L.map shaF)))∧Ext w w'):=by
 have hb:=hCX.b
 have hM:=hCX.m
 have hC:=hCX.c
 have hI:=hCX.i
 have hX:=Ext.refl w
 refine eN 12 Tryz.func30 ?_
 refine Ab (Aa ?_)
 refine pA (Ac (t_n (Ab (Ab (Aa ?_)))))
 refine pM ?_
 refine p1 ((Bb u30 rfl rfl).cast (congrArg _ (decide_eq_false (by simp)))) ?_
 refine Ac (t_n ?_)
 refine c_f rfl ?_
 refine Ai (t_n (Ab (Aa ?_)))
 refine pM ?_
 refine p1 (Af rfl) ?_
 refine p1 (Ad Fp sz88 rfl) ?_
 refine p1 (Ae un88 rfl (hb.cell (rfl))) ?_
 refine Ah Tryz.func80 fn80 fb80 (Wx r 0 C.L.length μ (Gy hC) _ hM) rfl ?_
 rintro v1 w1 ⟨⟨lb,rfl,hSq⟩,hE1⟩
 have hX:=hX.ext hE1
 refine Ah Tryz.func79 fn79 fb79 (Acn lb C.L.length _ hn.ln _ hSq) rfl ?_
 rintro v2 w2 ⟨⟨xs,q5,m5,c5,⟨hnd,hxs⟩,rfl,hO⟩,hE2⟩
 have hX:=hX.ext hE2
 have hml:=hO.len
 have hxl:=Gy hCX.c xs hnd (fun z hz=>(hxs z).1 hz)
 have hln:=hn.ln
 have hXq:=hX.size
 refine Ah Tryz.func39 fn39 fb39 (F1 xs _ _ _ _ _ hO.sl (by omega)) rfl ?_
 rintro v3 w3 ⟨⟨q6,m6,c6,rfl,hm6,hR⟩,hE3⟩
 have hX:=hX.ext hE3
 rw[Abu hCX.c hxs] at hR
 have hR:=hR.lower hXq
 refine pA (Ac (t_n (Ak ?_)))
 refine eR1 ?_
 exact⟨⟨_,_,_,rfl,hR⟩,hX⟩
theorem J0 (r r2 N0:Nat) (μ μ2:Hash→Option R3) (w:World) (hM:Mp Bf vCh 0 0 w r μ) (hM2:Mp Bf vCh 0 0 w r2 μ2) (hne:r2≠r) (hks:∀ vs:List Hash,vs.Nodup→(∀ z∈vs,μ2 z≠none)→vs.length≤N0) :
    Ret Tryz.prog 59 [.map (some r),.map (some r2)] w (fun v w'=>Mp Bf vCh 0 0 w' r (fun k=>(μ2 k).or (μ k))∧ModS (fun j=>j=r) [tMap] w w'):=by
 have hX:=ModS.refl (fun j=>j=r) [tMap] w
 refine eN 16 Tryz.func59 ?_
 refine Ab (Aa ?_)
 refine pM ?_
 have hXs:=hX.size
 refine Ju u88 rfl hM2 ?_
 intro w1 it7 hE1 hit7 hK7
 have hX:=hX.ext hE1
 have hM:=hM.ext hE1
 have hR:=hK7 w.heap.size hXs
 refine Ac (t_n (Am ?_))
 refine Bg (ι:=List Hash) [4,5,8,9,10,11,12,13,14,15] (fun vs=>[]) (fun vs w'=>ModS (fun j=>j=r) [tMap] w w'∧(Rg Bf vCh 0 w.heap.size w' r2 it7 μ2 vs∧Mp Bf vCh 0 0 w' r (fun k=>if k∈vs then (μ2 k).or (μ k) else μ k))) (fun vs=>N0 - vs.length) ([]) trivial ⟨hX,⟨hR,hM.congr (fun k=>by simp)⟩⟩ ?_
 rintro vs GL0 w2 ⟨hE2,hR,hM⟩
 have hX:=hE2
 have hvl:=hks vs hR.nd hR.sub
 refine Ab (Aa ?_)
 refine O7 rfl hR (Nat.zero_le _) (by decide) (fun hdone8=>?_) (fun w3 a8 b8 v8 hna8 hmu8 hR hM3=>?_)
 ·skip
  refine p1 (Ao rfl rfl) ?_
  refine Ac (t_n (Ab ?_))
  refine c_f rfl ?_
  have hM:=hM.congr (μ':=fun k=>(μ2 k).or (μ k)) (fun k=>by
    by_cases e:k∈vs
    · simp[e]
    · have : μ2 k = none := Classical.byContradiction fun h => e (hdone8 k h)
      simp[e,this])
  refine Ba (t_e (t_e (Bu ?_)))
  refine end0n rfl ?_
  exact⟨hM,hX⟩
 skip
 have hX:=hX.mod hM3 (Nat.le_refl _)
 have hM:=hM.mod hM3 (Nat.zero_le _) (by decide)
 have hvl2:=hks _ hR.nd hR.sub
 simp only[List.length_append,List.length_cons,List.length_nil] at hvl2
 refine p1 (Ao rfl rfl) ?_
 refine Ac (t_n (Ab ?_))
 refine c_t rfl ?_
 refine Ai (t_n (Am (Ab ?_)))
 obtain⟨b8,v8,hb8,hv8,hen8⟩:=hR.entry
 have hv8:v8=r3V b8:=hv8
 subst hv8
 refine Aa ?_
 refine p1 (hen8 rfl) ?_
 refine p1 (Ao rfl rfl) ?_
 refine p1 (Ao rfl rfl) ?_
 have hz4:=hX.size
 refine A6 zr64 ?_
 intro w4 g4 hN4
 have hE4:=hN4.ext
 have hX:=hX.ext hE4
 have hM:=hM.ext hE4
 have hR:=hR.ext hE4
 have hB4:=hN4.blk
 have hq4:=hN4.g_eq
 refine Az rfl rfl (Cm _) (B4 sz64 _) hB4 (Dl _) ?_
 intro w5 hP5
 have hX:=hX.new hP5 (by omega)
 have hM:=hM.mod (hP5.mod 0 (Nat.zero_le _)) (Nat.zero_le _) (by decide)
 have hR:=hR.mod (hP5.mod 0 (Nat.zero_le _)) (Nat.zero_le _) (by decide)
 have hB4:=hP5.blk
 refine pA (Ac (t_n (Aa ?_)))
 refine pM ?_
 refine p1 (Bh ua64 rfl hB4 (B4 sz64 _)) ?_
 refine pM ?_
 have hMt6:=hM.tyOf
 refine Ej (a:=a8) (b:=b8) u88 (Cg u64 u5 sz5) rfl rfl rfl hM rfl (Nat.zero_le _) (by decide) ?_
 intro w6 hM hMm6 hne6
 have hO16:=One.ofMod hMm6 hMt6 hne6
 have hX:=hX.one hO16 ⟨.inl rfl,by simp⟩
 have hR:=hR.other hO16 hne rfl
 have hM:=hM.congr (μ':=fun k=>if k∈vs++[a8] then (μ2 k).or (μ k) else μ k) (fun k=>by
   unfold mset
   by_cases e:k=a8
   · subst e;simp[hb8]
   · simp[e])
 refine Ac (b_n ?_)
 refine t_n (aK (vs++[a8]) trivial ?_)
 exact⟨⟨hX,⟨hR,hM⟩⟩,by show N0 - (vs++[a8]).length<N0 - vs.length;simp only[List.length_append,List.length_cons,List.length_nil];omega⟩
end Go.Proofs.Eng
end
section
set_option maxRecDepth 100000
set_option maxHeartbeats 4000000
namespace Go.Proofs.Eng
open Go.RowKit
open Extern.Stop (cell)
theorem fb105:Tryz.f105.body.isNone=false:=by kernel_rfl
theorem fn105 : ngB Tryz.f105 = false := by kernel_rfl
theorem Dn:Bc Tryz.prog 91 5=some (89,5):=by kernel_rfl
theorem Fo:Bc Tryz.prog 91 6=some (4,6):=by kernel_rfl
theorem sz89:(Tryz.prog.info? 89).map (·.size)=some 1:=by kernel_rfl
end Go.Proofs.Eng
end
