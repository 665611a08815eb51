import Derived.Test.YtlmfpocifkpggaaGreatDoorOp3
import Derived.Test.YtlmfpocifkpggaaGreatDoorSh
set_option linter.unusedVariables false
set_option linter.unusedSimpArgs false
set_option linter.unusedSectionVars false
section
set_option maxRecDepth 100000
set_option maxHeartbeats 4000000
namespace Go.Proofs.Eng
open Go.RowKit
open Extern.Stop (cell)
theorem P4 (g:Nat) (S:Nat→Prop) (D:DS) (w:World) (hD:Dsk S w g D) (hok:DOk D) (k:ByteArray) (hk:ascA D.l k=none) (b0:Nat) (b1:Nat) (hb0:Blk w b0 #[.pointer (some ⟨g,0,none⟩)] 34) (hb1:Blk w b1 #[.string k] 9) :
    Ret Tryz.prog 63 [.pointer (some ⟨b0,0,none⟩),.pointer (some ⟨b1,0,none⟩)] w (fun v w'=>Dsk (grow S w w') w' g { D with l:=insA D.l k (some ([],0)) }∧ModS S ED w w'):=by
 obtain⟨r,μ,hB,hM,hSg,hSr,hF⟩:=hD.ex
 have hW1:=Nat.le_refl w.heap.size
 have hroom:=hok.room
 have hmost:=hok.most
 have hX:=ModS.refl S ED w
 refine eN 8 Tryz.func63 ?_
 refine Cx 6 mixed (by kernel_rfl) ?_
 intro w1 hE1
 have hX:=hX.ext hE1
 have hB:=hB.ext hE1
 have hM:=hM.ext hE1
 have hF:=hF.ext hE1
 have hb0:=hb0.ext hE1
 have hb1:=hb1.ext hE1
 refine s1 (Ae un34 rfl (hb0.cell (rfl))) ?_
 refine s1 (Ag rfl) ?_
 refine s1 (Ad Dp sz100 rfl) ?_
 refine s1 (Ae un100 rfl (hB.cell (rfl))) ?_
 refine s1 (Ae un9 rfl (hb1.cell (rfl))) ?_
 refine s1 (Dl pl113 rfl) ?_
 refine Bx ?_
 have hMt2:=hM.tyOf
 refine Fs (a:=k) (b:=raw0) u100 (C3 u9) rfl rfl rfl hM rfl (Nat.zero_le _) (by decide) ?_
 intro w2 hM hMm2 hne2
 have hO2:=One.ofMod hMm2 hMt2 hne2
 have hX:=hX.one hO2 ⟨.inl hSr,by decide⟩
 have hB:=hB.one hO2 (by decide)
 have hF:=hF.one hO2 (by decide)
 have hF:=hF.put hok.rise k raw0 ([],0) rfl (FB.nil _ _) (fun _ _ _ _ => .inl rfl)
 refine Ac ?_
 refine end0n rfl ?_
 have hu:=Ek hok.rise k (some ([],0))
 rw[hk] at hu
 simp only[Option.map_some,Option.map_none,Option.getD_some,Option.getD_none,List.length_nil] at hu
 exact⟨Dsk.made hB (by omega) hM hSg hSr hF Ev,hX⟩
theorem Td (g:Nat) (S:Nat→Prop) (D:DS) (w:World) (hD:Dsk S w g D) (hok:DOk D) (k:ByteArray) (hk:ascA D.l k≠none) (b0:Nat) (b1:Nat) (hb0:Blk w b0 #[.pointer (some ⟨g,0,none⟩)] 34) (hb1:Blk w b1 #[.string k] 9) :
    Ret Tryz.prog 65 [.pointer (some ⟨b0,0,none⟩),.pointer (some ⟨b1,0,none⟩)] w (fun v w'=>Dsk (grow S w w') w' g { D with l:=insA D.l k (some ((getF D k).1,(getF D k).1.length)) }∧ModS S ED w w'):=by
 obtain⟨r,μ,hB,hM,hSg,hSr,hF⟩:=hD.ex
 have hW1:=Nat.le_refl w.heap.size
 have hroom:=hok.room
 have hmost:=hok.most
 obtain⟨hk1,hk2⟩:=hF.there hk
 have hX:=ModS.refl S ED w
 refine eN 19 Tryz.func65 ?_
 refine Ab ?_
 refine Bj (fun w1 w2=>Ext w1 w2) mixed ?_
 intro w1 hE1
 have hX:=hX.ext hE1
 have hB:=hB.ext hE1
 have hM:=hM.ext hE1
 have hF:=hF.ext hE1
 have hb0:=hb0.ext hE1
 have hb1:=hb1.ext hE1
 have hSr0:(fun w1 w2=>Ext w1 w2) w1 w1:=Ext.refl w1
 refine hT 0 rfl hSr0 (fun wS hSS=>by(have hb0:=hb0.ext hSS;exact(Ae un34 rfl (hb0.cell (rfl))))) ?_
 refine hT 1 rfl hSr0 (fun wS hSS=>by(exact(Ag rfl))) ?_
 refine hT 2 rfl hSr0 (fun wS hSS=>by(exact(Ad Dp sz100 rfl))) ?_
 refine hT 3 rfl hSr0 (fun wS hSS=>by(have hB:=hB.ext hSS;exact(Ae un100 rfl (hB.cell (rfl))))) ?_
 refine hT 4 rfl hSr0 (fun wS hSS=>by(have hb1:=hb1.ext hSS;exact(Ae un9 rfl (hb1.cell (rfl))))) ?_
 obtain⟨⟨p0,n0,c0,s0⟩,hr0⟩:∃ x:Raw,x=(μ k).getD raw0:=⟨_,rfl⟩
 obtain⟨hF0,hs0⟩:=hF.get k
 rw[← hr0] at hF0 hs0
 simp only at hF0 hs0
 refine hT 5 rfl hSr0 (fun wS hSS=>by(have hM:=hM.ext hSS;exact(((lookF u100 zr113 (C3 u9) hM k rfl rfl).1).cast (by rw[← hr0];rfl:_=Value.agg #[.slice p0 n0 c0,.int .i64 (s0:Int)])))) ?_
 refine h1L 6 (fun Q6 hQ6=>?_)
 have hXs:=hX.size
 refine Ay zr113 ?_
 intro w2 g2 hN2
 have hE2:=hN2.ext
 have hX:=hX.ext hE2
 have hB:=hB.ext hE2
 have hM:=hM.ext hE2
 have hF:=hF.ext hE2
 have hb0:=hb0.ext hE2
 have hb1:=hb1.ext hE2
 have hSr0:=hSr0.ext hE2
 have hB2:=hN2.blk
 refine An hQ6 ⟨hSr0,?_⟩
 refine h1L 7 (fun Q7 hQ7=>?_)
 have hg2:w.heap.size≤g2:=by rw[hN2.g_eq];exact hXs
 refine Al rfl (by conv=>lhs;whnf) (by simp[Value.oneCell']) (by exact sz113) hB2 (by rfl) ?_
 intro w3 hP3
 have hX:=hX.put hP3 (⟨.inr (by rw[hN2.g_eq];exact hXs),by decide⟩)
 have hB:=hB.one hP3.one (by decide)
 have hM:=hM.mod (hP3.mod 0 (Nat.zero_le _)) (Nat.zero_le _) (by decide)
 have hF:=hF.one hP3.one (by decide)
 have hb0:=hb0.one hP3.one (by decide)
 have hb1:=hb1.one hP3.one (by decide)
 have hSr0:=hSr0.put hP3 (by rw[hN2.g_eq];exact Nat.le_refl _)
 have hB2:=hP3.blk
 refine An hQ7 ⟨hSr0,?_⟩
 refine A7 (by kernel_rfl) ?_
 refine t_n (Ab (Aa ?_))
 refine p1 (Ad Gk sz23 rfl) ?_
 refine p1 (Ae un23 rfl (hB2.cell (rfl))) ?_
 refine p1 (Ar u23 rfl) ?_
 refine p1 (Ad Ads sz3 rfl) ?_
 refine Aw rfl (by conv=>lhs;whnf) rfl rfl sz3 hB2 (by simp) ?_
 intro w4 hP4
 have hX:=hX.put hP4 (⟨.inr hg2,by decide⟩)
 have hB:=hB.one hP4.one (by decide)
 have hM:=hM.mod (hP4.mod 0 (Nat.zero_le _)) (Nat.zero_le _) (by decide)
 have hF:=hF.one hP4.one (by decide)
 have hb0:=hb0.one hP4.one (by decide)
 have hb1:=hb1.one hP4.one (by decide)
 have hB2:=hP4.blk
 try simp only[List.setIfInBounds_toArray,List.set_cons_zero,List.set_cons_succ] at hB2
 refine Ac (t_n ?_)
 refine Cx 6 mixed (by kernel_rfl) ?_
 intro w5 hE5
 have hX:=hX.ext hE5
 have hB:=hB.ext hE5
 have hM:=hM.ext hE5
 have hF:=hF.ext hE5
 have hb0:=hb0.ext hE5
 have hb1:=hb1.ext hE5
 have hB2:=hB2.ext hE5
 refine s1 (Ae un34 rfl (hb0.cell (rfl))) ?_
 refine s1 (Ag rfl) ?_
 refine s1 (Ad Dp sz100 rfl) ?_
 refine s1 (Ae un100 rfl (hB.cell (rfl))) ?_
 refine s1 (Ae un9 rfl (hb1.cell (rfl))) ?_
 refine s1 (Aq ua113 rfl hB2 sz113) ?_
 refine Bx ?_
 have hMt6:=hM.tyOf
 refine Fs (a:=k) (b:=(p0,n0,c0,n0)) u100 (C3 u9) rfl rfl rfl hM rfl (Nat.zero_le _) (by decide) ?_
 intro w6 hM hMm6 hne6
 have hO6:=One.ofMod hMm6 hMt6 hne6
 have hX:=hX.one hO6 ⟨.inl hSr,by decide⟩
 have hB:=hB.one hO6 (by decide)
 have hF:=hF.one hO6 (by decide)
 have hF0:=(hF.get k).1
 rw[← hr0] at hF0
 simp only at hF0
 have hF:=hF.put hok.rise k (p0,n0,c0,n0) ((getF D k).1,(getF D k).1.length) hF0.len.symm hF0 (fun k' y hn hy=>by have h9:=R6 hF hk1 k' y hn hy;rw[← hr0] at h9;exact h9)
 refine Ac ?_
 refine end0n rfl ?_
 have hu:=Eo hok hk (some ((getF D k).1,(getF D k).1.length))
 unfold getF ascF at hu
 simp only[Option.map_some,Option.getD_some] at hu
 exact⟨Dsk.made hB (by unfold getF ascF;omega) hM hSg hSr hF Ev,hX⟩
theorem P5 (g:Nat) (S:Nat→Prop) (D:DS) (w:World) (hD:Dsk S w g D) (hok:DOk D) (k:ByteArray) (hk:ascA D.l k≠none) (e B:Nat) (p:Option Addr) (n c:Nat) (ys:List UInt8) (hl:Sl kByte e B w p n c ys) (hfit:(usedL D.l:Int)+n≤D.most) (b0:Nat) (b1:Nat) (b2:Nat) (hb0:Blk w b0 #[.pointer (some ⟨g,0,none⟩)] 34) (hb1:Blk w b1 #[.string k] 9) (hb2:Blk w b2 #[.slice p n c] 23) :
    Ret Tryz.prog 64 [.pointer (some ⟨b0,0,none⟩),.pointer (some ⟨b1,0,none⟩),.pointer (some ⟨b2,0,none⟩)] w (fun v w'=>Dsk (grow S w w') w' g { D with l:=insA D.l k (some ((getF D k).1++ys,(getF D k).2)) }∧ModS S ED w w'):=by
 obtain⟨r,μ,hB,hM,hSg,hSr,hF⟩:=hD.ex
 have hW1:=Nat.le_refl w.heap.size
 have hroom:=hok.room
 have hmost:=hok.most
 obtain⟨hk1,hk2⟩:=hF.there hk
 have hXe:=Ext.refl w
 have hX:=ModS.refl S ED w
 refine eN 30 Tryz.func64 ?_
 refine Ab ?_
 refine Bj (fun w1 w2=>Ext w1 w2) mixed ?_
 intro w1 hE1
 have hX:=hX.ext hE1
 have hB:=hB.ext hE1
 have hM:=hM.ext hE1
 have hF:=hF.ext hE1
 have hb0:=hb0.ext hE1
 have hb1:=hb1.ext hE1
 have hb2:=hb2.ext hE1
 have hXe:=hXe.ext hE1
 have hSr0:(fun w1 w2=>Ext w1 w2) w1 w1:=Ext.refl w1
 refine hT 0 rfl hSr0 (fun wS hSS=>by(have hb0:=hb0.ext hSS;exact(Ae un34 rfl (hb0.cell (rfl))))) ?_
 refine hT 1 rfl hSr0 (fun wS hSS=>by(exact(Ag rfl))) ?_
 refine hT 2 rfl hSr0 (fun wS hSS=>by(exact(Ad Dp sz100 rfl))) ?_
 refine hT 3 rfl hSr0 (fun wS hSS=>by(have hB:=hB.ext hSS;exact(Ae un100 rfl (hB.cell (rfl))))) ?_
 refine hT 4 rfl hSr0 (fun wS hSS=>by(have hb1:=hb1.ext hSS;exact(Ae un9 rfl (hb1.cell (rfl))))) ?_
 obtain⟨⟨p0,n0,c0,s0⟩,hr0⟩:∃ x:Raw,x=(μ k).getD raw0:=⟨_,rfl⟩
 obtain⟨hF0,hs0⟩:=hF.get k
 rw[← hr0] at hF0 hs0
 simp only at hF0 hs0
 refine hT 5 rfl hSr0 (fun wS hSS=>by(have hM:=hM.ext hSS;exact(((lookF u100 zr113 (C3 u9) hM k rfl rfl).1).cast (by rw[← hr0];rfl:_=Value.agg #[.slice p0 n0 c0,.int .i64 (s0:Int)])))) ?_
 refine h1L 6 (fun Q6 hQ6=>?_)
 have hXs:=hX.size
 refine Ay zr113 ?_
 intro w2 g3 hN3
 have hE2:=hN3.ext
 have hX:=hX.ext hE2
 have hB:=hB.ext hE2
 have hM:=hM.ext hE2
 have hF:=hF.ext hE2
 have hb0:=hb0.ext hE2
 have hb1:=hb1.ext hE2
 have hb2:=hb2.ext hE2
 have hXe:=hXe.ext hE2
 have hSr0:=hSr0.ext hE2
 have hB3:=hN3.blk
 refine An hQ6 ⟨hSr0,?_⟩
 refine h1L 7 (fun Q7 hQ7=>?_)
 have hg3:w.heap.size≤g3:=by rw[hN3.g_eq];exact hXs
 refine Al rfl (by conv=>lhs;whnf) (by simp[Value.oneCell']) (by exact sz113) hB3 (by rfl) ?_
 intro w3 hP3
 have hX:=hX.put hP3 (⟨.inr hg3,by decide⟩)
 have hB:=hB.one hP3.one (by decide)
 have hM:=hM.mod (hP3.mod 0 (Nat.zero_le _)) (Nat.zero_le _) (by decide)
 have hF:=hF.one hP3.one (by decide)
 have hb0:=hb0.one hP3.one (by decide)
 have hb1:=hb1.one hP3.one (by decide)
 have hb2:=hb2.one hP3.one (by decide)
 have hXe:=hXe.put hP3 (by omega)
 have hSr0:=hSr0.put hP3 (by rw[hN3.g_eq];exact Nat.le_refl _)
 have hB3:=hP3.blk
 refine An hQ7 ⟨hSr0,?_⟩
 refine A7 (by kernel_rfl) ?_
 refine t_n (Ab (Aa ?_))
 refine p1 (Ad Gk sz23 rfl) ?_
 refine p1 (Ae un23 rfl (hB3.cell (rfl))) ?_
 refine p1 (Ae un23 rfl (hb2.cell (rfl))) ?_
 have hX0s:=hX.size
 have hF0:=(hF.get k).1
 rw[← hr0] at hF0
 simp only at hF0
 have hl1:=hl.ext hXe
 have hlen0:=hF0.len
 have hgl:=(F2 hok k).1
 have hge:(ascA D.l k).getD ([],0)=getF D k:=rfl
 rw[hge] at hF0 hlen0
 refine Y2 ys u23 inf5 rfl rfl hF0 (by rw[← Bf];exact Ba u23 hl1 (by decide)) hl.len (by omega) ?_
 intro pz cz w4 hF1 hpp hO hFo
 have hap:=Zm hF hk1 (p':=pz) (by rw[← hr0];exact hpp)
 have hB:=hB.oneR hO hF0 (by decide)
 have hB3:=hB3.oneR hO hF0 (by decide)
 have hb0:=hb0.oneR hO hF0 (by decide)
 have hb1:=hb1.oneR hO hF0 (by decide)
 have hb2:=hb2.oneR hO hF0 (by decide)
 have hM:=hM.oneR hO hF0 rfl
 have hF:=hF.app hk1 (by rw[← hr0];exact hO) (xs:=(getF D k).1) (by rw[← hr0,hk2,hge,hs0,hge]) (by rw[← hr0];exact hFo)
 have hX:=hX.oneR hO (.inl hF0) (by decide)
 have hF:=hF.mono (S':=fun j=>S j∨w.heap.size≤j) (fun _ _ h => .inl h)
 have hF1:=hF1.mono (S':=fun j=>S j∨w.heap.size≤j) (fun _ _ h=>h.imp id fun h=>by have:=hX0s;omega)
 skip
 refine p1 (Ad Gk sz23 rfl) ?_
 refine Aw rfl (by conv=>lhs;whnf) rfl rfl sz23 hB3 (by simp) ?_
 intro w5 hP5
 have hX:=hX.put hP5 (⟨.inr hg3,by decide⟩)
 have hB:=hB.one hP5.one (by decide)
 have hB3:=hP5.blk
 try simp only[List.setIfInBounds_toArray,List.set_cons_zero,List.set_cons_succ] at hB3
 have hb0:=hb0.one hP5.one (by decide)
 have hb1:=hb1.one hP5.one (by decide)
 have hb2:=hb2.one hP5.one (by decide)
 have hM:=hM.mod (hP5.mod 0 (Nat.zero_le _)) (Nat.zero_le _) (by decide)
 have hF:=hF.one hP5.one (by decide)
 have hF1:=hF1.one hP5.one (by decide)
 refine Ac (t_n (Ab ?_))
 refine Cx 6 mixed (by kernel_rfl) ?_
 intro w6 hE6
 have hX:=hX.ext hE6
 have hB:=hB.ext hE6
 have hB3:=hB3.ext hE6
 have hb0:=hb0.ext hE6
 have hb1:=hb1.ext hE6
 have hb2:=hb2.ext hE6
 have hM:=hM.ext hE6
 have hF:=hF.ext hE6
 have hF1:=hF1.ext hE6
 refine s1 (Ae un34 rfl (hb0.cell (rfl))) ?_
 refine s1 (Ag rfl) ?_
 refine s1 (Ad Dp sz100 rfl) ?_
 refine s1 (Ae un100 rfl (hB.cell (rfl))) ?_
 refine s1 (Ae un9 rfl (hb1.cell (rfl))) ?_
 refine s1 (Aq ua113 rfl hB3 sz113) ?_
 refine Bx ?_
 have hMt7:=hM.tyOf
 refine Fs (a:=k) (b:=(pz,n0+n,cz,s0)) u100 (C3 u9) rfl rfl rfl hM rfl (Nat.zero_le _) (by decide) ?_
 intro w7 hM hMm7 hne7
 have hO7:=One.ofMod hMm7 hMt7 hne7
 have hX:=hX.one hO7 ⟨.inl hSr,by decide⟩
 have hB:=hB.one hO7 (by decide)
 have hb0:=hb0.one hO7 (by decide)
 have hb2:=hb2.one hO7 (by decide)
 have hF:=hF.one hO7 (by decide)
 have hF1:=hF1.one hO7 (by decide)
 have hF:=hF.put hok.rise k (pz,n0+n,cz,s0) ((getF D k).1++ys,(getF D k).2) hs0 hF1 hap
 refine Ac (t_n ?_)
 refine Cx 9 mixed (by kernel_rfl) ?_
 intro w8 hE8
 have hX:=hX.ext hE8
 have hM:=hM.ext hE8
 have hF:=hF.ext hE8
 have hB:=hB.ext hE8
 have hb0:=hb0.ext hE8
 have hb2:=hb2.ext hE8
 refine s1 (Ae un34 rfl (hb0.cell (rfl))) ?_
 refine s1 (Ag rfl) ?_
 refine s1 (Ad Gm sz3 rfl) ?_
 refine s1 (Ae un3 rfl (hB.cell (rfl))) ?_
 refine s1 (Ae un23 rfl (hb2.cell (rfl))) ?_
 refine s1 (Ar u23 rfl) ?_
 have hnn:=hl.len
 refine s1 (A0 rfl rfl (Am (by omega) (by omega))) ?_
 refine s1 (Ag rfl) ?_
 refine s1 (Ad Gm sz3 rfl) ?_
 refine Bx ?_
 refine Aw rfl (by conv=>lhs;whnf) rfl rfl sz3 hB (by simp) ?_
 intro w9 hP9
 have hX:=hX.put hP9 (⟨.inl hSg,by decide⟩)
 have hM:=hM.mod (hP9.mod 0 (Nat.zero_le _)) (Nat.zero_le _) (by decide)
 have hF:=hF.one hP9.one (by decide)
 have hB:=hP9.blk
 try simp only[List.setIfInBounds_toArray,List.set_cons_zero,List.set_cons_succ] at hB
 refine Ac ?_
 refine end0n rfl ?_
 have hu:=Eo hok hk (some ((getF D k).1++ys,(getF D k).2))
 unfold getF ascF at hu
 simp only[Option.map_some,Option.getD_some,List.length_append] at hu
 have hgl:=(F2 hok k).1
 have hnn:=hl.len
 unfold getF ascF at hgl
 exact⟨Dsk.made hB (by unfold getF ascF;omega) hM hSg (.inl hSr) hF (fun _ _ h=>h),hX⟩
theorem P2 (g:Nat) (S:Nat→Prop) (D:DS) (w:World) (hD:Dsk S w g D) (hok:DOk D) (k:ByteArray) (hk:ascA D.l k≠none) (b0:Nat) (b1:Nat) (hb0:Blk w b0 #[.pointer (some ⟨g,0,none⟩)] 34) (hb1:Blk w b1 #[.string k] 9) :
    Ret Tryz.prog 142 [.pointer (some ⟨b0,0,none⟩),.pointer (some ⟨b1,0,none⟩)] w (fun v w'=>Dsk (grow S w w') w' g { D with l:=insA D.l k none }∧ModS S ED w w'):=by
 obtain⟨r,μ,hB,hM,hSg,hSr,hF⟩:=hD.ex
 have hW1:=Nat.le_refl w.heap.size
 have hroom:=hok.room
 have hmost:=hok.most
 obtain⟨hk1,hk2⟩:=hF.there hk
 have hX:=ModS.refl S ED w
 refine eN 22 Tryz.func142 ?_
 refine Ab ?_
 refine Cx 15 mixed (by kernel_rfl) ?_
 intro w1 hE1
 have hX:=hX.ext hE1
 have hB:=hB.ext hE1
 have hM:=hM.ext hE1
 have hF:=hF.ext hE1
 have hb0:=hb0.ext hE1
 have hb1:=hb1.ext hE1
 refine s1 (Ae un34 rfl (hb0.cell (rfl))) ?_
 refine s1 (Ag rfl) ?_
 refine s1 (Ad Gm sz3 rfl) ?_
 refine s1 (Ae un3 rfl (hB.cell (rfl))) ?_
 refine s1 (Ae un34 rfl (hb0.cell (rfl))) ?_
 refine s1 (Ag rfl) ?_
 refine s1 (Ad Dp sz100 rfl) ?_
 refine s1 (Ae un100 rfl (hB.cell (rfl))) ?_
 refine s1 (Ae un9 rfl (hb1.cell (rfl))) ?_
 obtain⟨⟨p0,n0,c0,s0⟩,hr0⟩:∃ x:Raw,x=(μ k).getD raw0:=⟨_,rfl⟩
 obtain⟨hF0,hs0⟩:=hF.get k
 rw[← hr0] at hF0 hs0
 simp only at hF0 hs0
 refine s1 (((lookF u100 zr113 (C3 u9) hM k rfl rfl).1).cast (by rw[← hr0];rfl:_=Value.agg #[.slice p0 n0 c0,.int .i64 (s0:Int)])) ?_
 refine s1 (K4 Gk un23 rfl rfl) ?_
 refine s1 (Ar u23 rfl) ?_
 have hgl:=(F2 hok k).1
 have hlen0:=hF0.len
 unfold getF ascF at hgl
 refine s1 (Dg rfl rfl (Am (by omega) (by omega))) ?_
 refine s1 (Ag rfl) ?_
 refine s1 (Ad Gm sz3 rfl) ?_
 refine Bx ?_
 refine Aw rfl (by conv=>lhs;whnf) rfl rfl sz3 hB (by simp) ?_
 intro w2 hP2
 have hX:=hX.put hP2 (⟨.inl hSg,by decide⟩)
 have hB:=hP2.blk
 try simp only[List.setIfInBounds_toArray,List.set_cons_zero,List.set_cons_succ] at hB
 have hM:=hM.mod (hP2.mod 0 (Nat.zero_le _)) (Nat.zero_le _) (by decide)
 have hF:=hF.one hP2.one (by decide)
 have hb0:=hb0.one hP2.one (by decide)
 have hb1:=hb1.one hP2.one (by decide)
 refine Ac (t_n ?_)
 refine Cx 5 mixed (by kernel_rfl) ?_
 intro w3 hE3
 have hX:=hX.ext hE3
 have hB:=hB.ext hE3
 have hM:=hM.ext hE3
 have hF:=hF.ext hE3
 have hb0:=hb0.ext hE3
 have hb1:=hb1.ext hE3
 refine s1 (Ae un34 rfl (hb0.cell (rfl))) ?_
 refine s1 (Ag rfl) ?_
 refine s1 (Ad Dp sz100 rfl) ?_
 refine s1 (Ae un100 rfl (hB.cell (rfl))) ?_
 refine s1 (Ae un9 rfl (hb1.cell (rfl))) ?_
 refine Bx ?_
 have hMt4:=hM.tyOf
 refine Rb (a:=k) u100 (C3 u9) rfl rfl hM (Nat.zero_le _) (by decide) ?_
 intro w4 hM hMm4 hne4
 have hO4:=One.ofMod hMm4 hMt4 hne4
 have hX:=hX.one hO4 ⟨.inl hSr,by decide⟩
 have hB:=hB.one hO4 (by decide)
 have hF:=hF.one hO4 (by decide)
 have hF:=hF.del hok.rise k
 refine Ac ?_
 refine end0n rfl ?_
 have hu:=Eo hok hk none
 unfold getF ascF at hu
 simp only[Option.map_none,Option.getD_none] at hu
 exact⟨Dsk.made hB (by omega) hM hSg hSr hF Ev,hX⟩
theorem P1 (g:Nat) (S:Nat→Prop) (D:DS) (w:World) (hD:Dsk S w g D) (hok:DOk D) (old now:ByteArray) (hk:ascA D.l old≠none) (b0:Nat) (b1:Nat) (b2:Nat) (hb0:Blk w b0 #[.string old] 9) (hb1:Blk w b1 #[.string now] 9) (hb2:Blk w b2 #[.pointer (some ⟨g,0,none⟩)] 34) :
    Ret Tryz.prog 146 [.pointer (some ⟨b0,0,none⟩),.pointer (some ⟨b1,0,none⟩),.pointer (some ⟨b2,0,none⟩)] w (fun v w'=>Dsk (grow S w w') w' g { D with l:=renL D.l old now (getF D old) }∧ModS S ED w w'):=by
 obtain⟨r,μ,hB,hM,hSg,hSr,hF⟩:=hD.ex
 have hW1:=Nat.le_refl w.heap.size
 have hroom:=hok.room
 have hmost:=hok.most
 obtain⟨hk1,hk2⟩:=hF.there hk
 have hX:=ModS.refl S ED w
 refine eN 37 Tryz.func146 ?_
 refine Ab (Ab (Aa ?_))
 refine p1 (Ae un9 rfl (hb0.cell (rfl))) ?_
 refine p1 (Ae un9 rfl (hb1.cell (rfl))) ?_
 refine p1 (Fj rfl rfl) ?_
 refine Ac (t_n ?_)
 refine As rfl (fun hc5=>?_) (fun hc5=>?_)
 ·have hll:renL D.l old now (getF D old)=D.l:=if_pos hc5
  refine Ao (t_r ?_)
  refine end0 rfl ?_
  (rw[hll];exact⟨Dsk.made hB rfl hM hSg hSr hF Ev,hX⟩)
 have hll:renL D.l old now (getF D old)=insA (insA D.l now (some (getF D old))) old none:=if_neg hc5
 refine Ak (t_n (Ab ?_))
 refine Cx 15 mixed (by kernel_rfl) ?_
 intro w1 hE1
 have hX:=hX.ext hE1
 have hB:=hB.ext hE1
 have hM:=hM.ext hE1
 have hF:=hF.ext hE1
 have hb0:=hb0.ext hE1
 have hb1:=hb1.ext hE1
 have hb2:=hb2.ext hE1
 refine s1 (Ae un34 rfl (hb2.cell (rfl))) ?_
 refine s1 (Ag rfl) ?_
 refine s1 (Ad Gm sz3 rfl) ?_
 refine s1 (Ae un3 rfl (hB.cell (rfl))) ?_
 refine s1 (Ae un34 rfl (hb2.cell (rfl))) ?_
 refine s1 (Ag rfl) ?_
 refine s1 (Ad Dp sz100 rfl) ?_
 refine s1 (Ae un100 rfl (hB.cell (rfl))) ?_
 refine s1 (Ae un9 rfl (hb1.cell (rfl))) ?_
 obtain⟨⟨p0,n0,c0,s0⟩,hr0⟩:∃ x:Raw,x=(μ now).getD raw0:=⟨_,rfl⟩
 obtain⟨hF0,hs0⟩:=hF.get now
 rw[← hr0] at hF0 hs0
 simp only at hF0 hs0
 refine s1 (((lookF u100 zr113 (C3 u9) hM now rfl rfl).1).cast (by rw[← hr0];rfl:_=Value.agg #[.slice p0 n0 c0,.int .i64 (s0:Int)])) ?_
 refine s1 (K4 Gk un23 rfl rfl) ?_
 refine s1 (Ar u23 rfl) ?_
 have hgl:=(F2 hok now).1
 have hlen0:=hF0.len
 unfold getF ascF at hgl
 refine s1 (Dg rfl rfl (Am (by omega) (by omega))) ?_
 refine s1 (Ag rfl) ?_
 refine s1 (Ad Gm sz3 rfl) ?_
 refine Bx ?_
 refine Aw rfl (by conv=>lhs;whnf) rfl rfl sz3 hB (by simp) ?_
 intro w2 hP2
 have hX:=hX.put hP2 (⟨.inl hSg,by decide⟩)
 have hB:=hP2.blk
 try simp only[List.setIfInBounds_toArray,List.set_cons_zero,List.set_cons_succ] at hB
 have hM:=hM.mod (hP2.mod 0 (Nat.zero_le _)) (Nat.zero_le _) (by decide)
 have hF:=hF.one hP2.one (by decide)
 have hb0:=hb0.one hP2.one (by decide)
 have hb1:=hb1.one hP2.one (by decide)
 have hb2:=hb2.one hP2.one (by decide)
 refine Ac (t_n (Ab ?_))
 refine Cx 11 mixed (by kernel_rfl) ?_
 intro w3 hE3
 have hX:=hX.ext hE3
 have hB:=hB.ext hE3
 have hM:=hM.ext hE3
 have hF:=hF.ext hE3
 have hb0:=hb0.ext hE3
 have hb1:=hb1.ext hE3
 have hb2:=hb2.ext hE3
 refine s1 (Ae un34 rfl (hb2.cell (rfl))) ?_
 refine s1 (Ag rfl) ?_
 refine s1 (Ad Dp sz100 rfl) ?_
 refine s1 (Ae un100 rfl (hB.cell (rfl))) ?_
 refine s1 (Ae un9 rfl (hb1.cell (rfl))) ?_
 refine s1 (Ae un34 rfl (hb2.cell (rfl))) ?_
 refine s1 (Ag rfl) ?_
 refine s1 (Ad Dp sz100 rfl) ?_
 refine s1 (Ae un100 rfl (hB.cell (rfl))) ?_
 refine s1 (Ae un9 rfl (hb0.cell (rfl))) ?_
 obtain⟨⟨p9,n9,c9,s9⟩,hr9⟩:∃ x:Raw,x=(μ old).getD raw0:=⟨_,rfl⟩
 obtain⟨hF9,hs9⟩:=hF.get old
 rw[← hr9] at hF9 hs9
 simp only at hF9 hs9
 refine s1 (((lookF u100 zr113 (C3 u9) hM old rfl rfl).1).cast (by rw[← hr9];rfl:_=Value.agg #[.slice p9 n9 c9,.int .i64 (s9:Int)])) ?_
 refine Bx ?_
 have hMt4:=hM.tyOf
 refine Fs (a:=now) (b:=(p9,n9,c9,s9)) u100 (C3 u9) rfl rfl rfl hM rfl (Nat.zero_le _) (by decide) ?_
 intro w4 hM hMm4 hne4
 have hO4:=One.ofMod hMm4 hMt4 hne4
 have hX:=hX.one hO4 ⟨.inl hSr,by decide⟩
 have hB:=hB.one hO4 (by decide)
 have hb0:=hb0.one hO4 (by decide)
 have hb2:=hb2.one hO4 (by decide)
 have hF:=hF.one hO4 (by decide)
 skip
 refine Ac (t_n ?_)
 refine Cx 5 mixed (by kernel_rfl) ?_
 intro w5 hE5
 have hX:=hX.ext hE5
 have hM:=hM.ext hE5
 have hF:=hF.ext hE5
 have hB:=hB.ext hE5
 have hb0:=hb0.ext hE5
 have hb2:=hb2.ext hE5
 refine s1 (Ae un34 rfl (hb2.cell (rfl))) ?_
 refine s1 (Ag rfl) ?_
 refine s1 (Ad Dp sz100 rfl) ?_
 refine s1 (Ae un100 rfl (hB.cell (rfl))) ?_
 refine s1 (Ae un9 rfl (hb0.cell (rfl))) ?_
 refine Bx ?_
 have hMt6:=hM.tyOf
 refine Rb (a:=old) u100 (C3 u9) rfl rfl hM (Nat.zero_le _) (by decide) ?_
 intro w6 hM hMm6 hne6
 have hO6:=One.ofMod hMm6 hMt6 hne6
 have hX:=hX.one hO6 ⟨.inl hSr,by decide⟩
 have hB:=hB.one hO6 (by decide)
 have hF:=hF.one hO6 (by decide)
 skip
 refine Ac ?_
 refine end0n rfl ?_
 (have h5:=(Aah hok (now:=now) hk).2.2.2.2 hc5
  unfold getF ascF at h5
  rw[hr9] at hM
  have hF:=hF.ren hok.rise hc5 hk
  exact⟨Dsk.made hB (by unfold getF ascF;omega) hM hSg hSr (by rw[hll];exact hF) Ev,hX⟩)
theorem U9 (g:Nat) (S:Nat→Prop) (D:DS) (w:World) (hD:Dsk S w g D) (hok:DOk D) (k:ByteArray) (hk:ascA D.l k≠none) (n:Nat) (hn:n≤(getF D k).1.length) (b0:Nat) (b1:Nat) (b2:Nat) (hb0:Blk w b0 #[.pointer (some ⟨g,0,none⟩)] 34) (hb1:Blk w b1 #[.string k] 9) (hb2:Blk w b2 #[.int .i64 (n:Int)] 3) :
    Ret Tryz.prog 141 [.pointer (some ⟨b0,0,none⟩),.pointer (some ⟨b1,0,none⟩),.pointer (some ⟨b2,0,none⟩)] w (fun v w'=>Dsk (grow S w w') w' g { D with l:=insA D.l k (some ((getF D k).1.take n,n)) }∧ModS S ED w w'):=by
 obtain⟨r,μ,hB,hM,hSg,hSr,hF⟩:=hD.ex
 have hW1:=Nat.le_refl w.heap.size
 have hroom:=hok.room
 have hmost:=hok.most
 obtain⟨hk1,hk2⟩:=hF.there hk
 have hX:=ModS.refl S ED w
 refine eN 34 Tryz.func141 ?_
 refine Ab ?_
 refine Bj (fun w1 w2=>Ext w1 w2) mixed ?_
 intro w1 hE1
 have hX:=hX.ext hE1
 have hB:=hB.ext hE1
 have hM:=hM.ext hE1
 have hF:=hF.ext hE1
 have hb0:=hb0.ext hE1
 have hb1:=hb1.ext hE1
 have hb2:=hb2.ext hE1
 have hSr0:(fun w1 w2=>Ext w1 w2) w1 w1:=Ext.refl w1
 refine hT 0 rfl hSr0 (fun wS hSS=>by(have hb0:=hb0.ext hSS;exact(Ae un34 rfl (hb0.cell (rfl))))) ?_
 refine hT 1 rfl hSr0 (fun wS hSS=>by(exact(Ag rfl))) ?_
 refine hT 2 rfl hSr0 (fun wS hSS=>by(exact(Ad Dp sz100 rfl))) ?_
 refine hT 3 rfl hSr0 (fun wS hSS=>by(have hB:=hB.ext hSS;exact(Ae un100 rfl (hB.cell (rfl))))) ?_
 refine hT 4 rfl hSr0 (fun wS hSS=>by(have hb1:=hb1.ext hSS;exact(Ae un9 rfl (hb1.cell (rfl))))) ?_
 obtain⟨⟨p0,n0,c0,s0⟩,hr0⟩:∃ x:Raw,x=(μ k).getD raw0:=⟨_,rfl⟩
 obtain⟨hF0,hs0⟩:=hF.get k
 rw[← hr0] at hF0 hs0
 simp only at hF0 hs0
 refine hT 5 rfl hSr0 (fun wS hSS=>by(have hM:=hM.ext hSS;exact(((lookF u100 zr113 (C3 u9) hM k rfl rfl).1).cast (by rw[← hr0];rfl:_=Value.agg #[.slice p0 n0 c0,.int .i64 (s0:Int)])))) ?_
 refine h1L 6 (fun Q6 hQ6=>?_)
 have hXs:=hX.size
 refine Ay zr113 ?_
 intro w2 g3 hN3
 have hE2:=hN3.ext
 have hX:=hX.ext hE2
 have hB:=hB.ext hE2
 have hM:=hM.ext hE2
 have hF:=hF.ext hE2
 have hb0:=hb0.ext hE2
 have hb1:=hb1.ext hE2
 have hb2:=hb2.ext hE2
 have hSr0:=hSr0.ext hE2
 have hB3:=hN3.blk
 refine An hQ6 ⟨hSr0,?_⟩
 refine h1L 7 (fun Q7 hQ7=>?_)
 have hg3:w.heap.size≤g3:=by rw[hN3.g_eq];exact hXs
 refine Al rfl (by conv=>lhs;whnf) (by simp[Value.oneCell']) (by exact sz113) hB3 (by rfl) ?_
 intro w3 hP3
 have hX:=hX.put hP3 (⟨.inr (by rw[hN3.g_eq];exact hXs),by decide⟩)
 have hB:=hB.one hP3.one (by decide)
 have hM:=hM.mod (hP3.mod 0 (Nat.zero_le _)) (Nat.zero_le _) (by decide)
 have hF:=hF.one hP3.one (by decide)
 have hb0:=hb0.one hP3.one (by decide)
 have hb1:=hb1.one hP3.one (by decide)
 have hb2:=hb2.one hP3.one (by decide)
 have hSr0:=hSr0.put hP3 (by rw[hN3.g_eq];exact Nat.le_refl _)
 have hB3:=hP3.blk
 refine An hQ7 ⟨hSr0,?_⟩
 refine A7 (by kernel_rfl) ?_
 refine t_n (Ab ?_)
 refine Cx 12 mixed (by kernel_rfl) ?_
 intro w4 hE4
 have hX:=hX.ext hE4
 have hB:=hB.ext hE4
 have hM:=hM.ext hE4
 have hF:=hF.ext hE4
 have hb0:=hb0.ext hE4
 have hb1:=hb1.ext hE4
 have hb2:=hb2.ext hE4
 have hB3:=hB3.ext hE4
 refine s1 (Ae un34 rfl (hb0.cell (rfl))) ?_
 refine s1 (Ag rfl) ?_
 refine s1 (Ad Gm sz3 rfl) ?_
 refine s1 (Ae un3 rfl (hB.cell (rfl))) ?_
 refine s1 (Ad Gk sz23 rfl) ?_
 refine s1 (Ae un23 rfl (hB3.cell (rfl))) ?_
 refine s1 (Ar u23 rfl) ?_
 refine s1 (Ae un3 rfl (hb2.cell (rfl))) ?_
 have hF0:=(hF.get k).1
 rw[← hr0] at hF0
 simp only at hF0
 have hgl:=(F2 hok k).1
 have hlen0:=hF0.len
 unfold getF ascF at hgl
 try unfold getF ascF at hn
 refine s1 (Dg rfl rfl (Am (by omega) (by omega))) ?_
 refine s1 (Dg rfl rfl (Am (by omega) (by omega))) ?_
 refine s1 (Ag rfl) ?_
 refine s1 (Ad Gm sz3 rfl) ?_
 refine Bx ?_
 refine Aw rfl (by conv=>lhs;whnf) rfl rfl sz3 hB (by simp) ?_
 intro w5 hP5
 have hX:=hX.put hP5 (⟨.inl hSg,by decide⟩)
 have hB:=hP5.blk
 try simp only[List.setIfInBounds_toArray,List.set_cons_zero,List.set_cons_succ] at hB
 have hM:=hM.mod (hP5.mod 0 (Nat.zero_le _)) (Nat.zero_le _) (by decide)
 have hF:=hF.one hP5.one (by decide)
 have hb0:=hb0.one hP5.one (by decide)
 have hb1:=hb1.one hP5.one (by decide)
 have hb2:=hb2.one hP5.one (by decide)
 have hB3:=hB3.one hP5.one (by decide)
 refine Ac (t_n ?_)
 refine Cx 12 mixed (by kernel_rfl) ?_
 intro w6 hE6
 have hX:=hX.ext hE6
 have hB:=hB.ext hE6
 have hM:=hM.ext hE6
 have hF:=hF.ext hE6
 have hb0:=hb0.ext hE6
 have hb1:=hb1.ext hE6
 have hb2:=hb2.ext hE6
 have hB3:=hB3.ext hE6
 refine s1 (Ae un34 rfl (hb0.cell (rfl))) ?_
 refine s1 (Ag rfl) ?_
 refine s1 (Ad Dp sz100 rfl) ?_
 refine s1 (Ae un100 rfl (hB.cell (rfl))) ?_
 refine s1 (Ae un9 rfl (hb1.cell (rfl))) ?_
 refine s1 (Ad Gk sz23 rfl) ?_
 refine s1 (Ae un23 rfl (hB3.cell (rfl))) ?_
 refine s1 (Ae un3 rfl (hb2.cell (rfl))) ?_
 refine s1 (Ae un3 rfl (hb2.cell (rfl))) ?_
 have hcc:=hF0.cap
 have hlen0:=hF0.len
 try unfold getF ascF at hn
 refine s1 (Oh u23 sz5 rfl rfl rfl (by omega) (by omega) (by omega)) ?_
 refine s1 (Ae un3 rfl (hb2.cell (rfl))) ?_
 refine s1 (I0 pl113 (by conv=>lhs;whnf) (by conv=>lhs;whnf) rfl rfl) ?_
 refine Bx ?_
 have hMt7:=hM.tyOf
 refine Fs (a:=k) (b:=(p0,n,n,n)) u100 (C3 u9) rfl rfl rfl hM rfl (Nat.zero_le _) (by decide) ?_
 intro w7 hM hMm7 hne7
 have hO7:=One.ofMod hMm7 hMt7 hne7
 have hX:=hX.one hO7 ⟨.inl hSr,by decide⟩
 have hB:=hB.one hO7 (by decide)
 have hF:=hF.one hO7 (by decide)
 have hF0:=(hF.get k).1
 rw[← hr0] at hF0
 simp only at hF0
 have hF:=hF.put hok.rise k (p0,n,n,n) ((getF D k).1.take n,n) rfl (hF0.cut n (by omega)) (fun k' y hn hy=>by have h9:=R6 hF hk1 k' y hn hy;rw[← hr0] at h9;exact h9)
 refine Ac ?_
 refine end0n rfl ?_
 have hu:=Eo hok hk (some ((getF D k).1.take n,n))
 unfold getF ascF at hu
 simp only[Option.map_some,Option.getD_some,List.length_take] at hu
 try unfold getF ascF at hn
 exact⟨Dsk.made hB (by unfold getF ascF at *;omega) hM hSg hSr hF Ev,hX⟩
end Go.Proofs.Eng
end
section
set_option maxRecDepth 100000
set_option maxHeartbeats 4000000
namespace Go.Proofs.Eng
open Go.RowKit
open Extern.Stop (cell)
theorem Ji (g:Nat) (S:Nat→Prop) (D:DS) (w:World) (hD:Dsk S w g D) (hok:DOk D) (hst:D.steps<4611686018427387904) (hle:D.left≤9223372036854775807) (k:ByteArray) (hks:k.size≤9223372036854775807) :
    Ret Tryz.prog 18 [.pointer (some ⟨g,0,none⟩),.string k] w (fun v w'=>v = .int .i64 (A9 D k).2∧Dsk (grow S w w') w' g (A9 D k).1∧ModS S ED w w'):=by
 have hX:=Ext.refl w
 refine eN 28 Tryz.func18 ?_
 refine Ab (Aa ?_)
 refine D9 (by conv=>lhs;whnf) rfl ?_
 intro w1 g2 hN2
 have hE1:=hN2.ext
 have hX:=hX.ext hE1
 have hD:=hD.ext hE1
 have hB2:=hN2.blk
 refine D9 (by conv=>lhs;whnf) rfl ?_
 intro w2 g3 hN3
 have hE2:=hN3.ext
 have hX:=hX.ext hE2
 have hD:=hD.ext hE2
 have hB2:=hB2.ext hE2
 have hB3:=hN3.blk
 refine pA (Ac (t_n (Ab (Ab (Aa ?_)))))
 refine p1 (Ae un34 rfl (hB2.cell (rfl))) ?_
 refine p1 (Ae un9 rfl (hB3.cell (rfl))) ?_
 refine Av u74 inf9 rfl (by decide) (fun base hb=>Br (by rfl) base hb) ?_
 intro w3 g8 hN8
 have hE3:=hN8.ext
 have hX:=hX.ext hE3
 have hD:=hD.ext hE3
 have hB2:=hB2.ext hE3
 have hB3:=hB3.ext hE3
 have hS8:Sl kStr 9 0 w3 (some ⟨g8,0,none⟩) 1 1 [k]:=(B4 (B0:=0) [k] hN8 (Nat.zero_le _) (by simp)).sl
 refine oC Tryz.func60 (E8 g S D _ hD [k] 0 _ _ _ hS8 (by intro s hs';simp only[List.mem_singleton] at hs';subst hs';exact hks)) ?_
 rintro v4 w4 ⟨rfl,hE4⟩
 have hX:=hX.ext hE4
 have hD:=hD.ext hE4
 have hB2:=hB2.ext hE4
 have hB3:=hB3.ext hE4
 refine pA (Ac (t_n (Ap (Ab (Aa ?_)))))
 refine pM ?_
 refine p1 (A2 rfl rfl) ?_
 refine pA (Ac (t_n ?_))
 refine As rfl (fun hc10=>?_) (fun hc10=>?_)
 ·have hp:A9 D k=(D,lookD D [k]):=if_pos hc10
  refine Ab (Aa ?_)
  refine pM (pA (Ac (t_n (Ao (b_r (t_r ?_))))))
  refine eR1 ?_
  exact⟨by rw[hp],by rw[hp];exact hD.grown w,ModS.ofExt hX⟩
 refine Ab (Aa ?_)
 refine p1 (Ae un34 rfl (hB2.cell (rfl))) ?_
 refine p1 (Ae un9 rfl (hB3.cell (rfl))) ?_
 refine oC Tryz.func61 (E3 g S D _ hD k) ?_
 rintro v5 w5 ⟨rfl,hE5⟩
 have hX:=hX.ext hE5
 have hD:=hD.ext hE5
 have hB2:=hB2.ext hE5
 have hB3:=hB3.ext hE5
 refine pA (Ac (t_n ?_))
 refine As rfl (fun hc14=>?_) (fun hc14=>?_)
 ·have hp:A9 D k=(D,23):=by unfold A9;rw[if_neg hc10,if_pos hc14]
  refine Ab (Aa ?_)
  refine pA (Ac (t_n (Ao (b_r (t_r ?_)))))
  refine eR1 ?_
  exact⟨by rw[hp],by rw[hp];exact hD.grown w,ModS.ofExt hX⟩
 refine Ab (Aa ?_)
 obtain⟨r,μ,hB,hM,hSg,hSr,hF⟩:=hD.ex
 refine p1 (Ae un34 rfl (hB2.cell (rfl))) ?_
 refine p1 (Ag rfl) ?_
 refine p1 (Ad Dp sz100 rfl) ?_
 refine p1 (Ae un100 rfl (hB.cell (rfl))) ?_
 refine p1 (Oj u100 hM hF hok.rise rfl) ?_
 refine p1 (M4 rfl rfl) ?_
 refine pA (Ac (t_n ?_))
 refine As rfl (fun hc18=>?_) (fun hc18=>?_)
 ·have hp:A9 D k=(D,21):=by unfold A9;rw[if_neg hc10,if_neg hc14,if_pos (by omega)]
  refine Ab (Aa ?_)
  refine pA (Ac (t_n (Ao (b_r (t_r ?_)))))
  refine eR1 ?_
  exact⟨by rw[hp],by rw[hp];exact hD.grown w,ModS.ofExt hX⟩
 have hp:A9 D k=stepD D (insA D.l k (some ([],0))) true false:=by unfold A9;rw[if_neg hc10,if_neg hc14,if_neg (by omega)]
 have hk:ascA D.l k=none:=Classical.byContradiction fun e=>hc14 e
 refine Ak (b_n (t_n (Ab (Aa ?_))))
 refine p1 (Ae un34 rfl (hB2.cell (rfl))) ?_
 refine p1 (Ch (fs:=[]) (cs:=[.pointer (some ⟨g2,0,none⟩),.pointer (some ⟨g3,0,none⟩)]) rfl rfl) ?_
 have hXs:=hX.size
 refine oC Tryz.func62 (Gz g S D _ hD hok hst hle 63 _ Tryz.func63 fn63 fb63 [.pointer (some ⟨g2,0,none⟩),.pointer (some ⟨g3,0,none⟩)] (insA D.l k (some ([],0))) true false (fun w1 hE1=>P4 g S D _ (hD.ext hE1) hok k hk g2 g3 (hB2.ext hE1) (hB3.ext hE1))) ?_
 rintro v6 w6 ⟨rfl,hD2,hM2⟩
 refine pA (Ac (t_n (Ao ?_)))
 refine eR1 ?_
 exact⟨by rw[hp],by rw[hp];exact hD2.wide hXs,(ModS.ofExt hX).trans hM2 (fun _ _ h=>h)⟩
theorem Mx (g:Nat) (S:Nat→Prop) (D:DS) (w:World) (hD:Dsk S w g D) (hok:DOk D) (hst:D.steps<4611686018427387904) (hle:D.left≤9223372036854775807) (k:ByteArray) (hks:k.size≤9223372036854775807) :
    Ret Tryz.prog 20 [.pointer (some ⟨g,0,none⟩),.string k] w (fun v w'=>v = .int .i64 (syncD D k).2∧Dsk (grow S w w') w' g (syncD D k).1∧ModS S ED w w'):=by
 have hX:=Ext.refl w
 refine eN 22 Tryz.func20 ?_
 refine Ab (Aa ?_)
 refine D9 (by conv=>lhs;whnf) rfl ?_
 intro w1 g2 hN2
 have hE1:=hN2.ext
 have hX:=hX.ext hE1
 have hD:=hD.ext hE1
 have hB2:=hN2.blk
 refine D9 (by conv=>lhs;whnf) rfl ?_
 intro w2 g3 hN3
 have hE2:=hN3.ext
 have hX:=hX.ext hE2
 have hD:=hD.ext hE2
 have hB2:=hB2.ext hE2
 have hB3:=hN3.blk
 refine pA (Ac (t_n (Ab (Ab (Aa ?_)))))
 refine p1 (Ae un34 rfl (hB2.cell (rfl))) ?_
 refine p1 (Ae un9 rfl (hB3.cell (rfl))) ?_
 refine Av u74 inf9 rfl (by decide) (fun base hb=>Br (by rfl) base hb) ?_
 intro w3 g8 hN8
 have hE3:=hN8.ext
 have hX:=hX.ext hE3
 have hD:=hD.ext hE3
 have hB2:=hB2.ext hE3
 have hB3:=hB3.ext hE3
 have hS8:Sl kStr 9 0 w3 (some ⟨g8,0,none⟩) 1 1 [k]:=(B4 (B0:=0) [k] hN8 (Nat.zero_le _) (by simp)).sl
 refine oC Tryz.func60 (E8 g S D _ hD [k] 0 _ _ _ hS8 (by intro s hs';simp only[List.mem_singleton] at hs';subst hs';exact hks)) ?_
 rintro v4 w4 ⟨rfl,hE4⟩
 have hX:=hX.ext hE4
 have hD:=hD.ext hE4
 have hB2:=hB2.ext hE4
 have hB3:=hB3.ext hE4
 refine pA (Ac (t_n (Ap (Ab (Aa ?_)))))
 refine pM ?_
 refine p1 (A2 rfl rfl) ?_
 refine pA (Ac (t_n ?_))
 refine As rfl (fun hc10=>?_) (fun hc10=>?_)
 ·have hp:syncD D k=(D,lookD D [k]):=if_pos hc10
  refine Ab (Aa ?_)
  refine pM (pA (Ac (t_n (Ao (b_r (t_r ?_))))))
  refine eR1 ?_
  exact⟨by rw[hp],by rw[hp];exact hD.grown w,ModS.ofExt hX⟩
 refine Ab (Aa ?_)
 refine p1 (Ae un34 rfl (hB2.cell (rfl))) ?_
 refine p1 (Ae un9 rfl (hB3.cell (rfl))) ?_
 refine oC Tryz.func61 (E3 g S D _ hD k) ?_
 rintro v5 w5 ⟨rfl,hE5⟩
 have hX:=hX.ext hE5
 have hD:=hD.ext hE5
 have hB2:=hB2.ext hE5
 have hB3:=hB3.ext hE5
 refine p1 (Ez rfl) ?_
 refine pA (Ac (t_n ?_))
 refine As rfl (fun hc14=>?_) (fun hc14=>?_)
 ·have hk:ascF D.l k=none:=by simpa using hc14
  have hp:syncD D k=(D,22):=by unfold syncD;rw[if_neg hc10,if_pos hk]
  refine Ab (Aa ?_)
  refine pA (Ac (t_n (Ao (b_r (t_r ?_)))))
  refine eR1 ?_
  exact⟨by rw[hp],by rw[hp];exact hD.grown w,ModS.ofExt hX⟩
 have hk:¬ ascF D.l k=none:=by simpa using hc14
 have hp:syncD D k=stepD D (insA D.l k (some ((getF D k).1,(getF D k).1.length))) false false:=by unfold syncD;rw[if_neg hc10,if_neg hk]
 refine Ak (b_n (t_n (Ab (Aa ?_))))
 refine p1 (Ae un34 rfl (hB2.cell (rfl))) ?_
 refine p1 (Ch (fs:=[]) (cs:=[.pointer (some ⟨g2,0,none⟩),.pointer (some ⟨g3,0,none⟩)]) rfl rfl) ?_
 have hXs:=hX.size
 refine oC Tryz.func62 (Gz g S D _ hD hok hst hle 65 _ Tryz.func65 fn65 fb65 [.pointer (some ⟨g2,0,none⟩),.pointer (some ⟨g3,0,none⟩)] (insA D.l k (some ((getF D k).1,(getF D k).1.length))) false false (fun w1 hE1=>Td g S D _ (hD.ext hE1) hok k hk g2 g3 (hB2.ext hE1) (hB3.ext hE1))) ?_
 rintro v6 w6 ⟨rfl,hD2,hM2⟩
 refine pA (Ac (t_n (Ao ?_)))
 refine eR1 ?_
 exact⟨by rw[hp],by rw[hp];exact hD2.wide hXs,(ModS.ofExt hX).trans hM2 (fun _ _ h=>h)⟩
theorem D0 (g:Nat) (S:Nat→Prop) (D:DS) (w:World) (hD:Dsk S w g D) (hok:DOk D) (hst:D.steps<4611686018427387904) (hle:D.left≤9223372036854775807) (k:ByteArray) (hks:k.size≤9223372036854775807) :
    Ret Tryz.prog 95 [.pointer (some ⟨g,0,none⟩),.string k] w (fun v w'=>v = .int .i64 (B3 D k).2∧Dsk (grow S w w') w' g (B3 D k).1∧ModS S ED w w'):=by
 have hX:=Ext.refl w
 refine eN 22 Tryz.func95 ?_
 refine Ab (Aa ?_)
 refine D9 (by conv=>lhs;whnf) rfl ?_
 intro w1 g2 hN2
 have hE1:=hN2.ext
 have hX:=hX.ext hE1
 have hD:=hD.ext hE1
 have hB2:=hN2.blk
 refine D9 (by conv=>lhs;whnf) rfl ?_
 intro w2 g3 hN3
 have hE2:=hN3.ext
 have hX:=hX.ext hE2
 have hD:=hD.ext hE2
 have hB2:=hB2.ext hE2
 have hB3:=hN3.blk
 refine pA (Ac (t_n (Ab (Ab (Aa ?_)))))
 refine p1 (Ae un34 rfl (hB2.cell (rfl))) ?_
 refine p1 (Ae un9 rfl (hB3.cell (rfl))) ?_
 refine Av u74 inf9 rfl (by decide) (fun base hb=>Br (by rfl) base hb) ?_
 intro w3 g8 hN8
 have hE3:=hN8.ext
 have hX:=hX.ext hE3
 have hD:=hD.ext hE3
 have hB2:=hB2.ext hE3
 have hB3:=hB3.ext hE3
 have hS8:Sl kStr 9 0 w3 (some ⟨g8,0,none⟩) 1 1 [k]:=(B4 (B0:=0) [k] hN8 (Nat.zero_le _) (by simp)).sl
 refine oC Tryz.func60 (E8 g S D _ hD [k] 0 _ _ _ hS8 (by intro s hs';simp only[List.mem_singleton] at hs';subst hs';exact hks)) ?_
 rintro v4 w4 ⟨rfl,hE4⟩
 have hX:=hX.ext hE4
 have hD:=hD.ext hE4
 have hB2:=hB2.ext hE4
 have hB3:=hB3.ext hE4
 refine pA (Ac (t_n (Ap (Ab (Aa ?_)))))
 refine pM ?_
 refine p1 (A2 rfl rfl) ?_
 refine pA (Ac (t_n ?_))
 refine As rfl (fun hc10=>?_) (fun hc10=>?_)
 ·have hp:B3 D k=(D,lookD D [k]):=if_pos hc10
  refine Ab (Aa ?_)
  refine pM (pA (Ac (t_n (Ao (b_r (t_r ?_))))))
  refine eR1 ?_
  exact⟨by rw[hp],by rw[hp];exact hD.grown w,ModS.ofExt hX⟩
 refine Ab (Aa ?_)
 refine p1 (Ae un34 rfl (hB2.cell (rfl))) ?_
 refine p1 (Ae un9 rfl (hB3.cell (rfl))) ?_
 refine oC Tryz.func61 (E3 g S D _ hD k) ?_
 rintro v5 w5 ⟨rfl,hE5⟩
 have hX:=hX.ext hE5
 have hD:=hD.ext hE5
 have hB2:=hB2.ext hE5
 have hB3:=hB3.ext hE5
 refine p1 (Ez rfl) ?_
 refine pA (Ac (t_n ?_))
 refine As rfl (fun hc14=>?_) (fun hc14=>?_)
 ·have hk:ascF D.l k=none:=by simpa using hc14
  have hp:B3 D k=(D,22):=by unfold B3;rw[if_neg hc10,if_pos hk]
  refine Ab (Aa ?_)
  refine pA (Ac (t_n (Ao (b_r (t_r ?_)))))
  refine eR1 ?_
  exact⟨by rw[hp],by rw[hp];exact hD.grown w,ModS.ofExt hX⟩
 have hk:¬ ascF D.l k=none:=by simpa using hc14
 have hp:B3 D k=stepD D (insA D.l k none) true false:=by unfold B3;rw[if_neg hc10,if_neg hk]
 refine Ak (b_n (t_n (Ab (Aa ?_))))
 refine p1 (Ae un34 rfl (hB2.cell (rfl))) ?_
 refine p1 (Ch (fs:=[]) (cs:=[.pointer (some ⟨g2,0,none⟩),.pointer (some ⟨g3,0,none⟩)]) rfl rfl) ?_
 have hXs:=hX.size
 refine oC Tryz.func62 (Gz g S D _ hD hok hst hle 142 _ Tryz.func142 fn142 fb142 [.pointer (some ⟨g2,0,none⟩),.pointer (some ⟨g3,0,none⟩)] (insA D.l k none) true false (fun w1 hE1=>P2 g S D _ (hD.ext hE1) hok k hk g2 g3 (hB2.ext hE1) (hB3.ext hE1))) ?_
 rintro v6 w6 ⟨rfl,hD2,hM2⟩
 refine pA (Ac (t_n (Ao ?_)))
 refine eR1 ?_
 exact⟨by rw[hp],by rw[hp];exact hD2.wide hXs,(ModS.ofExt hX).trans hM2 (fun _ _ h=>h)⟩
theorem U7 (g:Nat) (S:Nat→Prop) (D:DS) (w:World) (hD:Dsk S w g D) (hok:DOk D) (hst:D.steps<4611686018427387904) (hle:D.left≤9223372036854775807) (old now:ByteArray) (hos:old.size≤9223372036854775807) (hns:now.size≤9223372036854775807) :
    Ret Tryz.prog 102 [.pointer (some ⟨g,0,none⟩),.string old,.string now] w (fun v w'=>v = .int .i64 (Bv D old now).2∧Dsk (grow S w w') w' g (Bv D old now).1∧ModS S ED w w'):=by
 have hX:=Ext.refl w
 refine eN 25 Tryz.func102 ?_
 refine Ab (Aa ?_)
 refine D9 (by conv=>lhs;whnf) rfl ?_
 intro w1 g3 hN3
 have hE1:=hN3.ext
 have hX:=hX.ext hE1
 have hD:=hD.ext hE1
 have hB3:=hN3.blk
 refine D9 (by conv=>lhs;whnf) rfl ?_
 intro w2 g4 hN4
 have hE2:=hN4.ext
 have hX:=hX.ext hE2
 have hD:=hD.ext hE2
 have hB3:=hB3.ext hE2
 have hB4:=hN4.blk
 refine D9 (by conv=>lhs;whnf) rfl ?_
 intro w3 g5 hN5
 have hE3:=hN5.ext
 have hX:=hX.ext hE3
 have hD:=hD.ext hE3
 have hB3:=hB3.ext hE3
 have hB4:=hB4.ext hE3
 have hB5:=hN5.blk
 refine pA (Ac (t_n (Ab (Ab (Aa ?_)))))
 refine p1 (Ae un34 rfl (hB3.cell (rfl))) ?_
 refine p1 (Ae un9 rfl (hB4.cell (rfl))) ?_
 refine p1 (Ae un9 rfl (hB5.cell (rfl))) ?_
 refine Av u74 inf9 rfl (by decide) (fun base hb=>Ed [.string old,.string now] (by intro v hv';simp only[List.mem_cons,List.not_mem_nil,or_false] at hv';rcases hv' with rfl | rfl <;> rfl) base hb) ?_
 intro w4 g11 hN11
 have hE4:=hN11.ext
 have hX:=hX.ext hE4
 have hD:=hD.ext hE4
 have hB3:=hB3.ext hE4
 have hB4:=hB4.ext hE4
 have hB5:=hB5.ext hE4
 have hS11:Sl kStr 9 0 w4 (some ⟨g11,0,none⟩) 2 2 [old,now]:=(B4 (B0:=0) [old,now] hN11 (Nat.zero_le _) (by simp)).sl
 refine oC Tryz.func60 (E8 g S D _ hD [old,now] 0 _ _ _ hS11 (by intro s hs';simp only[List.mem_cons,List.not_mem_nil,or_false] at hs';rcases hs' with rfl | rfl <;> assumption)) ?_
 rintro v5 w5 ⟨rfl,hE5⟩
 have hX:=hX.ext hE5
 have hD:=hD.ext hE5
 have hB3:=hB3.ext hE5
 have hB4:=hB4.ext hE5
 have hB5:=hB5.ext hE5
 refine pA (Ac (t_n (Ap (Ab (Aa ?_)))))
 refine pM ?_
 refine p1 (A2 rfl rfl) ?_
 refine pA (Ac (t_n ?_))
 refine As rfl (fun hc13=>?_) (fun hc13=>?_)
 ·have hp:Bv D old now=(D,lookD D [old,now]):=if_pos hc13
  refine Ab (Aa ?_)
  refine pM (pA (Ac (t_n (Ao (b_r (t_r ?_))))))
  refine eR1 ?_
  exact⟨by rw[hp],by rw[hp];exact hD.grown w,ModS.ofExt hX⟩
 refine Ab (Aa ?_)
 refine p1 (Ae un34 rfl (hB3.cell (rfl))) ?_
 refine p1 (Ae un9 rfl (hB4.cell (rfl))) ?_
 refine oC Tryz.func61 (E3 g S D _ hD old) ?_
 rintro v6 w6 ⟨rfl,hE6⟩
 have hX:=hX.ext hE6
 have hD:=hD.ext hE6
 have hB3:=hB3.ext hE6
 have hB4:=hB4.ext hE6
 have hB5:=hB5.ext hE6
 refine p1 (Ez rfl) ?_
 refine pA (Ac (t_n ?_))
 refine As rfl (fun hc17=>?_) (fun hc17=>?_)
 ·have hk:ascF D.l old=none:=by simpa using hc17
  have hp:Bv D old now=(D,22):=by unfold Bv;rw[if_neg hc13,if_pos hk]
  refine Ab (Aa ?_)
  refine pA (Ac (t_n (Ao (b_r (t_r ?_)))))
  refine eR1 ?_
  exact⟨by rw[hp],by rw[hp];exact hD.grown w,ModS.ofExt hX⟩
 have hk:¬ ascF D.l old=none:=by simpa using hc17
 have hp:Bv D old now=stepD D (renL D.l old now (getF D old)) true false:=by unfold Bv;rw[if_neg hc13,if_neg hk]
 refine Ak (b_n (t_n (Ab (Aa ?_))))
 refine p1 (Ae un34 rfl (hB3.cell (rfl))) ?_
 refine p1 (Ch (fs:=[]) (cs:=[.pointer (some ⟨g4,0,none⟩),.pointer (some ⟨g5,0,none⟩),.pointer (some ⟨g3,0,none⟩)]) rfl rfl) ?_
 have hXs:=hX.size
 refine oC Tryz.func62 (Gz g S D _ hD hok hst hle 146 _ Tryz.func146 fn146 fb146 [.pointer (some ⟨g4,0,none⟩),.pointer (some ⟨g5,0,none⟩),.pointer (some ⟨g3,0,none⟩)] (renL D.l old now (getF D old)) true false (fun w1 hE1=>P1 g S D _ (hD.ext hE1) hok old now hk g4 g5 g3 (hB4.ext hE1) (hB5.ext hE1) (hB3.ext hE1))) ?_
 rintro v7 w7 ⟨rfl,hD2,hM2⟩
 refine pA (Ac (t_n (Ao ?_)))
 refine eR1 ?_
 exact⟨by rw[hp],by rw[hp];exact hD2.wide hXs,(ModS.ofExt hX).trans hM2 (fun _ _ h=>h)⟩
theorem Jj (g:Nat) (S:Nat→Prop) (D:DS) (w:World) (hD:Dsk S w g D) (hok:DOk D) (hst:D.steps<4611686018427387904) (hle:D.left≤9223372036854775807) (k:ByteArray) (hks:k.size≤9223372036854775807) (e B:Nat) (p:Option Addr) (n c:Nat) (ys:List UInt8) (hl:Sl kByte e B w p n c ys) :
    Ret Tryz.prog 19 [.pointer (some ⟨g,0,none⟩),.string k,.slice p n c] w (fun v w'=>v = .int .i64 (Bm D k ys).2∧Dsk (grow S w w') w' g (Bm D k ys).1∧ModS S ED w w'):=by
 have hX:=Ext.refl w
 refine eN 37 Tryz.func19 ?_
 refine Ab (Aa ?_)
 refine D9 (by conv=>lhs;whnf) rfl ?_
 intro w1 g3 hN3
 have hE1:=hN3.ext
 have hX:=hX.ext hE1
 have hD:=hD.ext hE1
 have hl:=hl.ext hE1
 have hB3:=hN3.blk
 refine D9 (by conv=>lhs;whnf) rfl ?_
 intro w2 g4 hN4
 have hE2:=hN4.ext
 have hX:=hX.ext hE2
 have hD:=hD.ext hE2
 have hl:=hl.ext hE2
 have hB3:=hB3.ext hE2
 have hB4:=hN4.blk
 refine D9 (by conv=>lhs;whnf) rfl ?_
 intro w3 g5 hN5
 have hE3:=hN5.ext
 have hX:=hX.ext hE3
 have hD:=hD.ext hE3
 have hl:=hl.ext hE3
 have hB3:=hB3.ext hE3
 have hB4:=hB4.ext hE3
 have hB5:=hN5.blk
 refine pA (Ac (t_n (Ab (Ab (Aa ?_)))))
 refine p1 (Ae un34 rfl (hB3.cell (rfl))) ?_
 refine p1 (Ae un9 rfl (hB4.cell (rfl))) ?_
 refine Av u74 inf9 rfl (by decide) (fun base hb=>Br (by rfl) base hb) ?_
 intro w4 g10 hN10
 have hE4:=hN10.ext
 have hX:=hX.ext hE4
 have hD:=hD.ext hE4
 have hl:=hl.ext hE4
 have hB3:=hB3.ext hE4
 have hB4:=hB4.ext hE4
 have hB5:=hB5.ext hE4
 have hS10:Sl kStr 9 0 w4 (some ⟨g10,0,none⟩) 1 1 [k]:=(B4 (B0:=0) [k] hN10 (Nat.zero_le _) (by simp)).sl
 refine oC Tryz.func60 (E8 g S D _ hD [k] 0 _ _ _ hS10 (by intro s hs';simp only[List.mem_singleton] at hs';subst hs';exact hks)) ?_
 rintro v5 w5 ⟨rfl,hE5⟩
 have hX:=hX.ext hE5
 have hD:=hD.ext hE5
 have hl:=hl.ext hE5
 have hB3:=hB3.ext hE5
 have hB4:=hB4.ext hE5
 have hB5:=hB5.ext hE5
 refine pA (Ac (t_n (Ap (Ab (Aa ?_)))))
 refine pM ?_
 refine p1 (A2 rfl rfl) ?_
 refine pA (Ac (t_n ?_))
 refine As rfl (fun hc12=>?_) (fun hc12=>?_)
 ·have hp:Bm D k ys=(D,lookD D [k]):=if_pos hc12
  refine Ab (Aa ?_)
  refine pM (pA (Ac (t_n (Ao (b_r (t_r ?_))))))
  refine eR1 ?_
  exact⟨by rw[hp],by rw[hp];exact hD.grown w,ModS.ofExt hX⟩
 refine Ab (Aa ?_)
 refine p1 (Ae un34 rfl (hB3.cell (rfl))) ?_
 refine p1 (Ae un9 rfl (hB4.cell (rfl))) ?_
 refine oC Tryz.func61 (E3 g S D _ hD k) ?_
 rintro v6 w6 ⟨rfl,hE6⟩
 have hX:=hX.ext hE6
 have hD:=hD.ext hE6
 have hl:=hl.ext hE6
 have hB3:=hB3.ext hE6
 have hB4:=hB4.ext hE6
 have hB5:=hB5.ext hE6
 refine p1 (Ez rfl) ?_
 refine pA (Ac (t_n ?_))
 refine As rfl (fun hc16=>?_) (fun hc16=>?_)
 ·have hk:ascF D.l k=none:=by simpa using hc16
  have hp:Bm D k ys=(D,22):=by unfold Bm;rw[if_neg hc12,if_pos hk]
  refine Ab (Aa ?_)
  refine pA (Ac (t_n (Ao (b_r (t_r ?_)))))
  refine eR1 ?_
  exact⟨by rw[hp],by rw[hp];exact hD.grown w,ModS.ofExt hX⟩
 have hk:¬ ascF D.l k=none:=by simpa using hc16
 have hlen:=hl.len
 have hlc:=hl.cap
 have hlf:=hl.fit
 have hroom:=hok.room
 have hmost:=hok.most
 refine Ab ?_
 refine Cy mixed (by kernel_rfl) ?_
 intro w7 hE7
 have hX:=hX.ext hE7
 have hD:=hD.ext hE7
 have hl:=hl.ext hE7
 have hB3:=hB3.ext hE7
 have hB4:=hB4.ext hE7
 have hB5:=hB5.ext hE7
 obtain⟨r,μ,hB,hM,hSg,hSr,hF⟩:=hD.ex
 refine s1 (Ae un23 rfl (hB5.cell (rfl))) ?_
 refine s1 (Ar u23 rfl) ?_
 refine s1 (Ae un34 rfl (hB3.cell (rfl))) ?_
 refine s1 (Ag rfl) ?_
 refine s1 (Ad Adt sz3 rfl) ?_
 refine s1 (Ae un3 rfl (hB.cell (rfl))) ?_
 refine s1 (Ae un34 rfl (hB3.cell (rfl))) ?_
 refine s1 (Ag rfl) ?_
 refine s1 (Ad Gm sz3 rfl) ?_
 refine s1 (Ae un3 rfl (hB.cell (rfl))) ?_
 refine s1 (Dg rfl rfl (Am (by omega) (by omega))) ?_
 refine s1 (Cw rfl rfl) ?_
 refine s1 (Ah (by conv=>lhs;whnf)) ?_
 refine Bx (t_n ?_)
 refine As rfl (fun hc21=>?_) (fun hc21=>?_)
 ·have hp:Bm D k ys=(D,21):=by unfold Bm;rw[if_neg hc12,if_neg hk,if_pos (by rw[hlen];omega)]
  refine Ab (Aa ?_)
  refine pA (Ac (t_n (Ao (b_r (t_r ?_)))))
  refine eR1 ?_
  exact⟨by rw[hp],by rw[hp];exact hD.grown w,ModS.ofExt hX⟩
 have hp:Bm D k ys=stepD D (insA D.l k (some ((getF D k).1++ys,(getF D k).2))) true true:=by unfold Bm;rw[if_neg hc12,if_neg hk,if_neg (by rw[hlen];omega)]
 refine Ak (b_n (t_n (Ab (Aa ?_))))
 refine p1 (Ae un34 rfl (hB3.cell (rfl))) ?_
 refine p1 (Ch (fs:=[]) (cs:=[.pointer (some ⟨g3,0,none⟩),.pointer (some ⟨g4,0,none⟩),.pointer (some ⟨g5,0,none⟩)]) rfl rfl) ?_
 have hXs:=hX.size
 refine oC Tryz.func62 (Gz g S D _ hD hok hst hle 64 _ Tryz.func64 fn64 fb64 [.pointer (some ⟨g3,0,none⟩),.pointer (some ⟨g4,0,none⟩),.pointer (some ⟨g5,0,none⟩)] (insA D.l k (some ((getF D k).1++ys,(getF D k).2))) true true (fun w1 hE1=>P5 g S D _ (hD.ext hE1) hok k hk e B p n c ys (hl.ext hE1) (by omega) g3 g4 g5 (hB3.ext hE1) (hB4.ext hE1) (hB5.ext hE1))) ?_
 rintro v8 w8 ⟨rfl,hD2,hM2⟩
 refine pA (Ac (t_n (Ao ?_)))
 refine eR1 ?_
 exact⟨by rw[hp],by rw[hp];exact hD2.wide hXs,(ModS.ofExt hX).trans hM2 (fun _ _ h=>h)⟩
theorem P3 (g:Nat) (S:Nat→Prop) (D:DS) (w:World) (hD:Dsk S w g D) (hok:DOk D) (hst:D.steps<4611686018427387904) (hle:D.left≤9223372036854775807) (k:ByteArray) (hks:k.size≤9223372036854775807) (n:Int) (hn1:-9223372036854775808≤n) (hn2:n≤9223372036854775807) :
    Ret Tryz.prog 94 [.pointer (some ⟨g,0,none⟩),.string k,.int .i64 n] w (fun v w'=>v = .int .i64 (cutD D k n).2∧Dsk (grow S w w') w' g (cutD D k n).1∧ModS S ED w w'):=by
 have hX:=Ext.refl w
 refine eN 39 Tryz.func94 ?_
 refine Ab (Aa ?_)
 refine D9 (by conv=>lhs;whnf) rfl ?_
 intro w1 g3 hN3
 have hE1:=hN3.ext
 have hX:=hX.ext hE1
 have hD:=hD.ext hE1
 have hB3:=hN3.blk
 refine D9 (by conv=>lhs;whnf) rfl ?_
 intro w2 g4 hN4
 have hE2:=hN4.ext
 have hX:=hX.ext hE2
 have hD:=hD.ext hE2
 have hB3:=hB3.ext hE2
 have hB4:=hN4.blk
 refine D9 (by conv=>lhs;whnf) rfl ?_
 intro w3 g5 hN5
 have hE3:=hN5.ext
 have hX:=hX.ext hE3
 have hD:=hD.ext hE3
 have hB3:=hB3.ext hE3
 have hB4:=hB4.ext hE3
 have hB5:=hN5.blk
 refine pA (Ac (t_n (Ab (Ab (Aa ?_)))))
 refine p1 (Ae un34 rfl (hB3.cell (rfl))) ?_
 refine p1 (Ae un9 rfl (hB4.cell (rfl))) ?_
 refine Av u74 inf9 rfl (by decide) (fun base hb=>Br (by rfl) base hb) ?_
 intro w4 g10 hN10
 have hE4:=hN10.ext
 have hX:=hX.ext hE4
 have hD:=hD.ext hE4
 have hB3:=hB3.ext hE4
 have hB4:=hB4.ext hE4
 have hB5:=hB5.ext hE4
 have hS10:Sl kStr 9 0 w4 (some ⟨g10,0,none⟩) 1 1 [k]:=(B4 (B0:=0) [k] hN10 (Nat.zero_le _) (by simp)).sl
 refine oC Tryz.func60 (E8 g S D _ hD [k] 0 _ _ _ hS10 (by intro s hs';simp only[List.mem_singleton] at hs';subst hs';exact hks)) ?_
 rintro v5 w5 ⟨rfl,hE5⟩
 have hX:=hX.ext hE5
 have hD:=hD.ext hE5
 have hB3:=hB3.ext hE5
 have hB4:=hB4.ext hE5
 have hB5:=hB5.ext hE5
 refine pA (Ac (t_n (Ap (Ab (Aa ?_)))))
 refine pM ?_
 refine p1 (A2 rfl rfl) ?_
 refine pA (Ac (t_n ?_))
 refine As rfl (fun hc12=>?_) (fun hc12=>?_)
 ·try simp only[dA,dB,dC,dD,dE,dF,dG,Int.not_lt,Int.not_le] at hc12
  have hp:cutD D k n=(D,lookD D [k]):=if_pos hc12
  refine Ab (Aa ?_)
  refine pM (pA (Ac (t_n (Ao (b_r (t_r ?_))))))
  refine eR1 ?_
  exact⟨by rw[hp],by rw[hp];exact hD.grown w,ModS.ofExt hX⟩
 try simp only[dA,dB,dC,dD,dE,dF,dG,Int.not_lt,Int.not_le] at hc12
 refine Ab (Aa ?_)
 refine p1 (Ae un34 rfl (hB3.cell (rfl))) ?_
 refine p1 (Ae un9 rfl (hB4.cell (rfl))) ?_
 refine oC Tryz.func61 (E3 g S D _ hD k) ?_
 rintro v6 w6 ⟨rfl,hE6⟩
 have hX:=hX.ext hE6
 have hD:=hD.ext hE6
 have hB3:=hB3.ext hE6
 have hB4:=hB4.ext hE6
 have hB5:=hB5.ext hE6
 refine p1 (Ez rfl) ?_
 refine pA (Ac (t_n ?_))
 refine As rfl (fun hc16=>?_) (fun hc16=>?_)
 ·try simp only[dA,dB,dC,dD,dE,dF,dG,Int.not_lt,Int.not_le] at hc16
  have hk:ascF D.l k=none:=by simpa using hc16
  have hp:cutD D k n=(D,22):=by unfold cutD;rw[if_neg hc12,if_pos hk]
  refine Ab (Aa ?_)
  refine pA (Ac (t_n (Ao (b_r (t_r ?_)))))
  refine eR1 ?_
  exact⟨by rw[hp],by rw[hp];exact hD.grown w,ModS.ofExt hX⟩
 try simp only[dA,dB,dC,dD,dE,dF,dG,Int.not_lt,Int.not_le] at hc16
 have hk:¬ ascF D.l k=none:=by simpa using hc16
 refine Ab ?_
 have hWr6:=Ext.refl w6
 refine Dn (ι:=Unit) (rg 21 15) (fun _=>[(21,.bool (decide (n<0∨((getF D k).1.length:Int)<n)))]) (fun _ w'=>Ext w6 w') ?_ ?_
 ·skip
  refine Cy mixed (by kernel_rfl) ?_
  intro w8 hE8
  have hD:=hD.ext hE8
  have hB3:=hB3.ext hE8
  have hB4:=hB4.ext hE8
  have hB5:=hB5.ext hE8
  have hWr6:=hWr6.ext hE8
  obtain⟨r,μ,hB,hM,hSg,hSr,hF⟩:=hD.ex
  refine s1 (Ae un3 rfl (hB5.cell (rfl))) ?_
  refine s1 (Bi rfl rfl) ?_
  refine s1b (Af (by conv=>lhs;whnf)) (fun hb6_2=>?_) (fun hb6_2=>?_)
  ·try simp only[dA,dB,dC,dD,dE,dF,dG,Int.not_lt,Int.not_le] at hb6_2
   refine sg0 24 rfl (by exact .inl rfl) ?_
   refine sg0 24 rfl (by exact .inl rfl) ?_
   refine sg0 24 rfl (by exact .inl rfl) ?_
   refine sg0 24 rfl (by exact .inl rfl) ?_
   refine sg0 24 rfl (by exact .inl rfl) ?_
   refine sg0 24 rfl (by exact .inl rfl) ?_
   obtain⟨⟨p0,n0,c0,s0⟩,hr0⟩:∃ x:Raw,x=(μ k).getD raw0:=⟨_,rfl⟩
   obtain⟨hF0,hs0⟩:=hF.get k
   rw[← hr0] at hF0 hs0
   simp only at hF0 hs0
   have hlen0:=hF0.len
   refine sg0 24 rfl (by exact .inl rfl) ?_
   refine sg0 24 rfl (by exact .inl rfl) ?_
   refine sg0 24 rfl (by exact .inl rfl) ?_
   refine sg0 24 rfl (by exact .inl rfl) ?_
   refine s1 (Ax rfl (by conv=>lhs;whnf)) ?_
   refine s1 (Ah (by conv=>lhs;whnf)) ?_
   refine Bx ?_
   refine t_n (aK () ⟨congrArg Value.bool (by(unfold getF ascF;exact(decide_eq_true (by omega)).symm)),trivial⟩ hWr6)
  try simp only[dA,dB,dC,dD,dE,dF,dG,Int.not_lt,Int.not_le] at hb6_2
  refine sg1 24 rfl rfl (Ae un3 rfl (hB5.cell (rfl))) ?_
  refine sg1 24 rfl rfl (Ae un34 rfl (hB3.cell (rfl))) ?_
  refine sg1 24 rfl rfl (Ag rfl) ?_
  refine sg1 24 rfl rfl (Ad Dp sz100 rfl) ?_
  refine sg1 24 rfl rfl (Ae un100 rfl (hB.cell (rfl))) ?_
  refine sg1 24 rfl rfl (Ae un9 rfl (hB4.cell (rfl))) ?_
  obtain⟨⟨p0,n0,c0,s0⟩,hr0⟩:∃ x:Raw,x=(μ k).getD raw0:=⟨_,rfl⟩
  obtain⟨hF0,hs0⟩:=hF.get k
  rw[← hr0] at hF0 hs0
  simp only at hF0 hs0
  have hlen0:=hF0.len
  refine sg1 24 rfl rfl (((lookF u100 zr113 (C3 u9) hM k rfl rfl).1).cast (by rw[← hr0];rfl:_=Value.agg #[.slice p0 n0 c0,.int .i64 (s0:Int)])) ?_
  refine sg1 24 rfl rfl (K4 Gk un23 rfl rfl) ?_
  refine sg1 24 rfl rfl (Ar u23 rfl) ?_
  refine sg1 24 rfl rfl (Cw rfl rfl) ?_
  refine s1 (Au rfl (by conv=>lhs;whnf)) ?_
  refine s1 (Ah (by conv=>lhs;whnf)) ?_
  refine Bx ?_
  refine t_n (aK () ⟨congrArg Value.bool (by(unfold getF ascF;exact decide_eq_decide.2 (by omega))),trivial⟩ hWr6)
 rintro _ Gr6 w7 hE7
 have hX:=hX.ext hE7
 have hD:=hD.ext hE7
 have hB3:=hB3.ext hE7
 have hB4:=hB4.ext hE7
 have hB5:=hB5.ext hE7
 refine t_n ?_
 refine As rfl (fun hc21=>?_) (fun hc21=>?_)
 ·try simp only[dA,dB,dC,dD,dE,dF,dG,Int.not_lt,Int.not_le] at hc21
  have hp:cutD D k n=(D,2):=by unfold cutD;rw[if_neg hc12,if_neg hk,if_pos hc21]
  refine Ab (Aa ?_)
  refine pA (Ac (t_n (Ao (b_r (t_r ?_)))))
  refine eR1 ?_
  exact⟨by rw[hp],by rw[hp];exact hD.grown w,ModS.ofExt hX⟩
 try simp only[dA,dB,dC,dD,dE,dF,dG,Int.not_lt,Int.not_le] at hc21
 have hp:cutD D k n=stepD D (insA D.l k (some ((getF D k).1.take n.toNat,n.toNat))) true false:=by unfold cutD;rw[if_neg hc12,if_neg hk,if_neg hc21]
 have hB5:=by rw[show Value.int .i64 n=Value.int .i64 ((n.toNat:Nat):Int) from congrArg _ (by omega)] at hB5;exact hB5
 refine Ak (b_n (t_n (Ab (Aa ?_))))
 refine p1 (Ae un34 rfl (hB3.cell (rfl))) ?_
 refine p1 (Ch (fs:=[]) (cs:=[.pointer (some ⟨g3,0,none⟩),.pointer (some ⟨g4,0,none⟩),.pointer (some ⟨g5,0,none⟩)]) rfl rfl) ?_
 have hXs:=hX.size
 refine oC Tryz.func62 (Gz g S D _ hD hok hst hle 141 _ Tryz.func141 fn141 fb141 [.pointer (some ⟨g3,0,none⟩),.pointer (some ⟨g4,0,none⟩),.pointer (some ⟨g5,0,none⟩)] (insA D.l k (some ((getF D k).1.take n.toNat,n.toNat))) true false (fun w1 hE1=>U9 g S D _ (hD.ext hE1) hok k hk n.toNat (by omega) g3 g4 g5 (hB3.ext hE1) (hB4.ext hE1) (hB5.ext hE1))) ?_
 rintro v9 w9 ⟨rfl,hD2,hM2⟩
 refine pA (Ac (t_n (Ao ?_)))
 refine eR1 ?_
 exact⟨by rw[hp],by rw[hp];exact hD2.wide hXs,(ModS.ofExt hX).trans hM2 (fun _ _ h=>h)⟩
theorem Zh (g:Nat) (S:Nat→Prop) (D:DS) (w:World) (hD:Dsk S w g D) (hok:DOk D) (hst:D.steps<4611686018427387904) (hle:D.left≤9223372036854775807) (n:Int) (hn1:-9223372036854775808≤n) (hn2:n≤9223372036854775807) (dn:Bool) :
    Ret Tryz.prog 24 [.pointer (some ⟨g,0,none⟩),.int .i64 n,.bool dn] w (fun v w'=>v = .int .i64 (failD D n dn).2∧Dsk (grow S w w') w' g (failD D n dn).1∧ModS S ED w w'):=by
 have hX:=Ext.refl w
 refine eN 25 Tryz.func24 ?_
 refine Ab (Aa ?_)
 refine pA (Ac (t_n (Ab (Ab (Aa ?_)))))
 refine pM ?_
 refine oC Tryz.func60 (E8 g S D _ hD [] 0 none 0 0 (Sl.nil _ _ _ _ _ _ (by omega)) (by intro s hs';cases hs')) ?_
 rintro v1 w1 ⟨rfl,hE1⟩
 have hX:=hX.ext hE1
 have hD:=hD.ext hE1
 refine pA (Ac (t_n (Ap (Ab (Aa ?_)))))
 refine pM ?_
 refine p1 (A2 rfl rfl) ?_
 refine pA (Ac (t_n ?_))
 refine As rfl (fun hc10=>?_) (fun hc10=>?_)
 ·have hd:D.down=true:=by cases e:D.down with | true=>rfl | false=>exact absurd (by unfold lookD;simp[e]:lookD D []=0) hc10
  have hl20:lookD D []=20:=by unfold lookD;simp[hd]
  have hp:failD D n dn=(D,lookD D []):=by unfold failD;rw[if_pos hd,hl20]
  refine Ab (Aa ?_)
  refine pM (pA (Ac (t_n (Ao (b_r (t_r ?_))))))
  refine eR1 ?_
  exact⟨by rw[hp],by rw[hp];exact hD.grown w,ModS.ofExt hX⟩
 have hd:¬ D.down=true:=fun e=>absurd (by unfold lookD;simp[e]:lookD D []=20) (by omega)
 refine Ab (Aa ?_)
 refine pM ?_
 refine p1 (Bi rfl rfl) ?_
 refine pA (Ac (t_n ?_))
 refine As rfl (fun hc14=>?_) (fun hc14=>?_)
 ·have hp:failD D n dn=(D,2):=by unfold failD;rw[if_neg hd,if_pos hc14]
  refine Ab (Aa ?_)
  refine pA (Ac (t_n (Ao (b_r (t_r ?_)))))
  refine eR1 ?_
  exact⟨by rw[hp],by rw[hp];exact hD.grown w,ModS.ofExt hX⟩
 have hp:failD D n dn=({ D with left:=n,done:=dn },0):=by unfold failD;rw[if_neg hd,if_neg (by omega)]
 refine Ak (b_n (t_n (Ab ?_)))
 obtain⟨r,μ,hB,hM,hSg,hSr,hF⟩:=hD.ex
 have hXe:=hX.size
 have hX:=ModS.ofExt (S:=S) (E:=ED) hX
 refine Aa ?_
 refine pM (pM (pM (pM ?_)))
 refine p1 (Ag rfl) ?_
 refine p1 (Ad Hm sz3 rfl) ?_
 refine Aw rfl (by conv=>lhs;whnf) rfl rfl sz3 hB (by simp) ?_
 intro w2 hP2
 have hB:=hP2.blk
 simp only[List.setIfInBounds_toArray,List.set_cons_zero,List.set_cons_succ] at hB
 have hX:=hX.put hP2 ⟨.inl hSg,by decide⟩
 have hM:=hM.mod (hP2.mod 0 (Nat.zero_le _)) (Nat.zero_le _) (by decide)
 have hF:=hF.one hP2.one (by decide)
 refine p1 (Ag rfl) ?_
 refine p1 (Ad X0 sz4 rfl) ?_
 refine Aw rfl (by conv=>lhs;whnf) rfl rfl sz4 hB (by simp) ?_
 intro w3 hP3
 have hX:=hX.put hP3 (⟨.inl hSg,by decide⟩)
 have hB:=hP3.blk
 try simp only[List.setIfInBounds_toArray,List.set_cons_zero,List.set_cons_succ] at hB
 have hM:=hM.mod (hP3.mod 0 (Nat.zero_le _)) (Nat.zero_le _) (by decide)
 have hF:=hF.one hP3.one (by decide)
 refine Ac (t_n (Ab (Aa ?_)))
 refine pA (Ac (t_n (Ao ?_)))
 refine eR1 ?_
 exact⟨by rw[hp],by rw[hp];exact Dsk.of (D:={ D with left:=n,done:=dn }) hB hM hSg hSr hF Ev,hX⟩
end Go.Proofs.Eng
end
section
namespace Go.Proofs.Eng
open Go.RowKit
open Extern.Stop (cell)
set_option maxRecDepth 100000
set_option maxHeartbeats 4000000
section
open Go.Proofs Go.Shelf
theorem Ad7:∀ (a b:List UInt8),Op.bytesLess a b=decide (a<b)
  | _,[]=>by simp[Op.bytesLess,List.not_lt_nil]
  | [],_ :: _=>by simp[Op.bytesLess]
  | a :: x, b :: y => by
    unfold Op.bytesLess
    rw[Ad7 x y,Bool.eq_iff_iff]
    simp only[Bool.or_eq_true,Bool.and_eq_true,decide_eq_true_eq,beq_iff_eq,List.cons_lt_cons_iff]
theorem R8 (l:List UInt8):(ByteArray.mk l.toArray).toList=l:=by
  rw[ByteArray.toList_eq]
def ofL (l:List UInt8):ByteArray:=⟨l.toArray⟩
theorem Sn {e:TypeId} {B B0:Nat} {w:World} {g n c:Nat} {xs:List ByteArray} (h:Own kStr e B B0 w (some ⟨g,0,none⟩) n c xs) (hn:0<n) (m:Nat) (d':List (List UInt8)) (hd:d'.length=n) (os:Array Obj) :
    Own kStr e B B0 (Sort.grow (Sort.putRow encStr (Sort.ahead w m) g 0 d'.toArray) os) (some ⟨g,0,none⟩) n c (d'.map ofL)∧Mod B0 e w (Sort.grow (Sort.putRow encStr (Sort.ahead w m) g 0 d'.toArray) os):=by
  obtain⟨g',cur,css,e1,h2,h3,h4,h5,h6,ha,hlf,ht⟩:=h.block hn
  injection e1 with e1;injection e1 with e1;subst e1
  have hlt:=h3.lt
  have hsz:(Sort.putRow encStr (Sort.ahead w m) g 0 d'.toArray).heap.size=w.heap.size:=by rw[Sort.size_putRow];rfl
  have hcell:∀ k,k<w.heap.size→(Sort.grow (Sort.putRow encStr (Sort.ahead w m) g 0 d'.toArray) os).heap[k]? = (Sort.putRow encStr (Sort.ahead w m) g 0 d'.toArray).heap[k]? := fun k hk=>Sort.heap_grow_old _ os (by rw[hsz];exact hk)
  have hother:∀ k,k≠g→(Sort.putRow encStr (Sort.ahead w m) g 0 d'.toArray).heap[k]? = w.heap[k]? := fun k hk=>by
    simp only[Sort.putRow,Sort.mapBlock,Sort.ahead,Array.getElem?_modify]
    rw[if_neg (fun e=>hk e.symm)]
  have hgb:(Sort.putRow encStr (Sort.ahead w m) g 0 d'.toArray).heap[g]? = some (.cells (Sort.putCells encStr 0 d'.toArray cur) e (0,0)):=by
    simp only[Sort.putRow,Sort.mapBlock,Sort.ahead,Array.getElem?_modify]
    rw[if_pos trivial]
    have:w.heap[g]? = some (.cells cur e (0,0)):=h3
    rw[this];rfl
  have hb:Blk (Sort.grow (Sort.putRow encStr (Sort.ahead w m) g 0 d'.toArray) os) g (Sort.putCells encStr 0 d'.toArray cur) e:=(hcell g hlt).trans hgb
  have hm:Mod B0 e w (Sort.grow (Sort.putRow encStr (Sort.ahead w m) g 0 d'.toArray) os):=by
    refine⟨?_,fun k hk ho=>?_,fun k hk=>?_,?_,rfl,rfl,rfl⟩
    · rw[Sort.size_grow,hsz];omega
    · have hne : k ≠ g := by
        intro ek;subst ek
        rcases ho with ho | ho
        · omega
        · exact ho h3.ty
      exact(hcell k hk).trans (hother k hne)
    · by_cases ek : k = g
      · subst ek;rw[hb.ty,h3.ty]
      · exact B7 ((hcell k hk).trans (hother k ek))
    · exact Nat.le_refl _
  have hz:kStr.sz=1:=rfl
  refine⟨Own.remade h2 hb h4 h5 (by rw[hz] at h6 ⊢;simp[Sort.putCells,h6]) (by simp[hd]) (C6 B _ (d'.map ofL)) ?_,hm⟩
  rw[hz,Nat.mul_one]
  rw[hz,Nat.mul_one] at h6
  apply List.ext_getElem?
  intro j
  rw[List.getElem?_take]
  have hfl:((d'.map ofL).map fun s=>[Value.string s]).flatten=d'.map encStr:=by
    rw[List.map_map]
    clear hd hsz hcell hother hgb hb hm
    induction d' with
    | nil=>rfl
    | cons x l ih=>simp only[List.map_cons,List.flatten_cons,ih];rfl
  rw[hfl]
  by_cases hj:j<n
  · rw [if_pos hj, Array.getElem?_toList]
    have hjc:j<cur.size:=by omega
    simp only[Sort.putCells,Array.getElem?_mapIdx,Array.getElem?_eq_getElem hjc,Option.map_some]
    rw[if_pos ⟨Nat.zero_le _,by simp;omega⟩,Nat.sub_zero,List.getElem?_map,List.getElem?_eq_getElem (show j<d'.length by omega)]
    rw[getElem!_pos d'.toArray j (by simp;omega)]
    simp
  · rw[if_neg hj,List.getElem?_eq_none (by simp;omega)]
theorem Ql {e:TypeId} {B B0:Nat} {w:World} {g n c:Nat} {xs:List ByteArray} (h:Own kStr e B B0 w (some ⟨g,0,none⟩) n c xs) (hn:0<n):Sort.Holds encStr w g 0 (xs.map (·.toList)).toArray:=by
  obtain⟨g',cur,css,e1,h2,h3,h4,h5,h6,ha,hlf,ht⟩:=h.block hn
  injection e1 with e1;injection e1 with e1;subst e1
  have hlen:=h.len
  intro j hj
  have hj':j<xs.length:=by simpa using hj
  refine⟨?_,frozen_of_row w g _ cur e h3⟩
  have:=h.sl.strAt j (by omega)
  refine (show w.cell? ⟨g,0+j,none⟩=_ from this).trans ?_
  rw[getElem!_pos _ j hj]
  have e2:(xs.map (·.toList)).toArray[j]=(xs[j]).toList:=by simp
  rw[e2,List.getD_eq_getElem?_getD,List.getElem?_eq_getElem hj',Option.getD_some]
  have:encStr (xs[j]).toList=Value.string (ofL (xs[j]).toList):=rfl
  rw[this]
  exact congrArg (fun s=>some (Value.string s)) (F3 (R8 _).symm)
theorem Wh (s:ByteArray):ofL s.toList=s:=F3 (R8 _)
theorem Nt (xs:List ByteArray) (B0:Nat) (p:Option Addr) (n c:Nat) (w:World) (hO:Own kStr 9 0 B0 w p n c xs) (hs:n≤4194304000) (hnd:xs.Nodup) :
    Ret Tryz.prog 84 [.slice p n c] w (fun v w'=>∃ ys,Own kStr 9 0 B0 w' p n c ys∧ys.Perm xs∧ys.Pairwise (fun a b=>lssB a b=true)∧Mod B0 9 w w'):=by
  rcases Nat.eq_zero_or_pos n with h0 | h0
  · subst h0
    have hx0:xs=[]:=List.eq_nil_of_length_eq_zero hO.len
    subst hx0
    refine⟨Calls.mono (Tryz.slices_Sort_string_none p c w) ?_⟩
    rintro e w' ⟨rfl,rfl⟩
    exact⟨_,rfl,[],hO,.refl _,.nil,.refl _ _ _⟩
  · obtain ⟨g, cur, css, e1, h2, h3, _⟩ := hO.block h0
    subst e1
    have hlen:=hO.len
    have hc:=Tryz.slices_Sort_string g 0 c (xs.map (·.toList)) w (Ql hO h0) h3.lt (by simp;omega)
    have hsz:(xs.map (·.toList)).length=n:=by simpa using hlen
    rw[hsz] at hc
    refine⟨Calls.mono hc ?_⟩
    rintro e w' ⟨rfl,m,os,rfl⟩
    have hpp:=List.mergeSort_perm (xs.map (·.toList)) (fun x y=>decide (x≤y))
    have hd:=hpp.length_eq.trans hsz
    obtain⟨ho',hm'⟩:=Sn hO h0 m _ hd os
    have hperm:(((xs.map (·.toList)).mergeSort fun x y=>decide (x≤y)).map ofL).Perm xs:=by
      have:=hpp.map ofL
      rw[List.map_map] at this
      have e3:xs.map (ofL∘fun x=>x.toList)=xs:=by
        conv=>rhs;rw[← List.map_id xs]
        exact List.map_congr_left fun s _=>Wh s
      rwa [e3] at this
    refine⟨_,rfl,_,ho',hperm,?_,hm'⟩
    have hso:((xs.map (·.toList)).mergeSort fun x y=>decide (x≤y)).Pairwise (fun x y=>x≤y):=by
      have:=List.pairwise_mergeSort (le:=fun x y:List UInt8=>decide (x≤y)) (fun a b c h1 h2=>by simp only[decide_eq_true_eq] at *;exact List.le_trans h1 h2) (fun a b=>by simp only[Bool.or_eq_true,decide_eq_true_eq];exact List.le_total a b) (xs.map (·.toList))
      exact this.imp fun h=>by simpa using h
    have hnd2:(((xs.map (·.toList)).mergeSort fun x y=>decide (x≤y)).map ofL).Nodup:=hperm.nodup_iff.2 hnd
    rw[List.pairwise_map]
    have hnd3:=List.pairwise_map.1 hnd2
    refine (hso.and hnd3).imp fun {x y} ⟨h1,h2⟩=>?_
    show Op.bytesLess (ofL x).toList (ofL y).toList=true
    unfold ofL
    rw[R8,R8]
    rcases Qa x y with h | h | h
    · exact absurd (congrArg ofL h) h2
    · exact h
    · rw [Ad7] at h
      exact absurd (of_decide_eq_true h) (List.not_lt.2 h1)
end
end Go.Proofs.Eng
end
section
set_option maxRecDepth 100000
set_option maxHeartbeats 4000000
namespace Go.Proofs.Eng
open Go.RowKit
open Extern.Stop (cell)
theorem Cp (xs:List UInt8) (e B:Nat) (p:Option Addr) (n c:Nat) (w:World) (hl:Sl kByte e B w p n c xs) (hs:n≤4194304000) :
    Ret Tryz.prog 58 [.slice p n c] w (fun v w'=>(∃ q c',v = .slice q n c'∧Own kByte 5 0 w.heap.size w' q n c' xs)∧Ext w w'):=by
 have hX:=Ext.refl w
 refine eN 8 Tryz.func58 ?_
 refine Ab (Aa ?_)
 refine pA (Ac (t_n (Ab (Ab (Aa ?_)))))
 refine pM ?_
 refine p1 (E4 u23 rfl rfl) ?_
 refine Ac (t_n ?_)
 refine As rfl (fun hc4=>?_) (fun hc4=>?_)
 ·have hn:n=0:=by
    rcases Nat.eq_zero_or_pos n with h | h
    · exact h
    · have:=hl.adr Bb h;rw[hc4] at this;cases this
  have hx0:xs=[]:=List.eq_nil_of_length_eq_zero (by rw[hl.len,hn])
  have hp:Own kByte 5 0 w.heap.size w none 0 0 xs:=by rw[hx0];exact Own.nil _ _ _ _ _
  refine Ab (Aa ?_)
  refine pA (Ac (t_n (Ao (t_r ?_))))
  refine eR1 ?_
  (subst hn;exact⟨⟨none,0,rfl,hp⟩,hX⟩)
 refine Ak (t_n (Ab (Aa ?_)))
 refine Av u23 inf5 rfl (by decide) (fun base hb=>by have h0:base=#[]:=Array.eq_empty_of_size_eq_zero (by simpa using hb);subst h0;rfl) ?_
 intro w1 g5 hN5
 have hE1:=hN5.ext
 have hX:=hX.ext hE1
 have hO:Own kByte 5 0 w.heap.size w1 (some ⟨g5,0,none⟩) 0 0 []:=Own.made kByte 5 0 _ hN5 [] [] 0 0 rfl trivial (by have:=hX.size;have:=hN5.g_eq;have:=hN5.ext.size;omega) (by omega) (by omega) (by rfl) (by simp)
 refine pM ?_
 have hB0:=hX.size
 have hl2:=hl.ext hX
 refine Az (d:=kByte) (xs) u23 inf5 rfl Bb rfl rfl hO (Ba u23 hl2 (by decide)) hl.len (B6 _ _ _) (rfl) (by omega) (by omega) (by omega) (by omega) (by decide) ?_
 intro p7 c7 w2 hO hM2
 have hX:=hX.mod hM2 (Nat.le_refl _)
 refine pA (Ac (t_n (Ao ?_)))
 refine eR1 ?_
 exact⟨⟨_,_,by rw[Nat.zero_add],by rw[List.nil_append,Nat.zero_add] at hO;exact hO⟩,hX⟩
theorem Wy (g:Nat) (S:Nat→Prop) (D:DS) (w:World) (hD:Dsk S w g D) :
    Ret Tryz.prog 73 [.pointer (some ⟨g,0,none⟩)] w (fun v w'=>v = .int .i64 (D.steps:Int)∧Ext w w'):=by
 obtain⟨r,μ,hB,hM,hSg,hSr,hF⟩:=hD.ex
 have hX:=Ext.refl w
 refine eN 9 Tryz.func73 ?_
 refine Ab (Aa ?_)
 refine pA (Ac (t_n (Ab (Ab (Aa ?_)))))
 refine pM ?_
 refine p1 ((Cc u34 rfl rfl).cast (congrArg _ (decide_eq_false (by simp)))) ?_
 refine Ac (t_n ?_)
 refine c_f rfl ?_
 refine Ak (t_n (Ab (Aa ?_)))
 refine pM ?_
 refine p1 (Ag rfl) ?_
 refine p1 (Ad Tb sz3 rfl) ?_
 refine p1 (Ae un3 rfl (hB.cell (rfl))) ?_
 refine pA (Ac (t_n (Ao ?_)))
 refine eR1 ?_
 exact⟨rfl,hX⟩
theorem Zi (g:Nat) (S:Nat→Prop) (D:DS) (w:World) (hD:Dsk S w g D) :
    Ret Tryz.prog 43 [.pointer (some ⟨g,0,none⟩)] w (fun v w'=>v = .bool D.down∧Ext w w'):=by
 obtain⟨r,μ,hB,hM,hSg,hSr,hF⟩:=hD.ex
 have hX:=Ext.refl w
 refine eN 11 Tryz.func43 ?_
 refine Ab (Aa ?_)
 refine pA (Ac (t_n (Ab (Aa ?_))))
 refine pM ?_
 refine p1 ((Fc u34 rfl rfl).cast (congrArg _ (decide_eq_true (by simp)))) ?_
 refine pM (gM 5 ?_)
 refine Eng.g1 5 rfl rfl (Ag rfl) ?_
 refine Eng.g1 5 rfl rfl (Ad Kf sz4 rfl) ?_
 refine Eng.g1 5 rfl rfl (Ae un4 rfl (hB.cell (rfl))) ?_
 refine p1 (Ax rfl (by conv=>lhs;whnf)) ?_
 refine pA (Ac (t_n (Ao ?_)))
 refine eR1 ?_
 exact⟨rfl,hX⟩
theorem U8 (most:Int) (w:World) :
    Ret Tryz.prog 13 [.int .i64 most] w (fun v w'=>(∃ g,v = .pointer (some ⟨g,0,none⟩)∧Dsk (grow (fun _=>False) w w') w' g (newD most))∧Ext w w'):=by
 have hX:=Ext.refl w
 refine eN 9 Tryz.func13 ?_
 refine Ab (Aa ?_)
 refine pA (Ac (t_n (Ab (Aa ?_))))
 refine pM ?_
 refine p1 ((Zr rfl rfl).cast (congrArg (Value.int .i64) (by split <;> omega:_=min most 16777216))) ?_
 refine p1 ((Zs rfl rfl).cast (congrArg (Value.int .i64) (by split <;> omega:_=max 0 (min most 16777216)))) ?_
 have hXs:=hX.size
 refine K1 (κ:=ByteArray) (ν:=Raw) ?_
 intro w1 g6 hE1 hK6
 have hX:=hX.ext hE1
 have hM:=hK6 kkStr vFile 0 w.heap.size (hXs)
 refine p1 (Zw pl102 rfl rfl rfl) ?_
 have hXs5:=hX.size
 refine Bu (by conv=>lhs;whnf) ?_
 intro w2 g8 hN8
 have hE2:=hN8.ext
 have hX:=hX.ext hE2
 have hM:=hM.ext hE2
 have hB8:=hN8.blk
 refine pA (Ac (t_n (Ao ?_)))
 refine eR1 ?_
 exact⟨⟨g8,rfl,Ade hB8 hM (by rw[hN8.g_eq];exact hXs5) hX⟩,hX⟩
theorem H8 (g:Nat) (S:Nat→Prop) (D:DS) (w:World) (hD:Dsk S w g D) (hok:DOk D) (k:ByteArray) (hks:k.size≤9223372036854775807) :
    Ret Tryz.prog 37 [.pointer (some ⟨g,0,none⟩),.string k] w (fun v w'=>(∃ q n' c',v = .tuple #[.slice q n' c',.int .i64 (readD D k).2]∧Own kByte 5 0 w.heap.size w' q n' c' (readD D k).1)∧Ext w w'):=by
 have hX:=Ext.refl w
 refine eN 28 Tryz.func37 ?_
 refine Ab (Aa ?_)
 refine pA (pA (Ac (t_n (Ab (Ab (Aa ?_))))))
 refine pM (pM ?_)
 refine Av u74 inf9 rfl (by decide) (fun base hb=>Br (by rfl) base hb) ?_
 intro w1 g9 hN9
 have hE1:=hN9.ext
 have hX:=hX.ext hE1
 have hD:=hD.ext hE1
 have hS9:Sl kStr 9 0 w1 (some ⟨g9,0,none⟩) 1 1 [k]:=(B4 (B0:=0) [k] hN9 (Nat.zero_le _) (by simp)).sl
 refine oC Tryz.func60 (E8 g S D _ hD [k] 0 _ _ _ hS9 (by intro s hs';simp only[List.mem_singleton] at hs';subst hs';exact hks)) ?_
 rintro v2 w2 ⟨rfl,hE2⟩
 have hX:=hX.ext hE2
 have hD:=hD.ext hE2
 refine pA (Ac (t_n (Ap (Ab (Aa ?_)))))
 refine pM ?_
 refine p1 (A2 rfl rfl) ?_
 refine pA (Ac (t_n ?_))
 refine As rfl (fun hc11=>?_) (fun hc11=>?_)
 ·have hp:readD D k=([],lookD D [k]):=if_pos hc11
  refine Ab (Aa ?_)
  refine pM (pA (pA (Ac (t_n (Ao (b_r (t_r ?_)))))))
  refine eR2 ?_
  exact⟨⟨none,0,0,by rw[hp],by rw[hp];exact Own.nil _ _ _ _ _⟩,hX⟩
 refine Ab (Aa ?_)
 refine pM (pM ?_)
 refine oC Tryz.func61 (E3 g S D _ hD k) ?_
 rintro v3 w3 ⟨rfl,hE3⟩
 have hX:=hX.ext hE3
 have hD:=hD.ext hE3
 refine p1 (Ez rfl) ?_
 refine pA (Ac (t_n ?_))
 refine As rfl (fun hc15=>?_) (fun hc15=>?_)
 ·have hk:ascF D.l k=none:=by simpa using hc15
  have hp:readD D k=([],22):=by unfold readD;rw[if_neg hc11,if_pos hk]
  refine Ab (Aa ?_)
  refine pA (pA (Ac (t_n (Ao (b_r (t_r ?_))))))
  refine eR2 ?_
  exact⟨⟨none,0,0,by rw[hp],by rw[hp];exact Own.nil _ _ _ _ _⟩,hX⟩
 have hk:¬ ascF D.l k=none:=by simpa using hc15
 have hp:readD D k=((getF D k).1,0):=by unfold readD;rw[if_neg hc11,if_neg hk]
 refine Ak (b_n (t_n (Ab ?_)))
 obtain⟨r,μ,hB,hM,hSg,hSr,hF⟩:=hD.ex
 have hXs:=hX.size
 refine Aa ?_
 refine pM ?_
 refine p1 (Ag rfl) ?_
 refine p1 (Ad Dp sz100 rfl) ?_
 refine p1 (Ae un100 rfl (hB.cell (rfl))) ?_
 refine pM ?_
 obtain⟨⟨p0,n0,c0,s0⟩,hr0⟩:∃ x:Raw,x=(μ k).getD raw0:=⟨_,rfl⟩
 obtain⟨hF0,hs0⟩:=hF.get k
 rw[← hr0] at hF0 hs0
 simp only at hF0 hs0
 have hgl:=(F2 hok k).1
 have hroom:=hok.room
 have hmost:=hok.most
 have hlen0:=hF0.len
 unfold getF ascF at hgl
 refine p1 (((lookF u100 zr113 (C3 u9) hM k rfl rfl).1).cast (by rw[← hr0];rfl:_=Value.agg #[.slice p0 n0 c0,.int .i64 (s0:Int)])) ?_
 refine p1 (K4 Gk un23 rfl rfl) ?_
 refine oC Tryz.func58 (Cp _ _ _ _ _ _ _ hF0.sl (by omega)) ?_
 rintro v4 w4 ⟨⟨q7,c7,rfl,hO⟩,hE4⟩
 have hX:=hX.ext hE4
 have hO:=hO.lower hXs
 refine pA (pA (Ac (t_n (Ao ?_))))
 refine eR2 ?_
 exact⟨⟨_,_,_,by rw[hp],by rw[hp];exact hO⟩,hX⟩
theorem Wz (g r:Nat) (S:Nat→Prop) (v0 v1 v3 v4 v5 v6:Value) (l:List Fl) (μ:ByteArray→Option Raw) (w:World) (hB:Blk w g #[v0,v1,.map (some r),v3,v4,v5,v6] tDisk) (hM:Mp kkStr vFile 0 0 w r μ) (hF:Fls S w μ l) (hri:RiseNA l) (hfew:l.length≤64) :
    Ret Tryz.prog 35 [.pointer (some ⟨g,0,none⟩)] w (fun v w'=>(∃ q c,v = .slice q l.length c∧Own kStr 9 0 w.heap.size w' q l.length c (l.map (·.1)))∧Ext w w'):=by
 have hX:=Ext.refl w
 refine eN 29 Tryz.func35 ?_
 refine Ab (Aa ?_)
 refine pA (Ac (t_n (Ab (Ab (Aa ?_)))))
 refine pM ?_
 refine p1 ((Cc u34 rfl rfl).cast (congrArg _ (decide_eq_false (by simp)))) ?_
 refine Ac (t_n ?_)
 refine c_f rfl ?_
 refine Ak (t_n (Ab ?_))
 have hXs:=hX.size
 refine Aa ?_
 refine pM ?_
 refine p1 (Ag rfl) ?_
 refine p1 (Ad Dp sz100 rfl) ?_
 refine p1 (Ae un100 rfl (hB.cell (rfl))) ?_
 refine p1 (Oj u100 hM hF hri rfl) ?_
 refine Aax u74 inf9 rfl rfl (by omega) (by omega) (by omega) (by omega) ?_
 intro w1 g12 hN12
 have hE1:=hN12.ext
 have hX:=hX.ext hE1
 have hB:=hB.ext hE1
 have hM:=hM.ext hE1
 have hO:Own kStr 9 0 w.heap.size w1 (some ⟨g12,0,none⟩) 0 l.length []:=Own.made kStr 9 0 _ hN12 [] [] 0 _ rfl trivial hXs (by omega) (by omega) (Y5 _ _) (by simp)
 refine pA (Ac (t_n (Ab (Ab (Aa ?_)))))
 refine pM ?_
 refine p1 (Ag rfl) ?_
 refine p1 (Ad Dp sz100 rfl) ?_
 refine p1 (Ae un100 rfl (hB.cell (rfl))) ?_
 have hXs:=hX.size
 refine Ss u100 rfl hM ?_
 intro w2 it17 hE2 hit17 hK17
 have hX:=hX.ext hE2
 have hO:=hO.ext hE2
 have hR:=hK17 w.heap.size (hXs)
 refine Ac (t_n (Ap ?_))
 have hks:∀ vs:List ByteArray,vs.Nodup→(∀ z∈vs,μ z≠none)→vs.length≤l.length:=fun vs h1 h2=>by have:=Rh h1 (ks:=l.map (·.1)) (fun z hz=>G0.1 (fun e=>h2 z hz ((hF.iff z).2 e)));rwa [List.length_map] at this
 refine Bc (ι:=List ByteArray×Option Addr×Nat×Nat) ([3,4]++rg 18 8) (fun (vs,q3,m3,c3)=>[(3,.slice q3 m3 c3)]) (fun (vs,q3,m3,c3) w'=>Ext w w'∧(Rg kkStr vFile 0 w.heap.size w' r it17 μ vs∧Own kStr 9 0 w.heap.size w' q3 m3 c3 vs)) (fun (vs,q3,m3,c3)=>l.length - vs.length) (([],some ⟨g12,0,none⟩,0,l.length)) ⟨rfl,trivial⟩ ⟨hX,⟨hR,hO⟩⟩ ?_
 rintro⟨vs,q3,m3,c3⟩ GL0 w3 ⟨hE3,hR,hO⟩
 have hX:=hE3
 have hml:=hO.len
 have hvl:=hks vs hR.nd hR.sub
 refine Ab (Aa ?_)
 refine Wi rfl hR (Nat.zero_le _) (by decide) (fun hdone18=>?_) (fun w4 a18 b18 v18 hna18 hmu18 hR hM4=>?_)
 ·skip
  refine p1 (Aj rfl rfl) ?_
  refine Ac (t_n (Ab ?_))
  refine c_f rfl ?_
  have hall:∀ z,z∈vs↔z∈l.map (·.1):=fun z=>⟨fun hz=>G0.1 fun e=>hR.sub z hz ((hF.iff z).2 e),fun hz=>hdone18 z fun e=>G0.2 hz ((hF.iff z).1 e)⟩
  refine A8 (t_e (t_e (Bq (t_n (Ab ?_)))))
  have hnd:=hR.nd
  refine Aa ?_
  refine pM ?_
  refine oC Tryz.func84 (Nt vs w.heap.size _ _ _ _ hO (by omega) hR.nd) ?_
  rintro v5 w5 ⟨ys,hO,hpm,hso,hM5⟩
  have hX:=hX.mod hM5 (Nat.le_refl _)
  refine Ac (t_n (Ab (Aa ?_)))
  refine pM (pA (Ac (t_n (Ao ?_))))
  refine eR1 ?_
  have hyy:ys=l.map (·.1):=Y3 hso (List.pairwise_map.2 hri) fun z=>(hpm.mem_iff).trans (hall z)
  have hml:=hO.len
  rw[hyy,List.length_map] at hml
  subst hml
  exact⟨⟨_,_,rfl,by rw[← hyy];exact hO⟩,hX⟩
 skip
 have hX:=hX.mod hM4 (Nat.le_refl _)
 have hO:=hO.mod hM4 (Nat.zero_le _) (by decide)
 have hvl2:=hks _ hR.nd hR.sub
 simp only[List.length_append,List.length_cons,List.length_nil] at hvl2
 refine p1 (Aj rfl rfl) ?_
 refine Ac (t_n (Ab ?_))
 refine c_t rfl ?_
 refine Ak (t_n (Ap (Ab ?_)))
 obtain⟨b20,v20,hb20,hv20,hen20⟩:=hR.entry
 refine Aa ?_
 refine p1 (hen20 rfl) ?_
 refine p1 (Aj rfl rfl) ?_
 refine pA (Ac (t_n (Aa ?_)))
 refine pM (pM ?_)
 refine Av u74 inf9 rfl (by decide) (fun base hb=>Br (by rfl) base hb) ?_
 intro w6 g24 hN24
 have hE6:=hN24.ext
 have hX:=hX.ext hE6
 have hO:=hO.ext hE6
 have hR:=hR.ext hE6
 have hJ:Own kStr 9 0 0 w6 (some ⟨g24,0,none⟩) 1 1 [a18]:=B4 [a18] hN24 (Nat.zero_le _) (by simp)
 have hB1:=hX.size
 refine Az (d:=kStr) ([a18]) u74 inf9 rfl Ej rfl rfl hO (Ba u74 hJ.sl (by decide)) rfl (C6 _ _ _) (rfl) (by omega) (by omega) (by omega) (by omega) (by decide) ?_
 intro p25 c25 w7 hO hM7
 have hX:=hX.mod hM7 (Nat.le_refl _)
 have hR:=hR.mod hM7 (Nat.zero_le _) (by decide)
 refine pA (Ac (b_n ?_))
 refine t_n (aK ((vs++[a18],p25,m3+1,c25)) ⟨rfl,trivial⟩ ?_)
 exact⟨⟨hX,⟨hR,hO⟩⟩,by show l.length - (vs++[a18]).length<l.length - vs.length;simp only[List.length_append,List.length_cons,List.length_nil];omega⟩
theorem My (g:Nat) (S:Nat→Prop) (D:DS) (w:World) (hD:Dsk S w g D) (hok:DOk D) :
    Ret Tryz.prog 35 [.pointer (some ⟨g,0,none⟩)] w (fun v w'=>(∃ q c,v = .slice q D.l.length c∧Own kStr 9 0 w.heap.size w' q D.l.length c (D.l.map (·.1)))∧Ext w w'):=by
  obtain⟨r,μ,hB,hM,hSg,hSr,hF⟩:=hD.ex
  exact Wz g r S _ _ _ _ _ _ D.l μ w hB hM hF hok.rise hok.few
end Go.Proofs.Eng
end
section
set_option maxRecDepth 100000
set_option maxHeartbeats 4000000
namespace Go.Proofs.Eng
open Go.RowKit
open Extern.Stop (cell)
theorem E7 (b:Bool) (e:Int) (w:World) :
    RetP Tryz.prog 181 [.bool b,.int .i64 e] w (fun v w'=>b=true∧Ext w w') (fun ch w'=>b=false∧ch=[{ v := .iface 232 (.agg #[.int .i64 e]),recovered:=false }]∧Ext w w'):=by
 have hX:=Ext.refl w
 refine Aet 9 _ Tryz.func181 rfl rfl (Nat.le_of_ble_eq_true rfl) rfl ?_
 refine Ab (Aa ?_)
 refine pM ?_
 refine p1 (Ht rfl) ?_
 refine Ac (t_n ?_)
 refine Dm rfl (fun hc5=>?_) (fun hc5=>?_)
 ·have hb:b=false:=by simpa using hc5
  refine Aa ?_
  refine pM ?_
  refine p1 (Zy pl232 rfl rfl) ?_
  refine p1 (Yc ua232 rfl) ?_
  refine Ac8 rfl ?_
  skip
  exact Aev ⟨hb,rfl,hX⟩
 have hb:b=true:=by simpa using hc5
 refine Ak ?_
 exact Aew rfl ⟨hb,hX⟩
structure Rcv (w:World) (a0 a1 a2:Nat) (e:Int) (w':World):Prop where
  b0:Blk w' a0 #[.int .u8 0,.slice none 0 0] 187
  b1:Blk w' a1 #[.int .i64 0] 3
  b2:Blk w' a2 #[.int .i64 e] 31
  fx:Fx w a0 a1 a2 w'
theorem u20i:Tryz.prog.underlying 20=some (.interface (Tryz.prog.methodsAt 20)):=by kernel_rfl
theorem Gr (a0 a1 a2:Nat) (x0 y0 x1 x2:Value) (e:Int) (w:World) (hC0:Blk w a0 #[x0,y0] 187) (hC1:Blk w a1 #[x1] 3) (hC2:Blk w a2 #[x2] 31) (h01:a0<a1) (h12:a1<a2) :
    CallsD Tryz.prog 180 #[.pointer (some ⟨a0,0,none⟩),.pointer (some ⟨a1,0,none⟩),.pointer (some ⟨a2,0,none⟩)] (.panicking [{ v := .iface 232 (.agg #[.int .i64 e]),recovered:=false }]) w (fun e' u' w'=>(∃ v,e' = .returned v)∧u' = .panicking [{ v := .iface 232 (.agg #[.int .i64 e]),recovered:=true }]∧Rcv w a0 a1 a2 e w'):=by
 refine Abx 20 [.pointer (some ⟨a0,0,none⟩),.pointer (some ⟨a1,0,none⟩),.pointer (some ⟨a2,0,none⟩)] Tryz.func180 rfl rfl (Nat.le_of_ble_eq_true rfl) rfl (fun c₀ fs hu=>?_)
 have hX:=Fx.refl w a0 a1 a2
 refine Ab1 ?_
 refine Ty ?_
 refine (show LstS _ _ _ [0,1] _ _ _ from ?_)
 refine Ael rfl (Sm hu) ?_
 refine Afc rfl (Ah rfl) ?_
 refine Aa4 ?_
 refine Ae4 ?_
 refine Ad6 ?_
 refine Ab ?_
 refine Aa ?_
 refine pM ?_
 refine p1 (M2 u20i rfl rfl) ?_
 refine Ac ?_
 refine t_n ?_
 refine c_t (rfl) ?_
 refine Ab ?_
 refine Aa ?_
 refine pM ?_
 refine p1 (Zz ua232 rfl) ?_
 refine pM ?_
 refine p1 (Aj rfl rfl) ?_
 refine p1 (Aj rfl rfl) ?_
 have hlt:=hC2.lt
 refine Ay zr232 ?_
 intro w1 g4 hN4
 have hE1:=hN4.ext
 have hX:=hX.ext hE1
 have hC0:=hC0.ext hE1
 have hC1:=hC1.ext hE1
 have hC2:=hC2.ext hE1
 have hB4:=hN4.blk
 have hge4:=hN4.g_eq
 have hXs4:=hN4.ext.size
 refine Al rfl (by conv=>lhs;whnf) (by simp[Value.oneCell']) (by exact sz232) hB4 (by rfl) ?_
 intro w2 hP2
 have hX:=hX.put hP2 (.inr (.inr (.inr (by omega))))
 have hC0:=hP2.keep hC0 (by omega)
 have hC1:=hP2.keep hC1 (by omega)
 have hC2:=hP2.keep hC2 (by omega)
 have hB4:=hP2.blk
 refine pA (Ac ?_)
 refine t_n ?_
 refine Ab ?_
 refine Ab ?_
 refine Aa ?_
 refine pM ?_
 refine p1 (Ht rfl) ?_
 refine Ac ?_
 refine t_n ?_
 refine c_f (rfl) ?_
 refine Ak ?_
 refine t_n ?_
 have hge4:=hge4
 refine Bj (fun _ w2=>Blk w2 g4 #[.int .i64 e] 232) mixed ?_
 intro w3 hE3
 have hX:=hX.ext hE3
 have hC0:=hC0.ext hE3
 have hC1:=hC1.ext hE3
 have hC2:=hC2.ext hE3
 have hB4:=hB4.ext hE3
 have hSr5:(fun _ w2=>Blk w2 g4 #[.int .i64 e] 232) w3 w3:=hB4
 refine hT 0 rfl hSr5 (fun wS hSS=>by(exact(Dl pl187 rfl))) ?_
 refine hT 1 rfl hSr5 (fun wS hSS=>by(exact(Ad Adr sz31 rfl))) ?_
 refine hT 2 rfl hSr5 (fun wS hSS=>by(have hB4:=hSS;exact(Ae un31 rfl (hB4.cell rfl)))) ?_
 refine h1L 3 (fun Q3 hQ3=>?_)
 refine Al rfl (by conv=>lhs;whnf) (by simp[Value.oneCell']) (by exact sz187) hC0 (by rfl) ?_
 intro w4 hP4
 have hX:=hX.put hP4 (.inl rfl)
 have hC0:=hP4.blk
 have hC1:=hP4.keep hC1 (by omega)
 have hC2:=hP4.keep hC2 (by omega)
 have hB4:=hP4.keep hB4 (by omega)
 have hSr5:=hP4.keep hSr5 (by omega)
 refine An hQ3 ⟨hSr5,?_⟩
 refine h1L 4 (fun Q4 hQ4=>?_)
 refine Aw rfl (by conv=>lhs;whnf) rfl rfl sz3 hC1 (by simp) ?_
 intro w5 hP5
 have hX:=hX.put hP5 (.inr (.inl rfl))
 have hC0:=hP5.keep hC0 (by omega)
 have hC1:=hP5.blk
 try simp only[List.setIfInBounds_toArray,List.set_cons_zero,List.set_cons_succ] at hC1
 have hC2:=hP5.keep hC2 (by omega)
 have hB4:=hP5.keep hB4 (by omega)
 have hSr5:=hP5.keep hSr5 (by omega)
 refine An hQ4 ⟨hSr5,?_⟩
 refine h1L 5 (fun Q5 hQ5=>?_)
 refine Aw rfl (by conv=>lhs;whnf) rfl rfl sz31 hC2 (by simp) ?_
 intro w6 hP6
 have hX:=hX.put hP6 (.inr (.inr (.inl rfl)))
 have hC0:=hP6.keep hC0 (by omega)
 have hC1:=hP6.keep hC1 (by omega)
 have hC2:=hP6.blk
 try simp only[List.setIfInBounds_toArray,List.set_cons_zero,List.set_cons_succ] at hC2
 have hB4:=hP6.keep hB4 (by omega)
 have hSr5:=hP6.keep hSr5 (by omega)
 refine An hQ5 ⟨hSr5,?_⟩
 refine A7 (by kernel_rfl) ?_
 exact⟨rfl,_,rfl,.tuple #[],results_none rfl _ _ _,⟨_,rfl⟩,rfl,⟨hC0,hC1,hC2,hX⟩⟩
theorem Wg (a0 a1 a2:Nat) (w:World) :
    CallsD Tryz.prog 180 #[.pointer (some ⟨a0,0,none⟩),.pointer (some ⟨a1,0,none⟩),.pointer (some ⟨a2,0,none⟩)] .returning w (fun e' u' w'=>(∃ v,e' = .returned v)∧u' = .returning∧w'=w):=by
  refine Abx 20 [.pointer (some ⟨a0,0,none⟩),.pointer (some ⟨a1,0,none⟩),.pointer (some ⟨a2,0,none⟩)] Tryz.func180 rfl rfl (Nat.le_of_ble_eq_true rfl) rfl (fun c₀ fs hu=>?_)
  refine Ab1 ?_
  refine Ty ?_
  refine (show LstS _ _ _ [0,1] _ _ _ from ?_)
  refine Adg rfl (Sk hu) ?_
  refine Afc rfl (Ah rfl) ?_
  refine Aa4 ?_
  refine Ae4 ?_
  refine Ad6 ?_
  refine Ab ?_
  refine Aa ?_
  refine pM ?_
  refine p1 (K3 u20i rfl rfl) ?_
  refine Ac ?_
  refine t_n ?_
  refine c_f rfl ?_
  refine Ak ?_
  exact⟨rfl,.returning,by cases c₀;simp_all,.tuple #[],results_none rfl _ _ _,⟨_,rfl⟩,rfl,rfl⟩
end Go.Proofs.Eng
end
section
set_option maxRecDepth 100000
set_option maxHeartbeats 4000000
namespace Go.Proofs.Eng
open Go.RowKit
open Extern.Stop (cell)
theorem El {xs:List UInt8} {w w1 w':World} {g2 g3 g4:Nat} {e:Int} (hp:openF xs=noF e) (hX:Ext w w1) (hR:Rcv w1 g2 g3 g4 e w') (h2:w.heap.size≤g2) (h3:w.heap.size≤g3) (h4:w.heap.size≤g4) :
    (∃ q m c',Value.tuple #[.agg #[.int .u8 0,.slice none 0 0],.int .i64 0,.int .i64 e] = .tuple #[.agg #[.int .u8 ((openF xs).1.1.toNat:Int),.slice q m c'],.int .i64 ((openF xs).2.1:Int),.int .i64 (openF xs).2.2]∧Own kByte 5 0 w.heap.size w' q m c' (openF xs).1.2)∧Ext w w':=by
  rw[hp]
  exact⟨⟨none,0,0,rfl,Own.nil _ _ _ _ _⟩,hR.fx w hX h2 h3 h4⟩
theorem Pu (xs:List UInt8) (B:Nat) (p:Option Addr) (n c:Nat) (w:World) (hl:Sl kByte 5 B w p n c xs) (hq:Qt w) :
    Ret Tryz.prog 133 [.slice p n c] w (fun v w'=>(∃ q m c',v = .tuple #[.agg #[.int .u8 ((openF xs).1.1.toNat:Int),.slice q m c'],.int .i64 ((openF xs).2.1:Int),.int .i64 (openF xs).2.2]∧Own kByte 5 0 w.heap.size w' q m c' (openF xs).1.2)∧Ext w w'):=by
 have hX:=Ext.refl w
 refine Aeu 71 _ Tryz.func133 rfl rfl (Nat.le_of_ble_eq_true rfl) rfl ?_
 refine Ab (Aa ?_)
 refine Ay zr187 ?_
 intro w1 g2 hN2
 have hE1:=hN2.ext
 have hX:=hX.ext hE1
 have hB2:=hN2.blk
 have hl2:=hB2.lt
 refine Ay zr3 ?_
 intro w2 g3 hN3
 have hE2:=hN3.ext
 have hX:=hX.ext hE2
 have hB2:=hB2.ext hE2
 have hB3:=hN3.blk
 have hl3:=hB3.lt
 refine Ay zr31 ?_
 intro w3 g4 hN4
 have hE3:=hN4.ext
 have hX:=hX.ext hE3
 have hB2:=hB2.ext hE3
 have hB3:=hB3.ext hE3
 have hB4:=hN4.blk
 refine Ac (t_n (Ab ?_))
 have e2:=hN2.g_eq
 have e3:=hN3.g_eq
 have e4:=hN4.g_eq
 have s2:=hN2.ext.size
 have s3:=hN3.ext.size
 have h23:g2<g3:=by omega
 have h34:g3<g4:=by omega
 have hg2:w.heap.size≤g2:=by omega
 have hg3:w.heap.size≤g3:=by omega
 have hg4:w.heap.size≤g4:=by omega
 have hB2:Blk _ g2 #[.int .u8 0,.slice none 0 0] 187:=hB2
 have hB3:Blk _ g3 #[.int .i64 0] 3:=hB3
 have hB4:Blk _ g4 #[.int .i64 0] 31:=hB4
 have hlen:=hl.len
 have hfit:=hl.fit
 have hcap:=hl.cap
 refine Aa ?_
 refine p1 (Ch (fs:=[]) (cs:=[.pointer (some ⟨g2,0,none⟩),.pointer (some ⟨g3,0,none⟩),.pointer (some ⟨g4,0,none⟩)]) rfl rfl) ?_
 refine Ac9 (oas:=[]) (fs:=[]) (vs:=[]) rfl rfl rfl rfl ?_
 refine Ac (t_n (Ab (Aa ?_)))
 refine pM ?_
 refine p1 (Ar u23 rfl) ?_
 refine p1 (Cw rfl rfl) ?_
 refine J3 Tryz.func181 fn181 fb181 (E7 _ _ _) rfl ?_ ?_
 rotate_left
 · rintro ch w4 ⟨hb, rfl, hE4⟩
   have hb:=of_decide_eq_false hb
   skip
   have hp:openF xs=noF (22):=by unfold openF;rw[if_pos (by omega)]
   have hX:=hX.ext hE4
   have hB2:=hB2.ext hE4
   have hB3:=hB3.ext hE4
   have hB4:=hB4.ext hE4
   refine t_p ?_
   exact Jh rfl Tryz.func180 fn180 fb180 rfl (Gr g2 g3 g4 _ _ _ _ (22) _ hB2 hB3 hB4 h23 h34) (fun w9 hR=>⟨_,Eq rfl (Cl ua187 rfl hR.b0 sz187) (Bz un3 rfl hR.b1) (Bz un31 rfl hR.b2),El hp hX hR hg2 hg3 hg4⟩)
 rintro v4 w4 ⟨hb4,hE4⟩
 have h1:=of_decide_eq_true hb4
 have hX:=hX.ext hE4
 have hB2:=hB2.ext hE4
 have hB3:=hB3.ext hE4
 have hB4:=hB4.ext hE4
 skip
 refine Ac (t_n (Ab (Aa ?_)))
 refine pM ?_
 refine p1 (Cr (i:=0) u23 sz5 rfl rfl ((hl.ext hX).adr Bb (by omega)) (by omega)) ?_
 refine p1 (Ae un5 rfl ((hl.ext hX).byteAt 0 (by omega))) ?_
 refine p1 (A2 rfl rfl) ?_
 refine J3 Tryz.func181 fn181 fb181 (E7 _ _ _) rfl ?_ ?_
 rotate_left
 · rintro ch w5 ⟨hb, rfl, hE5⟩
   have hb:=of_decide_eq_false hb
   have e0:xs.getD 0 0=0:=Ga.1 (Classical.byContradiction hb)
   have hp:openF xs=noF (4):=by unfold openF;rw[if_neg (by omega),if_pos e0]
   have hX:=hX.ext hE5
   have hB2:=hB2.ext hE5
   have hB3:=hB3.ext hE5
   have hB4:=hB4.ext hE5
   refine t_p ?_
   exact Jh rfl Tryz.func180 fn180 fb180 rfl (Gr g2 g3 g4 _ _ _ _ (4) _ hB2 hB3 hB4 h23 h34) (fun w9 hR=>⟨_,Eq rfl (Cl ua187 rfl hR.b0 sz187) (Bz un3 rfl hR.b1) (Bz un31 rfl hR.b2),El hp hX hR hg2 hg3 hg4⟩)
 rintro v5 w5 ⟨hb5,hE5⟩
 have h2:=of_decide_eq_true hb5
 have hX:=hX.ext hE5
 have hB2:=hB2.ext hE5
 have hB3:=hB3.ext hE5
 have hB4:=hB4.ext hE5
 have h2:xs.getD 0 0≠0:=fun e=>h2 (by rw[e];rfl)
 have hdl:(xs.drop 1).length=n - 1:=by rw[List.length_drop,hlen]
 refine Ac (t_n (Ab (Aa ?_)))
 refine pM ?_
 refine p1 (Bs (m:=1) u23 sz5 rfl rfl (by omega)) ?_
 refine oC Tryz.func182 (Ng (xs.drop 1) _ _ _ _ _ ((hl.ext hX).dropI 1 (by omega))) ?_
 rintro v6 w6 ⟨rfl,hE6⟩
 have hX:=hX.ext hE6
 have hB2:=hB2.ext hE6
 have hB3:=hB3.ext hE6
 have hB4:=hB4.ext hE6
 refine pM ?_
 refine p1 (Aj rfl rfl) ?_
 refine p1 (Aj rfl rfl) ?_
 refine p1 (Aj rfl rfl) ?_
 refine pA (pA (pA (Ac (t_n (Ab (Aa ?_))))))
 refine pM ?_
 refine p1 (Bw rfl rfl) ?_
 refine pM ?_
 refine J3 Tryz.func181 fn181 fb181 (E7 _ _ _) rfl ?_ ?_
 rotate_left
 · rintro ch w7 ⟨hb, rfl, hE7⟩
   have hb:=of_decide_eq_false hb
   skip
   have hp:openF xs=noF ((getU (xs.drop 1)).2.2):=by unfold openF;rw[if_neg (by omega),if_neg h2,if_pos hb]
   have hX:=hX.ext hE7
   have hB2:=hB2.ext hE7
   have hB3:=hB3.ext hE7
   have hB4:=hB4.ext hE7
   refine t_p ?_
   exact Jh rfl Tryz.func180 fn180 fb180 rfl (Gr g2 g3 g4 _ _ _ _ ((getU (xs.drop 1)).2.2) _ hB2 hB3 hB4 h23 h34) (fun w9 hR=>⟨_,Eq rfl (Cl ua187 rfl hR.b0 sz187) (Bz un3 rfl hR.b1) (Bz un31 rfl hR.b2),El hp hX hR hg2 hg3 hg4⟩)
 rintro v7 w7 ⟨hb7,hE7⟩
 have h3:=of_decide_eq_true hb7
 have hX:=hX.ext hE7
 have hB2:=hB2.ext hE7
 have hB3:=hB3.ext hE7
 have hB4:=hB4.ext hE7
 have hgb:=F8 h3
 have hEd:(endF xs)=1+(getU (xs.drop 1)).2.1+(getU (xs.drop 1)).1:=rfl
 refine Ac (t_n (Ab (Aa ?_)))
 refine pM ?_
 refine p1 (Ad1 rfl rfl) ?_
 refine J3 Tryz.func181 fn181 fb181 (E7 _ _ _) rfl ?_ ?_
 rotate_left
 · rintro ch w8 ⟨hb, rfl, hE8⟩
   have hb:=of_decide_eq_false hb
   skip
   have hp:openF xs=noF (5):=by unfold openF;rw[if_neg (by omega),if_neg h2,if_neg (by simpa using h3),if_pos (by omega)]
   have hX:=hX.ext hE8
   have hB2:=hB2.ext hE8
   have hB3:=hB3.ext hE8
   have hB4:=hB4.ext hE8
   refine t_p ?_
   exact Jh rfl Tryz.func180 fn180 fb180 rfl (Gr g2 g3 g4 _ _ _ _ (5) _ hB2 hB3 hB4 h23 h34) (fun w9 hR=>⟨_,Eq rfl (Cl ua187 rfl hR.b0 sz187) (Bz un3 rfl hR.b1) (Bz un31 rfl hR.b2),El hp hX hR hg2 hg3 hg4⟩)
 rintro v8 w8 ⟨hb8,hE8⟩
 have h4:=of_decide_eq_true hb8
 have hX:=hX.ext hE8
 have hB2:=hB2.ext hE8
 have hB3:=hB3.ext hE8
 have hB4:=hB4.ext hE8
 skip
 refine Ac (t_n (Ab (Aa ?_)))
 refine pM ?_
 refine p1 ((A0 rfl rfl (Am (by omega) (by omega))).cast (congrArg _ (by omega:(1:Int)+((getU (xs.drop 1)).2.1:Int)=((1+(getU (xs.drop 1)).2.1:Nat):Int)))) ?_
 refine pA (Ac (t_n (Ab (Aa ?_))))
 refine pM (pM ?_)
 refine p1 (B8 u3 us180 rfl (Am (by omega) (by omega))) ?_
 refine p1 ((A0 rfl rfl (Am (by omega) (by omega))).cast (congrArg _ (by omega:((1+(getU (xs.drop 1)).2.1:Nat):Int)+((getU (xs.drop 1)).1:Int)=((endF xs):Int)))) ?_
 refine pA (Ac (t_n (Ab (Aa ?_))))
 refine pM ?_
 refine p1 (Ar u23 rfl) ?_
 refine pM ?_
 refine p1 (Dg rfl rfl (Am (by omega) (by omega))) ?_
 refine p1 (M4 rfl rfl) ?_
 refine J3 Tryz.func181 fn181 fb181 (E7 _ _ _) rfl ?_ ?_
 rotate_left
 · rintro ch w9 ⟨hb, rfl, hE9⟩
   have hb:=of_decide_eq_false hb
   skip
   have hp:openF xs=noF (3):=by unfold openF;rw[if_neg (by omega),if_neg h2,if_neg (by simpa using h3),if_neg (by omega),if_pos (by omega)]
   have hX:=hX.ext hE9
   have hB2:=hB2.ext hE9
   have hB3:=hB3.ext hE9
   have hB4:=hB4.ext hE9
   refine t_p ?_
   exact Jh rfl Tryz.func180 fn180 fb180 rfl (Gr g2 g3 g4 _ _ _ _ (3) _ hB2 hB3 hB4 h23 h34) (fun w9 hR=>⟨_,Eq rfl (Cl ua187 rfl hR.b0 sz187) (Bz un3 rfl hR.b1) (Bz un31 rfl hR.b2),El hp hX hR hg2 hg3 hg4⟩)
 rintro v9 w9 ⟨hb9,hE9⟩
 have h5:=of_decide_eq_true hb9
 have hX:=hX.ext hE9
 have hB2:=hB2.ext hE9
 have hB3:=hB3.ext hE9
 have hB4:=hB4.ext hE9
 skip
 refine Ac (t_n (Ab ?_))
 refine Ac5 [2,3,4] (fun ch w'=>ch=[{ v := .iface 232 (.agg #[.int .i64 6]),recovered:=false }]∧openF xs=noF 6∧Ext w9 w') (fun w1 w2=>Ext w1 w2) mixed ?_ ?_
 ·intro ch a w' hk hx
  refine t_p ?_
  obtain⟨rfl,hp,hE⟩:=hx
  exact Zg hk rfl Tryz.func180 fn180 fb180 rfl (Gr g2 g3 g4 _ _ _ _ 6 _ (hB2.ext hE) (hB3.ext hE) (hB4.ext hE) h23 h34) (fun w9 hR=>⟨_,Eq rfl (by rw[hk.getD 2 (by simp)];exact Cl ua187 rfl hR.b0 sz187) (by rw[hk.getD 3 (by simp)];exact Bz un3 rfl hR.b1) (by rw[hk.getD 4 (by simp)];exact Bz un31 rfl hR.b2),El hp (hX.ext hE) hR hg2 hg3 hg4⟩)
 intro w10 hE10
 have hX:=hX.ext hE10
 have hB2:=hB2.ext hE10
 have hB3:=hB3.ext hE10
 have hB4:=hB4.ext hE10
 have hSr10:(fun w1 w2=>Ext w1 w2) w10 w10:=Ext.refl w10
 have hST:=hE10
 refine F1 0 rfl (by kernel_rfl) (by kernel_rfl) (by kernel_rfl) hSr10 (fun wS hSS=>by(have hX:=hX.ext hSS;have hB2:=hB2.ext hSS;have hB3:=hB3.ext hSS;have hB4:=hB4.ext hSS;exact(Af (by conv=>lhs;whnf)))) ?_
 refine F1 1 rfl (by kernel_rfl) (by kernel_rfl) (by kernel_rfl) hSr10 (fun wS hSS=>by(have hX:=hX.ext hSS;have hB2:=hB2.ext hSS;have hB3:=hB3.ext hSS;have hB4:=hB4.ext hSS;exact(Af (by conv=>lhs;whnf)))) ?_
 refine F1 2 rfl (by kernel_rfl) (by kernel_rfl) (by kernel_rfl) hSr10 (fun wS hSS=>by(have hX:=hX.ext hSS;have hB2:=hB2.ext hSS;have hB3:=hB3.ext hSS;have hB4:=hB4.ext hSS;exact(Cv u23 sz5 rfl rfl (by omega)))) ?_
 refine F1 5 rfl (by kernel_rfl) (by kernel_rfl) (by kernel_rfl) hSr10 (fun wS hSS=>by(have hX:=hX.ext hSS;have hB2:=hB2.ext hSS;have hB3:=hB3.ext hSS;have hB4:=hB4.ext hSS;exact(Af (by conv=>lhs;whnf)))) ?_
 refine F1 6 rfl (by kernel_rfl) (by kernel_rfl) (by kernel_rfl) hSr10 (fun wS hSS=>by(have hX:=hX.ext hSS;have hB2:=hB2.ext hSS;have hB3:=hB3.ext hSS;have hB4:=hB4.ext hSS;exact(Af (by conv=>lhs;whnf)))) ?_
 refine F1 7 rfl (by kernel_rfl) (by kernel_rfl) (by kernel_rfl) hSr10 (fun wS hSS=>by(have hX:=hX.ext hSS;have hB2:=hB2.ext hSS;have hB3:=hB3.ext hSS;have hB4:=hB4.ext hSS;exact(Af (by conv=>lhs;whnf)))) ?_
 refine F1 8 rfl (by kernel_rfl) (by kernel_rfl) (by kernel_rfl) hSr10 (fun wS hSS=>by(have hX:=hX.ext hSS;have hB2:=hB2.ext hSS;have hB3:=hB3.ext hSS;have hB4:=hB4.ext hSS;exact((A0 rfl rfl (Am (by omega) (by omega))).cast (congrArg _ (by omega:((endF xs):Int)+4=(((endF xs)+4:Nat):Int)))))) ?_
 refine F1 9 rfl (by kernel_rfl) (by kernel_rfl) (by kernel_rfl) hSr10 (fun wS hSS=>by(have hX:=hX.ext hSS;have hB2:=hB2.ext hSS;have hB3:=hB3.ext hSS;have hB4:=hB4.ext hSS;exact((Hb u23 sz5 rfl rfl rfl (by omega) (by omega)).cast (by rw[Nat.add_sub_cancel_left]:_=Value.slice (adw p c (endF xs) 1) 4 (c - (endF xs)))))) ?_
 refine F1 10 rfl (by kernel_rfl) (by kernel_rfl) (by kernel_rfl) hSr10 (fun wS hSS=>by(have hX:=hX.ext hSS;have hB2:=hB2.ext hSS;have hB3:=hB3.ext hSS;have hB4:=hB4.ext hSS;exact(Cg u23 u5 u9 rfl (((hl.ext hX).dropI (endF xs) (by omega)).take 4 (by omega))))) ?_
 refine Ws 3 _ rfl (by kernel_rfl) (Ip (fun Q3 hQ3 hP3=>?_))
 refine oC Tryz.func148 (Rz (xs.take (endF xs)) _ _ _ _ _ ((hl.ext hX).take (endF xs) (by omega)) (hq.ext hX)) ?_
 rintro v11 w11 ⟨⟨q49,c49,rfl,hU⟩,hE11⟩
 have hX:=hX.ext hE11
 have hB2:=hB2.ext hE11
 have hB3:=hB3.ext hE11
 have hB4:=hB4.ext hE11
 have hSr10:=hSr10.ext hE11
 have hST:=hST.ext hE11
 refine An hQ3 ⟨hSr10,?_⟩
 refine Ws 4 _ rfl (by kernel_rfl) (Ip (fun Q4 hQ4 hP4=>?_))
 refine p1 (Cg u23 u5 u9 rfl hU.sl) ?_
 refine An hQ4 ⟨hSr10,?_⟩
 refine F1 11 rfl (by kernel_rfl) (by kernel_rfl) (by kernel_rfl) hSr10 (fun wS hSS=>by( exact(Fj rfl rfl))) ?_
 refine Ws 12 _ rfl (by kernel_rfl) (Ip (fun Q12 hQ12 hP12=>?_))
 refine J3 Tryz.func181 fn181 fb181 (E7 _ _ _) rfl ?_ ?_
 rotate_left
 · rintro ch w12 ⟨hb, rfl, hE12⟩
   have hb:=of_decide_eq_false hb
   have hne:sumB (xs.take (endF xs))≠(xs.drop (endF xs)).take 4:=fun e=>hb (by rw[e])
   have hp:openF xs=noF (6):=by unfold openF;rw[if_neg (by omega),if_neg h2,if_neg (by simpa using h3),if_neg (by omega),if_neg (by omega),if_pos hne]
   exact hP12 _ _ _ (Keep.of (by intro t ht;simp only[List.mem_cons,List.not_mem_nil,or_false] at ht;rcases ht with rfl | rfl | rfl <;> rfl) rfl) ⟨rfl,hp,hST.ext hE12⟩
 rintro v12 w12 ⟨hb12,hE12⟩
 have h6:=Fm (of_decide_eq_true hb12)
 have hX:=hX.ext hE12
 have hB2:=hB2.ext hE12
 have hB3:=hB3.ext hE12
 have hB4:=hB4.ext hE12
 have hSr10:=hSr10.ext hE12
 refine An hQ12 ⟨hSr10,?_⟩
 refine Adm (by kernel_rfl) ?_
 refine t_n (Ab ?_)
 have hp:openF xs=((xs.getD 0 0,(xs.take (endF xs)).drop (1+(getU (xs.drop 1)).2.1)),(endF xs)+4,0):=by unfold openF;rw[if_neg (by omega),if_neg h2,if_neg (by simpa using h3),if_neg (by omega),if_neg (by omega),if_neg (by rw[h6];simp)]
 have hbl:((xs.take (endF xs)).drop (1+(getU (xs.drop 1)).2.1)).length=(getU (xs.drop 1)).1:=by rw[List.length_drop,List.length_take];omega
 refine Bj (fun _ w2=>Ext w w2) mixed ?_
 intro w13 hE13
 have hX:=hX.ext hE13
 have hB2:=hB2.ext hE13
 have hB3:=hB3.ext hE13
 have hB4:=hB4.ext hE13
 have hSr11:(fun _ w2=>Ext w w2) w13 w13:=hX
 refine hT 0 rfl hSr11 (fun wS hSS=>by(exact(Af (by conv=>lhs;whnf)))) ?_
 refine hT 1 rfl hSr11 (fun wS hSS=>by(exact(Cr (i:=0) u23 sz5 rfl rfl ((hl.ext hX).adr Bb (by omega)) (by omega)))) ?_
 refine hT 2 rfl hSr11 (fun wS hSS=>by(have hX:=hSS;exact(Ae un5 rfl ((hl.ext hX).byteAt 0 (by omega))))) ?_
 refine hT 3 rfl hSr11 (fun wS hSS=>by(exact(Af (by conv=>lhs;whnf)))) ?_
 refine hT 4 rfl hSr11 (fun wS hSS=>by(exact(Af (by conv=>lhs;whnf)))) ?_
 refine hT 5 rfl hSr11 (fun wS hSS=>by(exact(Af (by conv=>lhs;whnf)))) ?_
 refine hT 6 rfl hSr11 (fun wS hSS=>by(exact(Hb u23 sz5 rfl rfl rfl (by omega) (by omega)))) ?_
 refine hT 10 rfl hSr11 (fun wS hSS=>by(exact(Af (by conv=>lhs;whnf)))) ?_
 refine hT 11 rfl hSr11 (fun wS hSS=>by(exact((A0 rfl rfl (Am (by omega) (by omega))).cast (congrArg _ (by omega:((endF xs):Int)+4=(((endF xs)+4:Nat):Int)))))) ?_
 refine h1L 7 (fun Q7 hQ7=>?_)
 refine Av u22 inf23 rfl (by decide) (fun base hb=>Br (by rfl) base hb) ?_
 intro w14 g66 hN66
 have hE14:=hN66.ext
 have hX:=hX.ext hE14
 have hB2:=hB2.ext hE14
 have hB3:=hB3.ext hE14
 have hB4:=hB4.ext hE14
 have hSr11:=hSr11.ext hE14
 have hJ:=Aad hN66 (((hl.ext hX).take (endF xs) (by omega)).dropI (1+(getU (xs.drop 1)).2.1) (by omega))
 refine An hQ7 ⟨hSr11,?_⟩
 refine h1L 8 (fun Q8 hQ8=>?_)
 have hXs66:=hX.size
 refine oC Tryz.func147 (Iq _ _ _ _ _ _ hJ (by rw[flat1,hbl];omega)) ?_
 rintro v15 w15 ⟨⟨q67,m67,c67,rfl,hO⟩,hE15⟩
 have hX:=hX.ext hE15
 have hB2:=hB2.ext hE15
 have hB3:=hB3.ext hE15
 have hB4:=hB4.ext hE15
 have hSr11:=hSr11.ext hE15
 rw[flat1] at hO
 have hO:=hO.lower hXs66
 refine An hQ8 ⟨hSr11,?_⟩
 refine hT 9 rfl hSr11 (fun wS hSS=>by(exact(I0 pl187 (by conv=>lhs;whnf) (by conv=>lhs;whnf) rfl rfl))) ?_
 refine h1L 12 (fun Q12 hQ12=>?_)
 refine Al rfl (by conv=>lhs;whnf) (by simp[Value.oneCell']) (by exact sz187) hB2 (by rfl) ?_
 intro w16 hP16
 have hX:=hX.put hP16 (hg2)
 have hB2:=hP16.blk
 have hB3:=hP16.keep hB3 (by omega)
 have hB4:=hP16.keep hB4 (by omega)
 have hSr11:=hSr11.put hP16 (by omega)
 have hO:=hO.mod (hP16.mod 0 (Nat.zero_le _)) (Nat.zero_le _) (by decide)
 refine An hQ12 ⟨hSr11,?_⟩
 refine h1L 13 (fun Q13 hQ13=>?_)
 refine Aw rfl (by conv=>lhs;whnf) rfl rfl sz3 hB3 (by simp) ?_
 intro w17 hP17
 have hX:=hX.put hP17 (hg3)
 have hB2:=hP17.keep hB2 (by omega)
 have hB3:=hP17.blk
 try simp only[List.setIfInBounds_toArray,List.set_cons_zero,List.set_cons_succ] at hB3
 have hB4:=hP17.keep hB4 (by omega)
 have hSr11:=hSr11.put hP17 (by omega)
 have hO:=hO.mod (hP17.mod 0 (Nat.zero_le _)) (Nat.zero_le _) (by decide)
 refine An hQ13 ⟨hSr11,?_⟩
 refine h1L 14 (fun Q14 hQ14=>?_)
 refine Aw rfl (by conv=>lhs;whnf) rfl rfl sz31 hB4 (by simp) ?_
 intro w18 hP18
 have hX:=hX.put hP18 (hg4)
 have hB2:=hP18.keep hB2 (by omega)
 have hB3:=hP18.keep hB3 (by omega)
 have hB4:=hP18.blk
 try simp only[List.setIfInBounds_toArray,List.set_cons_zero,List.set_cons_succ] at hB4
 have hSr11:=hSr11.put hP18 (by omega)
 have hO:=hO.mod (hP18.mod 0 (Nat.zero_le _)) (Nat.zero_le _) (by decide)
 refine An hQ14 ⟨hSr11,?_⟩
 refine A7 (by kernel_rfl) ?_
 refine t_n (Ao ?_)
 exact Abz rfl Tryz.func180 fn180 fb180 rfl (Wg g2 g3 g4 _) (fun w9 hR=>by
   subst hR
   exact⟨_,Eq rfl (Cl ua187 rfl hB2 sz187) (Bz un3 rfl hB3) (Bz un31 rfl hB4),⟨_,_,_,by rw[hp],by rw[hp];exact hO⟩,hX⟩)
end Go.Proofs.Eng
end
section
set_option maxRecDepth 100000
set_option maxHeartbeats 4000000
namespace Go.Proofs.Eng
open Go.RowKit
open Extern.Stop (cell)
theorem O7 (xs:List UInt8) (B:Nat) (p:Option Addr) (n c:Nat) (w:World) (hl:Sl kByte 5 B w p n c xs) :
    Ret Tryz.prog 154 [.slice p n c] w (fun v w'=>(∃ q m c',v = .tuple #[.agg #[.int .u8 ((openF xs).1.1.toNat:Int),.slice q m c'],.int .i64 ((openF xs).2.1:Int),.int .i64 (openF xs).2.2]∧Own kByte 5 0 w.heap.size w' q m c' (openF xs).1.2)∧Ext w w'):=by
 have hX:=Ext.refl w
 refine eN 74 Tryz.func154 ?_
 refine Ab (Aa ?_)
 refine Ay zr201 ?_
 intro w1 g2 hN2
 have hE1:=hN2.ext
 have hX:=hX.ext hE1
 have hB2:=hN2.blk
 refine pA (pA (Ac (t_n (Ab (Ap (Ab ?_))))))
 have hlen:=hl.len
 have hfit:=hl.fit
 have hcap:=hl.cap
 have hdl:(xs.drop 1).length=n - 1:=by rw[List.length_drop,hlen]
 refine Aa ?_
 refine pM ?_
 refine p1 (Ar u23 rfl) ?_
 refine p1 (Bw rfl rfl) ?_
 refine pA (Ac (t_n ?_))
 refine As rfl (fun hc9=>?_) (fun hc9=>?_)
 ·have hp:openF xs=noF 22:=by unfold openF;rw[if_pos (by omega)]
  refine Ab (Aa ?_)
  refine p1 (Dl pl201 rfl) ?_
  refine Al rfl (by conv=>lhs;whnf) (by simp[Value.oneCell']) (by exact sz201) hB2 (by rfl) ?_
  intro w2 hP2
  have hX:=hX.put hP2 (by rw[hN2.g_eq];exact Nat.le_refl _)
  have hB2:=hP2.blk
  refine pA (pA (Ac (t_n (Ao (b_r (t_r ?_))))))
  refine end3c rfl ua201 rfl (by conv=>lhs;whnf) (by conv=>lhs;whnf) hB2 sz201 ?_
  exact⟨⟨_,_,_,by rw[hp];rfl,by rw[hp];exact Own.nil _ _ _ _ _⟩,hX⟩
 have h1:¬ xs.length=0:=by omega
 refine Ab (Aa ?_)
 refine pM ?_
 refine p1 (Cr (i:=0) u23 sz5 rfl rfl ((hl.ext hX).adr Bb (by omega)) (by omega)) ?_
 refine p1 (Ae un5 rfl ((hl.ext hX).byteAt 0 (by omega))) ?_
 refine p1 (Bw rfl rfl) ?_
 refine pA (Ac (t_n ?_))
 refine As rfl (fun hc14=>?_) (fun hc14=>?_)
 ·have hp:openF xs=noF 4:=by unfold openF;rw[if_neg h1,if_pos (Ga.1 hc14)]
  refine Ab (Aa ?_)
  refine p1 (Dl pl201 rfl) ?_
  refine Al rfl (by conv=>lhs;whnf) (by simp[Value.oneCell']) (by exact sz201) hB2 (by rfl) ?_
  intro w3 hP3
  have hX:=hX.put hP3 (by rw[hN2.g_eq];exact Nat.le_refl _)
  have hB2:=hP3.blk
  refine pA (pA (Ac (t_n (Ao (b_r (t_r ?_))))))
  refine end3c rfl ua201 rfl (by conv=>lhs;whnf) (by conv=>lhs;whnf) hB2 sz201 ?_
  exact⟨⟨_,_,_,by rw[hp];rfl,by rw[hp];exact Own.nil _ _ _ _ _⟩,hX⟩
 have h2:xs.getD 0 0≠0:=fun e=>hc14 (by rw[e];rfl)
 refine Ak (b_n (t_n (Ab (Aa ?_))))
 refine pM ?_
 refine p1 (Bs (m:=1) u23 sz5 rfl rfl (by omega)) ?_
 refine oC Tryz.func199 (Kq (xs.drop 1) _ _ _ _ _ ((hl.ext hX).dropI 1 (by omega))) ?_
 rintro v4 w4 ⟨rfl,hE4⟩
 have hX:=hX.ext hE4
 have hB2:=hB2.ext hE4
 refine pM ?_
 refine p1 (Aj rfl rfl) ?_
 refine p1 (Aj rfl rfl) ?_
 refine p1 (Aj rfl rfl) ?_
 refine pA (pA (pA (Ac (t_n (Ab (Ap (Ab (Aa ?_))))))))
 refine pM ?_
 refine p1 (A2 rfl rfl) ?_
 refine pA (Ac (t_n ?_))
 refine As rfl (fun hc27=>?_) (fun hc27=>?_)
 ·have hp:openF xs=noF (getU (xs.drop 1)).2.2:=by unfold openF;rw[if_neg h1,if_neg h2,if_pos hc27]
  refine Ab (Aa ?_)
  refine p1 (Dl pl201 rfl) ?_
  refine pM ?_
  refine Al rfl (by conv=>lhs;whnf) (by simp[Value.oneCell']) (by exact sz201) hB2 (by rfl) ?_
  intro w5 hP5
  have hX:=hX.put hP5 (by rw[hN2.g_eq];exact Nat.le_refl _)
  have hB2:=hP5.blk
  refine pA (pA (Ac (t_n (Ao (b_r (t_r ?_))))))
  refine end3c rfl ua201 rfl (by conv=>lhs;whnf) (by conv=>lhs;whnf) hB2 sz201 ?_
  exact⟨⟨_,_,_,by rw[hp];rfl,by rw[hp];exact Own.nil _ _ _ _ _⟩,hX⟩
 have h3:(getU (xs.drop 1)).2.2=0:=Classical.byContradiction hc27
 have hgb:=F8 h3
 have hEd:(endF xs)=1+(getU (xs.drop 1)).2.1+(getU (xs.drop 1)).1:=rfl
 refine Ab (Aa ?_)
 refine pM ?_
 refine p1 (Cw rfl rfl) ?_
 refine pA (Ac (t_n ?_))
 refine As rfl (fun hc32=>?_) (fun hc32=>?_)
 ·have hp:openF xs=noF 5:=by unfold openF;rw[if_neg h1,if_neg h2,if_neg (by simpa using h3),if_pos (by omega)]
  refine Ab (Aa ?_)
  refine p1 (Dl pl201 rfl) ?_
  refine Al rfl (by conv=>lhs;whnf) (by simp[Value.oneCell']) (by exact sz201) hB2 (by rfl) ?_
  intro w6 hP6
  have hX:=hX.put hP6 (by rw[hN2.g_eq];exact Nat.le_refl _)
  have hB2:=hP6.blk
  refine pA (pA (Ac (t_n (Ao (b_r (t_r ?_))))))
  refine end3c rfl ua201 rfl (by conv=>lhs;whnf) (by conv=>lhs;whnf) hB2 sz201 ?_
  exact⟨⟨_,_,_,by rw[hp];rfl,by rw[hp];exact Own.nil _ _ _ _ _⟩,hX⟩
 refine Ak (b_n (t_n (Ab (Aa ?_))))
 refine pM ?_
 refine p1 (A0 rfl rfl (Am (by omega) (by omega))) ?_
 refine pM ?_
 refine p1 (B8 u3 us180 rfl (Am (by omega) (by omega))) ?_
 refine p1 ((A0 rfl rfl (Am (by omega) (by omega))).cast (congrArg _ (by omega:(1:Int)+((getU (xs.drop 1)).2.1:Int)+((getU (xs.drop 1)).1:Int)=((endF xs):Int)))) ?_
 refine pA (Ac (t_n (Ab (Ab (Aa ?_)))))
 refine pM ?_
 refine p1 (A0 rfl rfl (Am (by omega) (by omega))) ?_
 refine pM ?_
 refine p1 (Ar u23 rfl) ?_
 refine p1 (Cw rfl rfl) ?_
 refine Ac (t_n ?_)
 refine As rfl (fun hc45=>?_) (fun hc45=>?_)
 ·have hp:openF xs=noF 3:=by unfold openF;rw[if_neg h1,if_neg h2,if_neg (by simpa using h3),if_neg (by omega),if_pos (by omega)]
  refine Ab (Aa ?_)
  refine p1 (Dl pl201 rfl) ?_
  refine Al rfl (by conv=>lhs;whnf) (by simp[Value.oneCell']) (by exact sz201) hB2 (by rfl) ?_
  intro w7 hP7
  have hX:=hX.put hP7 (by rw[hN2.g_eq];exact Nat.le_refl _)
  have hB2:=hP7.blk
  refine pA (pA (Ac (t_n (Ao (t_r ?_)))))
  refine end3c rfl ua201 rfl (by conv=>lhs;whnf) (by conv=>lhs;whnf) hB2 sz201 ?_
  exact⟨⟨_,_,_,by rw[hp];rfl,by rw[hp];exact Own.nil _ _ _ _ _⟩,hX⟩
 refine Ak (t_n (Ab (Ab ?_)))
 refine Bj (fun _ w2=>Ext w w2) mixed ?_
 intro w8 hE8
 have hX:=hX.ext hE8
 have hB2:=hB2.ext hE8
 have hSr13:(fun _ w2=>Ext w w2) w8 w8:=hX
 refine hT 1 rfl hSr13 (fun wS hSS=>by(exact(Af (by conv=>lhs;whnf)))) ?_
 refine hT 2 rfl hSr13 (fun wS hSS=>by(exact(Af (by conv=>lhs;whnf)))) ?_
 refine hT 3 rfl hSr13 (fun wS hSS=>by(exact(Cv u23 sz5 rfl rfl (by omega)))) ?_
 refine hT 7 rfl hSr13 (fun wS hSS=>by(exact(Af (by conv=>lhs;whnf)))) ?_
 refine hT 8 rfl hSr13 (fun wS hSS=>by(exact(Af (by conv=>lhs;whnf)))) ?_
 refine hT 9 rfl hSr13 (fun wS hSS=>by(exact((A0 rfl rfl (Am (by omega) (by omega))).cast (congrArg _ (by omega:((endF xs):Int)+4=(((endF xs)+4:Nat):Int)))))) ?_
 refine hT 10 rfl hSr13 (fun wS hSS=>by(exact(Cv u23 sz5 rfl rfl (by omega)))) ?_
 refine hT 11 rfl hSr13 (fun wS hSS=>by(have hX:=hSS;exact(Cg u23 u5 u9 rfl ((hl.ext hX).take ((endF xs)+4) (by omega))))) ?_
 refine h1L 0 (fun Q0 hQ0=>?_)
 have hXs0:=hX.size
 refine Av u23 inf5 rfl (by decide) (fun base hb=>by have h0:base=#[]:=Array.eq_empty_of_size_eq_zero (by simpa using hb);subst h0;rfl) ?_
 intro w9 g47 hN47
 have hE9:=hN47.ext
 have hX:=hX.ext hE9
 have hB2:=hB2.ext hE9
 have hSr13:=hSr13.ext hE9
 have hV:=Rf hN47 (B0:=w.heap.size) hXs0
 refine An hQ0 ⟨hSr13,?_⟩
 refine h1L 4 (fun Q4 hQ4=>?_)
 have hB0:=hX.size
 have hl2:=(hl.ext hX).take (endF xs) (by omega)
 refine Az (d:=kByte) (xs.take (endF xs)) u23 inf5 rfl Bb rfl rfl hV (Fo u23 hl2) hl2.len (B6 _ _ _) (Bf _) (by omega) (by omega) (by omega) (by omega) (by decide) ?_
 intro p51 c51 w10 hV hM10
 have hX:=hX.mod hM10 (Nat.le_refl _)
 have hB2:=hB2.mod hM10 (by decide)
 have hSr13:=hSr13.mod hM10 (Nat.le_refl _)
 refine An hQ4 ⟨hSr13,?_⟩
 refine h1L 5 (fun Q5 hQ5=>?_)
 have hB0:=hX.size
 rw[List.nil_append] at hV
 refine oC Tryz.func200 (Lg _ _ _ _ _ _ hV hB0 (by omega)) ?_
 rintro v11 w11 ⟨⟨q52,c52,rfl,hV⟩,hM11⟩
 have hX:=hX.mod hM11 (Nat.le_refl _)
 have hB2:=hB2.mod hM11 (by decide)
 have hSr13:=hSr13.mod hM11 (Nat.le_refl _)
 refine An hQ5 ⟨hSr13,?_⟩
 refine h1L 6 (fun Q6 hQ6=>?_)
 refine p1 (Cg u23 u5 u9 rfl hV.sl) ?_
 refine An hQ6 ⟨hSr13,?_⟩
 refine hT 12 rfl hSr13 (fun wS hSS=>by(exact(Eg rfl rfl))) ?_
 refine A7 (by kernel_rfl) ?_
 refine t_n ?_
 refine As rfl (fun hc59=>?_) (fun hc59=>?_)
 ·have hne:sumB (xs.take (endF xs))≠(xs.drop (endF xs)).take 4:=fun e=>hc59 (by rw[e,List.take_add])
  have hp:openF xs=noF 6:=by unfold openF;rw[if_neg h1,if_neg h2,if_neg (by simpa using h3),if_neg (by omega),if_neg (by omega),if_pos hne]
  refine Ab (Aa ?_)
  refine p1 (Dl pl201 rfl) ?_
  refine Al rfl (by conv=>lhs;whnf) (by simp[Value.oneCell']) (by exact sz201) hB2 (by rfl) ?_
  intro w12 hP12
  have hX:=hX.put hP12 (by rw[hN2.g_eq];exact Nat.le_refl _)
  have hB2:=hP12.blk
  refine pA (pA (Ac (t_n (Ao (t_r ?_)))))
  refine end3c rfl ua201 rfl (by conv=>lhs;whnf) (by conv=>lhs;whnf) hB2 sz201 ?_
  exact⟨⟨_,_,_,by rw[hp];rfl,by rw[hp];exact Own.nil _ _ _ _ _⟩,hX⟩
 have h6:sumB (xs.take (endF xs))=(xs.drop (endF xs)).take 4:=by
   have:=Fm (Classical.byContradiction hc59)
   rw[List.take_add] at this
   exact List.append_cancel_left this
 have hp:openF xs=((xs.getD 0 0,(xs.take (endF xs)).drop (1+(getU (xs.drop 1)).2.1)),(endF xs)+4,0):=by unfold openF;rw[if_neg h1,if_neg h2,if_neg (by simpa using h3),if_neg (by omega),if_neg (by omega),if_neg (by rw[h6];simp)]
 refine Ak (t_n (Ab ?_))
 refine Bj (fun _ w2=>Ext w w2) mixed ?_
 intro w13 hE13
 have hX:=hX.ext hE13
 have hB2:=hB2.ext hE13
 have hSr15:(fun _ w2=>Ext w w2) w13 w13:=hX
 refine hT 0 rfl hSr15 (fun wS hSS=>by(exact(Af (by conv=>lhs;whnf)))) ?_
 refine hT 1 rfl hSr15 (fun wS hSS=>by(exact(Cr (i:=0) u23 sz5 rfl rfl ((hl.ext hX).adr Bb (by omega)) (by omega)))) ?_
 refine hT 2 rfl hSr15 (fun wS hSS=>by(have hX:=hSS;exact(Ae un5 rfl ((hl.ext hX).byteAt 0 (by omega))))) ?_
 refine hT 4 rfl hSr15 (fun wS hSS=>by(exact(Af (by conv=>lhs;whnf)))) ?_
 refine hT 5 rfl hSr15 (fun wS hSS=>by(exact(Af (by conv=>lhs;whnf)))) ?_
 refine hT 6 rfl hSr15 (fun wS hSS=>by(exact((A0 rfl rfl (Am (by omega) (by omega))).cast (congrArg _ (by omega:(1:Int)+((getU (xs.drop 1)).2.1:Int)=((1+(getU (xs.drop 1)).2.1:Nat):Int)))))) ?_
 refine hT 7 rfl hSr15 (fun wS hSS=>by(exact(Af (by conv=>lhs;whnf)))) ?_
 refine hT 8 rfl hSr15 (fun wS hSS=>by(exact(Hb u23 sz5 rfl rfl rfl (by omega) (by omega)))) ?_
 refine hT 11 rfl hSr15 (fun wS hSS=>by(exact(Af (by conv=>lhs;whnf)))) ?_
 refine hT 12 rfl hSr15 (fun wS hSS=>by(exact((A0 rfl rfl (Am (by omega) (by omega))).cast (congrArg _ (by omega:((endF xs):Int)+4=(((endF xs)+4:Nat):Int)))))) ?_
 refine h1L 3 (fun Q3 hQ3=>?_)
 have hXs0:=hX.size
 refine Av u23 inf5 rfl (by decide) (fun base hb=>by have h0:base=#[]:=Array.eq_empty_of_size_eq_zero (by simpa using hb);subst h0;rfl) ?_
 intro w14 g64 hN64
 have hE14:=hN64.ext
 have hX:=hX.ext hE14
 have hB2:=hB2.ext hE14
 have hSr15:=hSr15.ext hE14
 have hO:=Rf hN64 (B0:=w.heap.size) hXs0
 refine An hQ3 ⟨hSr15,?_⟩
 refine h1L 9 (fun Q9 hQ9=>?_)
 have hB0:=hX.size
 have hl2:=((hl.ext hX).take (endF xs) (by omega)).dropI (1+(getU (xs.drop 1)).2.1) (by omega)
 refine Az (d:=kByte) ((xs.take (endF xs)).drop (1+(getU (xs.drop 1)).2.1)) u23 inf5 rfl Bb rfl rfl hO (Fo u23 hl2) hl2.len (B6 _ _ _) (Bf _) (by omega) (by omega) (by omega) (by omega) (by decide) ?_
 intro p70 c70 w15 hO hM15
 have hX:=hX.mod hM15 (Nat.le_refl _)
 have hB2:=hB2.mod hM15 (by decide)
 have hSr15:=hSr15.mod hM15 (Nat.le_refl _)
 refine An hQ9 ⟨hSr15,?_⟩
 rw[List.nil_append] at hO
 refine hT 10 rfl hSr15 (fun wS hSS=>by(exact(I0 pl201 (by conv=>lhs;whnf) (by conv=>lhs;whnf) rfl rfl))) ?_
 refine h1L 13 (fun Q13 hQ13=>?_)
 refine Al rfl (by conv=>lhs;whnf) (by simp[Value.oneCell']) (by exact sz201) hB2 (by rfl) ?_
 intro w16 hP16
 have hX:=hX.put hP16 (by rw[hN2.g_eq];exact Nat.le_refl _)
 have hB2:=hP16.blk
 have hSr15:=hSr15.put hP16 (by rw[hN2.g_eq];exact Nat.le_refl _)
 have hO:=hO.mod (hP16.mod 0 (Nat.zero_le _)) (Nat.zero_le _) (by decide)
 refine An hQ13 ⟨hSr15,?_⟩
 refine hT 14 rfl hSr15 (fun wS hSS=>by(exact(Ah (by conv=>lhs;whnf)))) ?_
 refine hT 15 rfl hSr15 (fun wS hSS=>by(exact(Ah (by conv=>lhs;whnf)))) ?_
 refine A7 (by kernel_rfl) ?_
 refine t_n (Ao ?_)
 refine end3c rfl ua201 rfl (by conv=>lhs;whnf) (by conv=>lhs;whnf) hB2 sz201 ?_
 exact⟨⟨_,_,_,by rw[hp],by rw[hp];exact hO⟩,hX⟩
end Go.Proofs.Eng
end
section
set_option maxRecDepth 100000
set_option maxHeartbeats 4000000
namespace Go.Proofs.Eng
open Go.RowKit
open Extern.Stop (cell)
theorem pl99:Co Tryz.prog 99=some (.agg #[.int .i64 0,.int .i64 0,.slice none 0 0],[(0,1),(1,1),(2,1)]):=by kernel_rfl
theorem sz99:(Tryz.prog.info? 99).map (·.size)=some 3:=by kernel_rfl
theorem ua99:(Tryz.prog.underlying 99).map TypeDesc.isRow=some true:=by kernel_rfl
theorem zr99:(Tryz.prog.info? 99).map (·.zero)=some (some (.agg #[.int .i64 0,.int .i64 0,.slice none 0 0])):=by kernel_rfl
end Go.Proofs.Eng
end
section
set_option maxRecDepth 100000
set_option maxHeartbeats 4000000
namespace Go.Proofs.Eng
open Go.RowKit
open Extern.Stop (cell)
theorem Sv (xs:List UInt8) (B:Nat) (p:Option Addr) (n c:Nat) (w:World) (hl:Sl kByte 5 B w p n c xs) (hq:Qt w) :
    Ret Tryz.prog 93 [.slice p n c] w (fun v w'=>(∃ (seg size:Int) (q:Option Addr) (m c':Nat) (e:Int),v = .tuple #[.agg #[.int .i64 seg,.int .i64 size,.slice q m c'],.int .i64 e]∧((e=0∧∃ M:Mf,ManOf xs M∧seg=(M.seg:Int)∧size=(M.size:Int)∧Own kByte 5 0 w.heap.size w' q m c' M.index)∨(e=4∧¬ ∃ M,ManOf xs M)))∧Ext w w'):=by
 have hX:=Ext.refl w
 refine eN 66 Tryz.func93 ?_
 refine Ab (Aa ?_)
 have hz2:=hX.size
 refine Ay zr99 ?_
 intro w1 g2 hN2
 have hE1:=hN2.ext
 have hX:=hX.ext hE1
 have hB2:=hN2.blk
 have hq2:=hN2.g_eq
 refine pA ?_
 refine Ac (t_n (Ab (Aa ?_)))
 refine pM ?_
 refine oC Tryz.func133 (Pu xs _ _ _ _ _ (hl.ext hX) (hq.ext hX)) ?_
 rintro v2 w2 ⟨⟨qo,mo,co,rfl,hO⟩,hE2⟩
 have hX:=hX.ext hE2
 have hB2:=hB2.ext hE2
 have hO:=hO.lower (Nat.zero_le _)
 refine pM ?_
 refine p1 (Aj rfl rfl) ?_
 refine p1 (Aj rfl rfl) ?_
 refine p1 (Aj rfl rfl) ?_
 have hz4:=hX.size
 have hl4_2:=hB2.lt
 refine Ay zr187 ?_
 intro w3 g4 hN4
 have hE3:=hN4.ext
 have hX:=hX.ext hE3
 have hB2:=hB2.ext hE3
 have hO:=hO.ext hE3
 have hB4:=hN4.blk
 have hq4:=hN4.g_eq
 refine Al rfl (by conv=>lhs;whnf) (by simp[Value.oneCell']) (by exact sz187) hB4 (by rfl) ?_
 intro w4 hP4
 have hX:=hX.put hP4 (by omega)
 have hB2:=hP4.keep hB2 (by omega)
 have hO:=hO.mod (hP4.mod 0 (Nat.zero_le _)) (Nat.zero_le _) (by decide)
 have hB4:=hP4.blk
 refine pA ?_
 refine pA ?_
 refine Ac (t_n (Ab (Ab ?_)))
 have hWr2:=Ext.refl w4
 refine Dn (ι:=Unit) [17,18,19,20,21,22,23] (fun _=>[(23,.bool (decide ((openF xs).2.2≠0∨((openF xs).1.1.toNat:Int)≠3)))]) (fun _ w'=>Ext w4 w') ?_ ?_
 ·skip
  refine Aa ?_
  refine pM ?_
  refine p1 (A2 rfl rfl) ?_
  refine p1b (Af (by conv=>lhs;whnf)) (fun hb2_2=>?_) (fun hb2_2=>?_)
  ·try simp only[dA,dB,dC,dD,dE,dF,dG,Int.not_lt,Int.not_le] at hb2_2
   refine gF 19 ?_
   refine gF 19 ?_
   refine gF 19 ?_
   refine p1 (Ax rfl (by conv=>lhs;whnf)) ?_
   refine Ac ?_
   refine t_n (aK () ⟨congrArg Value.bool (by exact(decide_eq_true (by omega)).symm),trivial⟩ hWr2)
  try simp only[dA,dB,dC,dD,dE,dF,dG,Int.not_lt,Int.not_le] at hb2_2
  refine g1 19 rfl rfl (Ad Xy sz5 rfl) ?_
  refine g1 19 rfl rfl (Ae un5 rfl (hB4.cell (rfl))) ?_
  refine g1 19 rfl rfl ((A2 rfl rfl)) ?_
  refine p1 (Au rfl (by conv=>lhs;whnf)) ?_
  refine Ac ?_
  refine t_n (aK () ⟨congrArg Value.bool (by exact decide_eq_decide.2 (by omega)),trivial⟩ hWr2)
 rintro _ Gr2 w5 hE5
 have hX:=hX.ext hE5
 have hB2:=hB2.ext hE5
 have hO:=hO.ext hE5
 have hB4:=hB4.ext hE5
 refine t_n ?_
 refine As rfl (fun hc23=>?_) (fun hc23=>?_)
 ·try simp only[dA,dB,dC,dD,dE,dF,dG,Int.not_lt,Int.not_le] at hc23
  have hno:¬ ∃ M,ManOf xs M:=fun ⟨M,hM⟩=>by
    have h9:=Fv hM
    rw[h9] at hc23
    simp at hc23
  refine Ab (Aa ?_)
  refine p1 (Dl pl99 rfl) ?_
  refine Al rfl (by conv=>lhs;whnf) (by simp[Value.oneCell']) (by exact sz99) hB2 (by rfl) ?_
  intro w6 hP6
  have hX:=hX.put hP6 (by omega)
  have hB2:=hP6.blk
  have hO:=hO.mod (hP6.mod 0 (Nat.zero_le _)) (Nat.zero_le _) (by decide)
  have hB4:=hP6.keep hB4 (by omega)
  refine pA ?_
  refine Ac (t_n (Ao (t_r ?_)))
  refine end2c rfl ua99 rfl (by conv=>lhs;whnf) hB2 sz99 ?_
  exact⟨⟨0,0,none,0,0,4,rfl,.inr ⟨rfl,hno⟩⟩,hX⟩
 try simp only[dA,dB,dC,dD,dE,dF,dG,Int.not_lt,Int.not_le] at hc23
 have h0:(openF xs).2.2=0:=Classical.byContradiction fun h=>hc23 (.inl h)
 have hbl:=(G3 h0).2.1
 have hbo:∀ M,ManOf xs M→Dx M=(openF xs).1.2:=fun M h=>by rw[Fv h]
 have hol:=hO.len
 refine Ak (t_n (Ab (Aa ?_)))
 refine p1 (Ad Oc sz23 rfl) ?_
 refine p1 (Ae un23 rfl (hB4.cell (rfl))) ?_
 have hXs7:=hX.size
 refine oC Tryz.func136 (Aa6 (openF xs).1.2 _ _ _ _ _ hO.sl (by omega)) ?_
 rintro v7 w7 ⟨⟨g7,rfl,hg7,hR⟩,hE7⟩
 have hX:=hX.ext hE7
 have hB2:=hB2.ext hE7
 have hO:=hO.ext hE7
 have hB4:=hB4.ext hE7
 have hg0:w.heap.size≤g7:=by omega
 refine pA ?_
 refine Ac (t_n (Ab (Aa ?_)))
 refine pM ?_
 refine oC Tryz.func137 (Lh (openF xs).1.2 g7 0 _ hR 999999) ?_
 rintro v8 w8 ⟨N1,e1,R1,rfl,hN51,hR,hT1,hM8⟩
 have hX:=hX.mod hM8 (hg0)
 have hB2:=hB2.mod hM8 (by decide)
 have hO:=hO.mod hM8 (Nat.zero_le _) (by decide)
 have hB4:=hB4.mod hM8 (by decide)
 refine p1 (B8 u3 us180 rfl (Am (by omega) (by omega))) ?_
 refine pM ?_
 refine oC Tryz.func137 (Lh R1 g7 e1 _ hR 16777216) ?_
 rintro v9 w9 ⟨N2,e2,R2,rfl,hN52,hR,hT2,hM9⟩
 have hX:=hX.mod hM9 (hg0)
 have hB2:=hB2.mod hM9 (by decide)
 have hO:=hO.mod hM9 (Nat.zero_le _) (by decide)
 have hB4:=hB4.mod hM9 (by decide)
 refine p1 (B8 u3 us180 rfl (Am (by omega) (by omega))) ?_
 refine p1 (Tn pl99 (by conv=>lhs;whnf) (by conv=>lhs;whnf) rfl rfl) ?_
 have hlt8:=hB4.lt
 obtain⟨hRl,hRd,hRm⟩:=Ul hbo hT1 hT2
 have hlt4:=hB4.lt
 have hXs8:=hX.size
 have hz8:=hX.size
 have hl8_2:=hB2.lt
 have hl8_4:=hB4.lt
 refine Ay zr99 ?_
 intro w10 g8 hN8
 have hE10:=hN8.ext
 have hX:=hX.ext hE10
 have hB2:=hB2.ext hE10
 have hO:=hO.ext hE10
 have hB4:=hB4.ext hE10
 have hR:=hR.ext hE10
 have hB8:=hN8.blk
 have hq8:=hN8.g_eq
 refine Al rfl (by conv=>lhs;whnf) (by simp[Value.oneCell']) (by exact sz99) hB8 (by rfl) ?_
 intro w11 hP11
 have hX:=hX.put hP11 (by omega)
 have hB2:=hP11.keep hB2 (by omega)
 have hO:=hO.mod (hP11.mod 0 (Nat.zero_le _)) (Nat.zero_le _) (by decide)
 have hB4:=hP11.keep hB4 (by omega)
 have hR:=hR.mod (hP11.mod 0 (Nat.zero_le _)) (Nat.zero_le _) (by decide)
 have hB8:=hP11.blk
 refine Ac (t_n (Ab ?_))
 have hg8:=hN8.g_eq
 have hcap:=hO.sl.cap
 have hfit:=hO.sl.fit
 refine Bj (fun _ w2=>Blk w2 g4 #[.int .u8 ((openF xs).1.1.toNat:Int),.slice qo mo co] 187) mixed ?_
 intro w12 hE12
 have hX:=hX.ext hE12
 have hB2:=hB2.ext hE12
 have hO:=hO.ext hE12
 have hB4:=hB4.ext hE12
 have hR:=hR.ext hE12
 have hB8:=hB8.ext hE12
 have hSr6:(fun _ w2=>Blk w2 g4 #[.int .u8 ((openF xs).1.1.toNat:Int),.slice qo mo co] 187) w12 w12:=hB4
 refine hT 0 rfl hSr6 (fun wS hSS=>by(exact(Ad Oc sz23 rfl))) ?_
 refine hT 1 rfl hSr6 (fun wS hSS=>by(have hB4:=hSS;exact(Ae un23 rfl (hB4.cell (rfl))))) ?_
 refine hT 2 rfl hSr6 (fun wS hSS=>by(exact(Ad Oc sz23 rfl))) ?_
 refine hT 3 rfl hSr6 (fun wS hSS=>by(have hB4:=hSS;exact(Ae un23 rfl (hB4.cell (rfl))))) ?_
 refine hT 4 rfl hSr6 (fun wS hSS=>by(have hB4:=hSS;exact(Ar u23 rfl))) ?_
 refine hT 5 rfl hSr6 (fun wS hSS=>by(exact(Af (by conv=>lhs;whnf)))) ?_
 refine h1L 6 (fun Q6 hQ6=>?_)
 refine oC Tryz.func138 (T6 R2 g7 e2 _ hR) ?_
 rintro v13 w13 ⟨rfl,hE13⟩
 have hX:=hX.ext hE13
 have hB2:=hB2.ext hE13
 have hO:=hO.ext hE13
 have hB4:=hB4.ext hE13
 have hR:=hR.ext hE13
 have hB8:=hB8.ext hE13
 have hSr6:=hSr6.ext hE13
 refine An hQ6 ⟨hSr6,?_⟩
 refine hT 7 rfl hSr6 (fun wS hSS=>by(exact(Dg rfl rfl (Am (by omega) (by omega))))) ?_
 refine hT 8 rfl hSr6 (fun wS hSS=>by(exact(Qn u23 sz5 rfl rfl (by omega) (by omega)))) ?_
 refine h1L 9 (fun Q9 hQ9=>?_)
 have hX9:=hX.size
 obtain⟨ix,hix⟩:∃ x,x=(openF xs).1.2.drop ((mo:Int) - (R2.length:Int)).toNat:=⟨_,rfl⟩
 refine oC Tryz.func58 (Cp _ _ _ _ _ _ _ (hO.sl.dropI ((mo:Int) - (R2.length:Int)).toNat (by omega)) (by omega)) ?_
 rintro v14 w14 ⟨⟨qi,ci,rfl,hI⟩,hE14⟩
 have hX:=hX.ext hE14
 have hB2:=hB2.ext hE14
 have hO:=hO.ext hE14
 have hB4:=hB4.ext hE14
 have hR:=hR.ext hE14
 have hB8:=hB8.ext hE14
 have hSr6:=hSr6.ext hE14
 rw[← hix] at hI
 have hI:=hI.lower hX9
 refine An hQ9 ⟨hSr6,?_⟩
 refine hT 10 rfl hSr6 (fun wS hSS=>by(exact(Ad S3 sz23 rfl))) ?_
 refine h1L 11 (fun Q11 hQ11=>?_)
 refine Aw rfl (by conv=>lhs;whnf) rfl rfl sz23 hB8 (by simp) ?_
 intro w15 hP15
 have hX:=hX.put hP15 (by omega)
 have hB2:=hP15.keep hB2 (by omega)
 have hO:=hO.mod (hP15.mod 0 (Nat.zero_le _)) (Nat.zero_le _) (by decide)
 have hB4:=hP15.keep hB4 (by omega)
 have hR:=hR.mod (hP15.mod 0 (Nat.zero_le _)) (Nat.zero_le _) (by decide)
 have hB8:=hP15.blk
 try simp only[List.setIfInBounds_toArray,List.set_cons_zero,List.set_cons_succ] at hB8
 have hSr6:=hP15.keep hSr6 (by omega)
 have hI:=hI.mod (hP15.mod 0 (Nat.zero_le _)) (Nat.zero_le _) (by decide)
 refine An hQ11 ⟨hSr6,?_⟩
 refine A7 (by kernel_rfl) ?_
 refine t_n (Ab (Ab (Aa ?_)))
 refine p1 (Aq ua99 rfl hB8 sz99) ?_
 refine oC Tryz.func97 (Lm (N1:Int) (N2:Int) ix _ _ _ _ _ hI.sl (hq.ext hX)) ?_
 rintro v16 w16 ⟨⟨qp,mp,cp,ep,rfl,hpe,hP⟩,hE16⟩
 have hX:=hX.ext hE16
 have hB2:=hB2.ext hE16
 have hO:=hO.ext hE16
 have hB4:=hB4.ext hE16
 have hR:=hR.ext hE16
 have hB8:=hB8.ext hE16
 have hI:=hI.ext hE16
 have hPx:∀ w2,Ext w16 w2→ep=0→∃ s z:Nat,(N1:Int)=(s:Int)∧(N2:Int)=(z:Int)∧(Mf.mk s z ix).Ok∧Own kByte 5 0 0 w2 qp mp cp (manB ⟨s,z,ix⟩):=fun w2 hx he=>by
   obtain⟨_,s,z,h1,h2,h3,h4⟩:=hP.resolve_right (fun h=>h.1 he)
   exact⟨s,z,h1,h2,h3,(h4.lower (Nat.zero_le _)).ext hx⟩
 have hPn:ep≠0→¬ ∃ s z:Nat,(N1:Int)=(s:Int)∧(N2:Int)=(z:Int)∧(Mf.mk s z ix).Ok:=fun he=>(hP.resolve_left (fun h=>he h.1)).2
 have hG7:=Ext.refl w16
 have hMx:∀ M,ManOf xs M→e2=0∧M=⟨N1,N2,ix⟩:=fun M hM=>by
   obtain⟨g1,g2,g3,g4⟩:=hRm M hM
   have h9:=hRd g1
   have hk:((mo:Int) - (R2.length:Int)).toNat=(openF xs).1.2.length - R2.length:=by omega
   have h8:ix=M.index:=by rw[hix,hk,h9,g4]
   refine⟨g1,?_⟩
   cases M with | mk a b c=>simp only at g2 g3 h8;rw[g2,g3,h8]
 refine pM ?_
 refine p1 (Aj rfl rfl) ?_
 refine p1 (Aj rfl rfl) ?_
 refine pA ?_
 refine pA ?_
 refine Ac (t_n (Ab (Aa ?_)))
 refine pM ?_
 refine oC Tryz.func139 (Wa R2 g7 e2 _ hR) ?_
 rintro v17 w17 ⟨rfl,hE17⟩
 have hX:=hX.ext hE17
 have hB2:=hB2.ext hE17
 have hO:=hO.ext hE17
 have hB4:=hB4.ext hE17
 have hR:=hR.ext hE17
 have hB8:=hB8.ext hE17
 have hI:=hI.ext hE17
 have hG7:=hG7.ext hE17
 refine p1 (A2 rfl rfl) ?_
 refine p1b (Af (by conv=>lhs;whnf)) (fun hb8_3=>?_) (fun hb8_3=>?_)
 ·try simp only[dA,dB,dC,dD,dE,dF,dG,Int.not_lt,Int.not_le] at hb8_3
  refine gF 54 ?_
  refine gF 54 ?_
  refine p1 (Ax rfl (by conv=>lhs;whnf)) ?_
  refine pM ?_
  refine gF 58 ?_
  refine gF 58 ?_
  refine gF 58 ?_
  refine gF 58 ?_
  refine p1 (Ax rfl (by conv=>lhs;whnf)) ?_
  refine Ac (t_n ?_)
  refine c_t rfl ?_
  refine Ab (Aa ?_)
  refine p1 (Dl pl99 rfl) ?_
  refine Al rfl (by conv=>lhs;whnf) (by simp[Value.oneCell']) (by exact sz99) hB2 (by rfl) ?_
  intro w18 hP18
  have hX:=hX.put hP18 (by omega)
  have hB2:=hP18.blk
  have hO:=hO.mod (hP18.mod 0 (Nat.zero_le _)) (Nat.zero_le _) (by decide)
  have hB4:=hP18.keep hB4 (by omega)
  have hR:=hR.mod (hP18.mod 0 (Nat.zero_le _)) (Nat.zero_le _) (by decide)
  have hB8:=hP18.keep hB8 (by omega)
  have hI:=hI.mod (hP18.mod 0 (Nat.zero_le _)) (Nat.zero_le _) (by decide)
  refine pA ?_
  refine Ac (t_n (Ao (t_r ?_)))
  refine end2c rfl ua99 rfl (by conv=>lhs;whnf) hB2 sz99 ?_
  exact⟨⟨0,0,none,0,0,4,rfl,.inr ⟨rfl,fun ⟨M,hM⟩=>hb8_3 (hMx M hM).1⟩⟩,hX⟩
 try simp only[dA,dB,dC,dD,dE,dF,dG,Int.not_lt,Int.not_le] at hb8_3
 refine gM 54 ?_
 refine g1 54 rfl rfl (A2 rfl rfl) ?_
 refine p1 (Au rfl (by conv=>lhs;whnf)) ?_
 refine p1b (Af (by conv=>lhs;whnf)) (fun hb8_7=>?_) (fun hb8_7=>?_)
 ·try simp only[dA,dB,dC,dD,dE,dF,dG,Int.not_lt,Int.not_le] at hb8_7
  refine gF 58 ?_
  refine gF 58 ?_
  refine gF 58 ?_
  refine gF 58 ?_
  refine p1 (Ax rfl (by conv=>lhs;whnf)) ?_
  refine Ac (t_n ?_)
  refine c_t rfl ?_
  refine Ab (Aa ?_)
  refine p1 (Dl pl99 rfl) ?_
  refine Al rfl (by conv=>lhs;whnf) (by simp[Value.oneCell']) (by exact sz99) hB2 (by rfl) ?_
  intro w19 hP19
  have hX:=hX.put hP19 (by omega)
  have hB2:=hP19.blk
  have hO:=hO.mod (hP19.mod 0 (Nat.zero_le _)) (Nat.zero_le _) (by decide)
  have hB4:=hP19.keep hB4 (by omega)
  have hR:=hR.mod (hP19.mod 0 (Nat.zero_le _)) (Nat.zero_le _) (by decide)
  have hB8:=hP19.keep hB8 (by omega)
  have hI:=hI.mod (hP19.mod 0 (Nat.zero_le _)) (Nat.zero_le _) (by decide)
  refine pA ?_
  refine Ac (t_n (Ao (t_r ?_)))
  refine end2c rfl ua99 rfl (by conv=>lhs;whnf) hB2 sz99 ?_
  exact⟨⟨0,0,none,0,0,4,rfl,.inr ⟨rfl,fun ⟨M,hM⟩=>hPn hb8_7 ⟨N1,N2,rfl,rfl,by have:=(hMx M hM).2;rw[← this];exact hM.1⟩⟩⟩,hX⟩
 try simp only[dA,dB,dC,dD,dE,dF,dG,Int.not_lt,Int.not_le] at hb8_7
 obtain⟨s,z,hs1,hz1,hok,hOp⟩:=hPx _ hG7 (by omega)
 refine gM 58 ?_
 refine gM 58 ?_
 refine Cd 58 rfl rfl ?_
 refine oC Tryz.func140 (Nz (manB ⟨s,z,ix⟩) xs _ hOp.sl (hl.ext hX)) ?_
 rintro v20 w20 ⟨rfl,hE20⟩
 have hX:=hX.ext hE20
 have hB2:=hB2.ext hE20
 have hO:=hO.ext hE20
 have hB4:=hB4.ext hE20
 have hR:=hR.ext hE20
 have hB8:=hB8.ext hE20
 have hI:=hI.ext hE20
 have hG7:=hG7.ext hE20
 refine g1 58 rfl rfl (Ez rfl) ?_
 refine p1 (Au rfl (by conv=>lhs;whnf)) ?_
 refine Ac (t_n ?_)
 refine As rfl (fun hc63=>?_) (fun hc63=>?_)
 ·try simp only[dA,dB,dC,dD,dE,dF,dG,Int.not_lt,Int.not_le] at hc63
  refine Ab (Aa ?_)
  refine p1 (Dl pl99 rfl) ?_
  refine Al rfl (by conv=>lhs;whnf) (by simp[Value.oneCell']) (by exact sz99) hB2 (by rfl) ?_
  intro w21 hP21
  have hX:=hX.put hP21 (by omega)
  have hB2:=hP21.blk
  have hO:=hO.mod (hP21.mod 0 (Nat.zero_le _)) (Nat.zero_le _) (by decide)
  have hB4:=hP21.keep hB4 (by omega)
  have hR:=hR.mod (hP21.mod 0 (Nat.zero_le _)) (Nat.zero_le _) (by decide)
  have hB8:=hP21.keep hB8 (by omega)
  have hI:=hI.mod (hP21.mod 0 (Nat.zero_le _)) (Nat.zero_le _) (by decide)
  refine pA ?_
  refine Ac (t_n (Ao (t_r ?_)))
  refine end2c rfl ua99 rfl (by conv=>lhs;whnf) hB2 sz99 ?_
  (refine⟨⟨0,0,none,0,0,4,rfl,.inr ⟨rfl,fun ⟨M,hM⟩=>?_⟩⟩,hX⟩
   have e1:N1=s:=by omega
   have e2:N2=z:=by omega
   subst e1 e2
   have h9:=(hMx M hM).2
   rw[h9] at hM
   have h8:=hM.2
   simp[h8] at hc63)
 try simp only[dA,dB,dC,dD,dE,dF,dG,Int.not_lt,Int.not_le] at hc63
 refine Ak (t_n (Ab (Aa ?_)))
 refine p1 (Aq ua99 rfl hB8 sz99) ?_
 refine Al rfl (by conv=>lhs;whnf) (by simp[Value.oneCell']) (by exact sz99) hB2 (by rfl) ?_
 intro w22 hP22
 have hX:=hX.put hP22 (by omega)
 have hB2:=hP22.blk
 have hO:=hO.mod (hP22.mod 0 (Nat.zero_le _)) (Nat.zero_le _) (by decide)
 have hB4:=hP22.keep hB4 (by omega)
 have hR:=hR.mod (hP22.mod 0 (Nat.zero_le _)) (Nat.zero_le _) (by decide)
 have hB8:=hP22.keep hB8 (by omega)
 have hI:=hI.mod (hP22.mod 0 (Nat.zero_le _)) (Nat.zero_le _) (by decide)
 refine pA ?_
 refine Ac (t_n (Ao ?_))
 refine end2c rfl ua99 rfl (by conv=>lhs;whnf) hB2 sz99 ?_
 (have e1:N1=s:=by omega
  have e2:N2=z:=by omega
  subst e1 e2
  have h8:manB ⟨N1,N2,ix⟩=xs:=by simpa using hc63
  exact⟨⟨_,_,_,_,_,0,rfl,.inl ⟨rfl,⟨N1,N2,ix⟩,⟨hok,h8⟩,rfl,rfl,hI⟩⟩,hX⟩)
end Go.Proofs.Eng
end
section
set_option maxRecDepth 100000
set_option maxHeartbeats 4000000
namespace Go.Proofs.Eng
open Go.RowKit
open Extern.Stop (cell)
theorem Yu (s:ByteArray) (w:World) (hs:s.size≤9223372036854775807) :
    Ret Tryz.prog 107 [.string s] w (fun v w'=>v = .bool (Bg s)∧Ext w w'):=by
 have hX:=Ext.refl w
 refine eN 28 Tryz.func107 ?_
 refine Ab (Aa ?_)
 refine pA (Ac (t_n (Ab (Ab (Aa ?_)))))
 refine pA (Ac (t_n (Ap ?_)))
 have hWL0:=Ext.refl w
 refine Bc (ι:=Nat) (rg 2 18) (fun k=>[(3,.int .i64 (k:Int))]) (fun k w'=>Ext w w'∧(k≤s.size∧∀ i,i<k→33≤(btAt s i).toNat∧(btAt s i).toNat≤126)) (fun k=>s.size - k) (0) ⟨rfl,trivial⟩ ⟨Ext.refl _,⟨by omega,fun i hi=>by omega⟩⟩ ?_
 rintro k GL0 w1 ⟨hE1,hk,hL⟩
 have hX:=hX.ext hE1
 have hWL0:=hE1
 refine Ab (Ab (Aa ?_))
 refine pM (pM ?_)
 refine p1 (Dt u9 rfl) ?_
 refine p1 (Bi rfl rfl) ?_
 refine Ac (t_n ?_)
 refine As rfl (fun hc7=>?_) (fun hc7=>?_)
 ·try simp only[dA,dB,dC,dD,dE,dF,dG,Int.not_lt,Int.not_le] at hc7
  refine Ak (t_n (Ab (Ap (Ab ?_))))
  have hWr4:=Ext.refl w1
  refine Dn (ι:=Unit) (rg 10 10) (fun _=>[(19,.bool (decide (((btAt s k).toNat:Int)<33∨126<((btAt s k).toNat:Int))))]) (fun _ w'=>Ext w1 w') ?_ ?_
  ·skip
   refine Aa ?_
   refine pM (pM ?_)
   refine p1 (G1 u9 rfl rfl (by omega)) ?_
   refine p1 (Bi rfl rfl) ?_
   refine p1b (Af (by conv=>lhs;whnf)) (fun hb4_4=>?_) (fun hb4_4=>?_)
   ·try simp only[dA,dB,dC,dD,dE,dF,dG,Int.not_lt,Int.not_le] at hb4_4
    refine gF 14 (gF 14 (gF 14 (gF 14 ?_)))
    refine p1 (Ax rfl (by conv=>lhs;whnf)) ?_
    refine Ac ?_
    refine t_n (aK () ⟨congrArg Value.bool (by exact(decide_eq_true (by omega)).symm),trivial⟩ hWr4)
   try simp only[dA,dB,dC,dD,dE,dF,dG,Int.not_lt,Int.not_le] at hb4_4
   refine gM 14 (gM 14 ?_)
   refine g1 14 rfl rfl (G1 u9 rfl rfl (by omega)) ?_
   refine g1 14 rfl rfl (Cw rfl rfl) ?_
   refine p1 (Au rfl (by conv=>lhs;whnf)) ?_
   refine Ac ?_
   refine t_n (aK () ⟨congrArg Value.bool (by exact decide_eq_decide.2 (by omega)),trivial⟩ hWr4)
  rintro _ Gr4 w2 hE2
  have hX:=hX.ext hE2
  have hWL0:=hWL0.ext hE2
  refine t_n ?_
  refine As rfl (fun hc19=>?_) (fun hc19=>?_)
  ·try simp only[dA,dB,dC,dD,dE,dF,dG,Int.not_lt,Int.not_le] at hc19
   have hp:Bg s=false:=Rj (i:=k) (by omega) (by omega)
   refine Ab (Aa ?_)
   refine pA (Ac (t_n (Ao (b_r (t_r (t_r (b_r (t_r ?_))))))))
   refine eR1 ?_
   exact⟨by rw[hp],hX⟩
  try simp only[dA,dB,dC,dD,dE,dF,dG,Int.not_lt,Int.not_le] at hc19
  refine Ak (b_n (t_n (Aa ?_)))
  refine pM ?_
  refine p1 (A0 rfl rfl (Am (by omega) (by omega))) ?_
  refine pA (Ac ?_)
  refine t_n (aK (k+1) ⟨rfl,trivial⟩ ?_)
  exact⟨⟨hWL0,⟨by omega,fun i hi=>if h:i<k then hL i h else by rw[show i=k from by omega];omega⟩⟩,by((show _<_);omega)⟩
 try simp only[dA,dB,dC,dD,dE,dF,dG,Int.not_lt,Int.not_le] at hc7
 have hp:Bg s=decide (1≤s.size∧s.size≤32):=Aa2 (fun i hi=>hL i (by omega))
 refine A8 (t_e (t_e (Bq (t_n (Ab ?_)))))
 have hWr6:=Ext.refl w1
 refine Dn (ι:=Unit) ([2]++rg 20 8) (fun _=>[(2,.bool (decide (1≤s.size∧s.size≤32)))]) (fun _ w'=>Ext w1 w') ?_ ?_
 ·skip
  refine Aa ?_
  refine pM ?_
  refine p1 (Dt u9 rfl) ?_
  refine p1 (M4 rfl rfl) ?_
  refine p1b (Af (by conv=>lhs;whnf)) (fun hb6_3=>?_) (fun hb6_3=>?_)
  ·try simp only[dA,dB,dC,dD,dE,dF,dG,Int.not_lt,Int.not_le] at hb6_3
   refine gM 23 ?_
   refine g1 23 rfl rfl (Dt u9 rfl) ?_
   refine g1 23 rfl rfl (Ad1 rfl rfl) ?_
   refine p1 (Ax rfl (by conv=>lhs;whnf)) ?_
   refine pA (Ac ?_)
   refine t_n (aK () ⟨congrArg Value.bool (by exact decide_eq_decide.2 (by omega)),trivial⟩ hWr6)
  try simp only[dA,dB,dC,dD,dE,dF,dG,Int.not_lt,Int.not_le] at hb6_3
  refine gF 23 (gF 23 (gF 23 ?_))
  refine p1 (Au rfl (by conv=>lhs;whnf)) ?_
  refine pA (Ac ?_)
  refine t_n (aK () ⟨congrArg Value.bool (by exact(decide_eq_false (by omega)).symm),trivial⟩ hWr6)
 rintro _ Gr6 w3 hE3
 have hX:=hX.ext hE3
 refine t_n (Ao ?_)
 refine eR1 ?_
 exact⟨by rw[hp],hX⟩
theorem Fq (a0 a2 a4:Int) (b3 b5 b6:Bool) (p:Option Addr) (n c:Nat) (D:DS) (hdn:D.down=b6) (ns:List ByteArray) (B:Nat) (q:Option Addr) (m c2:Nat) (w:World) (hl:Sl kStr 9 B w q m c2 ns) (hs:∀ s∈ns,s.size≤9223372036854775807) :
    Ret Tryz.prog 66 [.agg #[.int .i64 a0,.slice p n c,.int .i64 a2,.bool b3,.int .i64 a4,.bool b5,.bool b6],.slice q m c2] w (fun v w'=>v = .int .i64 (lookD D ns)∧Ext w w'):=by
 have hX:=Ext.refl w
 refine eN 20 Tryz.func66 ?_
 refine Ab (Aa ?_)
 refine Bu (by conv=>lhs;whnf) ?_
 intro w1 g2 hN2
 have hE1:=hN2.ext
 have hX:=hX.ext hE1
 have hB2:=hN2.blk
 refine pA (Ac (t_n (Ab (Ab (Aa ?_)))))
 refine pA (Ac (t_n (Ap ?_)))
 have hWL0:=Ext.refl w1
 have hlen:=hl.len
 have hfit:=hl.fit
 have hcap:=hl.cap
 refine Bc (ι:=Nat) (rg 4 14) (fun k=>[(5,.int .i64 (k:Int))]) (fun k w'=>Ext w1 w'∧(k≤m∧∀ i,i<k→Bg (ns.getD i ByteArray.empty)=true)) (fun k=>m - k) (0) ⟨rfl,trivial⟩ ⟨Ext.refl _,⟨by omega,fun i hi=>by omega⟩⟩ ?_
 rintro k GL0 w2 ⟨hE2,hk,hL⟩
 have hX:=hX.ext hE2
 have hB2:=hB2.ext hE2
 have hWL0:=hE2
 refine Ab (Ab (Aa ?_))
 refine pM (pM ?_)
 refine p1 (Ar u74 rfl) ?_
 refine p1 (Bi rfl rfl) ?_
 refine Ac (t_n ?_)
 refine As rfl (fun hc9=>?_) (fun hc9=>?_)
 ·refine Ak (t_n (Ab (Ap (Ab (Aa ?_)))))
  refine pM (pM ?_)
  refine p1 (Cr u74 sz9 rfl rfl ((hl.ext hX).adr Ej (by omega)) (by omega)) ?_
  refine p1 (Ae un9 rfl ((hl.ext hX).strAt _ (by omega))) ?_
  refine oC Tryz.func107 (Yu _ _ (hs _ (Dq (z:=ByteArray.empty) (i:=k) (by omega) rfl))) ?_
  rintro v3 w3 ⟨rfl,hE3⟩
  have hX:=hX.ext hE3
  have hWL0:=hWL0.ext hE3
  refine p1 (Ht rfl) ?_
  refine Ac (t_n ?_)
  refine Dm rfl (fun hc17=>?_) (fun hc17=>?_)
  ·have hp:lookD D ns=30:=by unfold lookD;rw[if_pos (Lj (k:=k) (by omega) (by simpa using hc17))]
   refine Ab (Aa ?_)
   refine pA (Ac (t_n (Ao (b_r (t_r (t_r (b_r (t_r ?_))))))))
   refine eR1 ?_
   exact⟨by rw[hp],hX⟩
  have h1:Bg (ns.getD k ByteArray.empty)=true:=by simpa using hc17
  refine Ak (b_n (t_n (Aa ?_)))
  refine pM ?_
  refine p1 (A0 rfl rfl (Am (by omega) (by omega))) ?_
  refine pA (Ac ?_)
  refine t_n (aK (k+1) ⟨rfl,trivial⟩ ?_)
  exact⟨⟨hWL0,⟨by omega,fun i hi=>if h:i<k then hL i h else by rw[show i=k from by omega];exact h1⟩⟩,by((show _<_);omega)⟩
 have hall:=Ks hL (by omega)
 refine A8 (t_e (t_e (Bq (t_n (Ab (Ab (Aa ?_)))))))
 refine p1 (Ad S5 sz4 rfl) ?_
 refine p1 (Ae un4 rfl (hB2.cell (rfl))) ?_
 refine Ac (t_n ?_)
 refine Dm rfl (fun hc19=>?_) (fun hc19=>?_)
 ·have hp:lookD D ns=20:=by unfold lookD;rw[if_neg (by rw[hall];simp),if_pos (by rw[hdn];exact hc19)]
  refine Ab (Aa ?_)
  refine pA (Ac (t_n (Ao (t_r ?_))))
  refine eR1 ?_
  exact⟨by rw[hp],hX⟩
 have hp:lookD D ns=0:=by unfold lookD;rw[if_neg (by rw[hall];simp),if_neg (by rw[hdn,hc19];simp)]
 refine Ak (t_n (Ab (Aa ?_)))
 refine pA (Ac (t_n (Ao ?_)))
 refine eR1 ?_
 exact⟨by rw[hp],hX⟩
theorem Ey (a0 a2 a4:Int) (b3 b5 b6:Bool) (l:List Fl) (p:Option Addr) (n c:Nat) (w:World) (hl:Sl kFl 119 0 w p n c l) (k:ByteArray) (hn:n≤100000) :
    Ret Tryz.prog 67 [.agg #[.int .i64 a0,.slice p n c,.int .i64 a2,.bool b3,.int .i64 a4,.bool b5,.bool b6],.string k] w (fun v w'=>v = .tuple #[.int .i64 (plcA l k:Int),.bool (decide (isAtA l (plcA l k) k))]∧Ext w w'):=by
 have hX:=Ext.refl w
 refine eN 40 Tryz.func67 ?_
 refine Ab (Aa ?_)
 refine Bu (by conv=>lhs;whnf) ?_
 intro w1 g2 hN2
 have hE1:=hN2.ext
 have hX:=hX.ext hE1
 have hB2:=hN2.blk
 refine pA (pA (Ac (t_n (Ab (Aa ?_)))))
 refine pA (Ac (t_n (Ab (Ap ?_))))
 have hWL0:=Ext.refl w1
 have hlen:=hl.len
 refine Bc (ι:=Nat) (rg 6 18) (fun i=>[(6,.int .i64 (i:Int))]) (fun i w'=>Ext w1 w'∧(i≤n∧∀ j,j<i→lssB (l.getD j default).1 k=true)) (fun i=>n - i) (0) ⟨rfl,trivial⟩ ⟨Ext.refl _,⟨by omega,fun j hj=>by omega⟩⟩ ?_
 rintro i GL0 w2 ⟨hE2,hi,hL⟩
 have hX:=hX.ext hE2
 have hB2:=hB2.ext hE2
 have hWL0:=hE2
 refine Ab (Ab (Aa ?_))
 refine pM ?_
 refine p1 (Ad Cm sz43 rfl) ?_
 refine p1 (Ae un43 rfl (hB2.cell (rfl))) ?_
 refine p1 (Ar u43 rfl) ?_
 refine p1 (Bi rfl rfl) ?_
 refine p1b (Af (by conv=>lhs;whnf)) (fun hb2_5=>?_) (fun hb2_5=>?_)
 ·try simp only[dA,dB,dC,dD,dE,dF,dG,Int.not_lt,Int.not_le] at hb2_5
  refine g1 12 rfl rfl (Ad Cm sz43 rfl) ?_
  refine g1 12 rfl rfl (Ae un43 rfl (hB2.cell (rfl))) ?_
  refine gM 12 ?_
  refine g1 12 rfl rfl (Cs u43 sz119 rfl rfl ((hl.ext hX).adr Cq (by omega)) (by omega) (by omega)) ?_
  refine g1 12 rfl rfl (Ad Gj sz9 rfl) ?_
  refine g1 12 rfl rfl (Ae un9 rfl ((hl.ext hX).flAt i (by omega) 0 rfl)) ?_
  refine gM 12 ?_
  refine g1 12 rfl rfl (Yd rfl rfl) ?_
  refine p1 (Ax rfl (by conv=>lhs;whnf)) ?_
  refine Ac (t_n ?_)
  refine Dm rfl (fun hc21=>?_) (fun hc21=>?_)
  ·try simp only[dA,dB,dC,dD,dE,dF,dG,Int.not_lt,Int.not_le] at hc21
   have h1:lssB (l.getD i default).1 k=true:=hc21
   refine Ak (t_n (Ap (Aa ?_)))
   refine pM ?_
   refine p1 (A0 rfl rfl (Am (by omega) (by omega))) ?_
   refine pA (Ac (b_n ?_))
   refine t_n (aK (i+1) ⟨rfl,trivial⟩ ?_)
   exact⟨⟨hWL0,⟨by omega,fun j hj=>if h:j<i then hL j h else by rw[show j=i from by omega];exact h1⟩⟩,by((show _<_);omega)⟩
  try simp only[dA,dB,dC,dD,dE,dF,dG,Int.not_lt,Int.not_le] at hc21
  have hend:i<n→lssB (l.getD i default).1 k=false:=fun h=>by exact hc21
  have hpl:plcA l k=i:=Md l k i (by omega) hL (fun h=>hend (by omega))
  refine A8 (t_e (t_e (Bq (t_n (Ab ?_)))))
  refine Cy mixed (by kernel_rfl) ?_
  intro w3 hE3
  have hX:=hX.ext hE3
  have hB2:=hB2.ext hE3
  refine s1 (Af (by conv=>lhs;whnf)) ?_
  refine s1 (Af (by conv=>lhs;whnf)) ?_
  refine s1 (Ad Cm sz43 rfl) ?_
  refine s1 (Ae un43 rfl (hB2.cell (rfl))) ?_
  refine s1 (Ar u43 rfl) ?_
  refine s1 (Bi rfl rfl) ?_
  refine s1b (Af (by conv=>lhs;whnf)) (fun hb4_6=>?_) (fun hb4_6=>?_)
  ·try simp only[dA,dB,dC,dD,dE,dF,dG,Int.not_lt,Int.not_le] at hb4_6
   refine sg1 30 rfl rfl (Ad Cm sz43 rfl) ?_
   refine sg1 30 rfl rfl (Ae un43 rfl (hB2.cell (rfl))) ?_
   refine sg1 30 rfl rfl (Af (by conv=>lhs;whnf)) ?_
   refine sg1 30 rfl rfl (Cs u43 sz119 rfl rfl ((hl.ext hX).adr Cq (by omega)) (by omega) (by omega)) ?_
   refine sg1 30 rfl rfl (Ad Gj sz9 rfl) ?_
   refine sg1 30 rfl rfl (Ae un9 rfl ((hl.ext hX).flAt i (by omega) 0 rfl)) ?_
   refine sg1 30 rfl rfl (Af (by conv=>lhs;whnf)) ?_
   refine sg1 30 rfl rfl (Fj rfl rfl) ?_
   refine s1 (Ax rfl (by conv=>lhs;whnf)) ?_
   refine s1 (Ah (by conv=>lhs;whnf)) ?_
   refine s1 (Ah (by conv=>lhs;whnf)) ?_
   refine Bx (t_n (Ao ?_))
   refine eR2 ?_
   exact⟨by rw[hpl];exact congrArg (fun b=>Value.tuple #[.int .i64 (i:Int),.bool b]) (decide_eq_decide.2 ⟨fun h=>⟨by omega,h⟩,fun h=>h.2⟩),hX⟩
  try simp only[dA,dB,dC,dD,dE,dF,dG,Int.not_lt,Int.not_le] at hb4_6
  refine sg0 30 rfl (by exact .inl rfl) ?_
  refine sg0 30 rfl (by exact .inl rfl) ?_
  refine sg0 30 rfl (by exact .inl rfl) ?_
  refine sg0 30 rfl (by exact .inl rfl) ?_
  refine sg0 30 rfl (by exact .inl rfl) ?_
  refine sg0 30 rfl (by exact .inl rfl) ?_
  refine sg0 30 rfl (by exact .inl rfl) ?_
  refine sg0 30 rfl (by exact .inl rfl) ?_
  refine s1 (Au rfl (by conv=>lhs;whnf)) ?_
  refine s1 (Ah (by conv=>lhs;whnf)) ?_
  refine s1 (Ah (by conv=>lhs;whnf)) ?_
  refine Bx (t_n (Ao ?_))
  refine eR2 ?_
  exact⟨by rw[hpl];exact congrArg (fun b=>Value.tuple #[.int .i64 (i:Int),.bool b]) (decide_eq_false (fun h=>by have:=h.1;omega)).symm,hX⟩
 try simp only[dA,dB,dC,dD,dE,dF,dG,Int.not_lt,Int.not_le] at hb2_5
 refine gF 12 (gF 12 (gF 12 (gF 12 (gF 12 (gF 12 (gF 12 (gF 12 ?_)))))))
 refine p1 (Au rfl (by conv=>lhs;whnf)) ?_
 refine Ac (t_n ?_)
 refine c_f rfl ?_
 have hend:i<n→lssB (l.getD i default).1 k=false:=fun h=>by(exfalso;omega)
 have hpl:plcA l k=i:=Md l k i (by omega) hL (fun h=>hend (by omega))
 refine A8 (t_e (t_e (Bq (t_n (Ab ?_)))))
 refine Cy mixed (by kernel_rfl) ?_
 intro w4 hE4
 have hX:=hX.ext hE4
 have hB2:=hB2.ext hE4
 refine s1 (Af (by conv=>lhs;whnf)) ?_
 refine s1 (Af (by conv=>lhs;whnf)) ?_
 refine s1 (Ad Cm sz43 rfl) ?_
 refine s1 (Ae un43 rfl (hB2.cell (rfl))) ?_
 refine s1 (Ar u43 rfl) ?_
 refine s1 (Bi rfl rfl) ?_
 refine s1b (Af (by conv=>lhs;whnf)) (fun hb4_6=>?_) (fun hb4_6=>?_)
 ·try simp only[dA,dB,dC,dD,dE,dF,dG,Int.not_lt,Int.not_le] at hb4_6
  refine sg1 30 rfl rfl (Ad Cm sz43 rfl) ?_
  refine sg1 30 rfl rfl (Ae un43 rfl (hB2.cell (rfl))) ?_
  refine sg1 30 rfl rfl (Af (by conv=>lhs;whnf)) ?_
  refine sg1 30 rfl rfl (Cs u43 sz119 rfl rfl ((hl.ext hX).adr Cq (by omega)) (by omega) (by omega)) ?_
  refine sg1 30 rfl rfl (Ad Gj sz9 rfl) ?_
  refine sg1 30 rfl rfl (Ae un9 rfl ((hl.ext hX).flAt i (by omega) 0 rfl)) ?_
  refine sg1 30 rfl rfl (Af (by conv=>lhs;whnf)) ?_
  refine sg1 30 rfl rfl (Fj rfl rfl) ?_
  refine s1 (Ax rfl (by conv=>lhs;whnf)) ?_
  refine s1 (Ah (by conv=>lhs;whnf)) ?_
  refine s1 (Ah (by conv=>lhs;whnf)) ?_
  refine Bx (t_n (Ao ?_))
  refine eR2 ?_
  exact⟨by rw[hpl];exact congrArg (fun b=>Value.tuple #[.int .i64 (i:Int),.bool b]) (decide_eq_decide.2 ⟨fun h=>⟨by omega,h⟩,fun h=>h.2⟩),hX⟩
 try simp only[dA,dB,dC,dD,dE,dF,dG,Int.not_lt,Int.not_le] at hb4_6
 refine sg0 30 rfl (by exact .inl rfl) ?_
 refine sg0 30 rfl (by exact .inl rfl) ?_
 refine sg0 30 rfl (by exact .inl rfl) ?_
 refine sg0 30 rfl (by exact .inl rfl) ?_
 refine sg0 30 rfl (by exact .inl rfl) ?_
 refine sg0 30 rfl (by exact .inl rfl) ?_
 refine sg0 30 rfl (by exact .inl rfl) ?_
 refine sg0 30 rfl (by exact .inl rfl) ?_
 refine s1 (Au rfl (by conv=>lhs;whnf)) ?_
 refine s1 (Ah (by conv=>lhs;whnf)) ?_
 refine s1 (Ah (by conv=>lhs;whnf)) ?_
 refine Bx (t_n (Ao ?_))
 refine eR2 ?_
 exact⟨by rw[hpl];exact congrArg (fun b=>Value.tuple #[.int .i64 (i:Int),.bool b]) (decide_eq_false (fun h=>by have:=h.1;omega)).symm,hX⟩
theorem Aaj (a0 a2 a4:Int) (b3 b5 b6:Bool) (l:List Fl) (p:Option Addr) (n c:Nat) (w:World) (hl:Sl kFl 119 0 w p n c l) (hn:n≤100000) (hu:usedL l≤16777216) :
    Ret Tryz.prog 71 [.agg #[.int .i64 a0,.slice p n c,.int .i64 a2,.bool b3,.int .i64 a4,.bool b5,.bool b6]] w (fun v w'=>v = .int .i64 ((usedL l:Nat):Int)∧Ext w w'):=by
 have hX:=Ext.refl w
 refine eN 30 Tryz.func71 ?_
 refine Ab (Aa ?_)
 refine Bu (by conv=>lhs;whnf) ?_
 intro w1 g1 hN1
 have hE1:=hN1.ext
 have hX:=hX.ext hE1
 have hB1:=hN1.blk
 refine pA (Ac (t_n (Ab (Aa ?_))))
 refine pA (Ac (t_n (Ab (Ab (Aa ?_)))))
 refine pA (Ac (t_n (Ap ?_)))
 have hWL0:=Ext.refl w1
 have hlen:=hl.len
 refine Bc (ι:=Nat) (rg 3 26) (fun i=>[(3,.int .i64 ((usedL (l.take i):Nat):Int)),(4,.int .i64 (i:Int))]) (fun i w'=>Ext w1 w'∧(i≤n)) (fun i=>n - i) (0) ⟨rfl,rfl,trivial⟩ ⟨Ext.refl _,by omega⟩ ?_
 rintro i GL0 w2 ⟨hE2,hi⟩
 have hX:=hX.ext hE2
 have hB1:=hB1.ext hE2
 have hWL0:=hE2
 refine Ab (Ab (Aa ?_))
 refine pM ?_
 refine p1 (Ad Cm sz43 rfl) ?_
 refine p1 (Ae un43 rfl (hB1.cell (rfl))) ?_
 refine p1 (Ar u43 rfl) ?_
 refine p1 (Bi rfl rfl) ?_
 refine Ac (t_n ?_)
 refine As rfl (fun hc9=>?_) (fun hc9=>?_)
 ·refine Ak (t_n (Ab (Ap ?_)))
  have hstep:=Vo (l:=l) (k:=i) (by omega)
  have htk:=Vn l (i+1)
  have hz1:=Bo ((l.getD i default).2.1.take (l.getD i default).2.2)
  have hz2:=Bo ((l.getD i default).2.1.drop (l.getD i default).2.2)
  rw[List.length_take] at hz1
  rw[List.length_drop] at hz2
  refine Cy mixed (by kernel_rfl) ?_
  intro w3 hE3
  have hX:=hX.ext hE3
  have hB1:=hB1.ext hE3
  have hWL0:=hWL0.ext hE3
  refine s1 (Af (by conv=>lhs;whnf)) ?_
  refine s1 (Ad Cm sz43 rfl) ?_
  refine s1 (Ae un43 rfl (hB1.cell (rfl))) ?_
  refine s1 (Af (by conv=>lhs;whnf)) ?_
  refine s1 (Cs u43 sz119 rfl rfl ((hl.ext hX).adr Cq (by omega)) (by omega) (by omega)) ?_
  refine s1 (Ad Ke sz9 rfl) ?_
  refine s1 (Ae un9 rfl ((hl.ext hX).flAt i (by omega) 1 rfl)) ?_
  refine s1 (Dt u9 rfl) ?_
  refine s1 (Ad Cm sz43 rfl) ?_
  refine s1 (Ae un43 rfl (hB1.cell (rfl))) ?_
  refine s1 (Af (by conv=>lhs;whnf)) ?_
  refine s1 (Cs u43 sz119 rfl rfl ((hl.ext hX).adr Cq (by omega)) (by omega) (by omega)) ?_
  refine s1 (Ad Kd sz9 rfl) ?_
  refine s1 (Ae un9 rfl ((hl.ext hX).flAt i (by omega) 2 rfl)) ?_
  refine s1 (Dt u9 rfl) ?_
  refine s1 (A0 rfl rfl (Am (by omega) (by omega))) ?_
  refine s1 ((A0 rfl rfl (Am (by omega) (by omega))).cast (congrArg (Value.int .i64) (by omega:_=((usedL (l.take (i+1)):Nat):Int)))) ?_
  refine s1 (Ah (by conv=>lhs;whnf)) ?_
  refine Bx (b_n (t_n (Aa ?_)))
  refine pM ?_
  refine p1 (A0 rfl rfl (Am (by omega) (by omega))) ?_
  refine pA (Ac ?_)
  refine t_n (aK (i+1) ⟨rfl,rfl,trivial⟩ ?_)
  exact⟨⟨hWL0,(by omega)⟩,by((show _<_);omega)⟩
 have htt:l.take i=l:=List.take_of_length_le (by omega)
 refine A8 (t_e (t_e (Bq (t_n (Ab (Aa ?_))))))
 refine pM (pA (Ac (t_n (Ao ?_))))
 refine eR1 ?_
 exact⟨by rw[htt],hX⟩
theorem V1 (a0 a2 a4 a0x a2x a4x:Int) (b3 b5 b6 b3x b5x b6x:Bool) (p px:Option Addr) (n c nx cx:Nat) (w:World) :
    Ret Tryz.prog 70 [.agg #[.int .i64 a0,.slice p n c,.int .i64 a2,.bool b3,.int .i64 a4,.bool b5,.bool b6],.agg #[.int .i64 a0x,.slice px nx cx,.int .i64 a2x,.bool b3x,.int .i64 a4x,.bool b5x,.bool b6x]] w (fun v w'=>v=(if b5=true then .agg #[.int .i64 a0x,.slice px nx cx,.int .i64 a2x,.bool b3x,.int .i64 a4x,.bool b5x,.bool b6x] else .agg #[.int .i64 a0,.slice p n c,.int .i64 a2,.bool b3,.int .i64 a4,.bool b5,.bool b6])∧Ext w w'):=by
 have hX:=Ext.refl w
 refine eN 9 Tryz.func70 ?_
 refine Ab (Aa ?_)
 refine Bu (by conv=>lhs;whnf) ?_
 intro w1 g2 hN2
 have hE1:=hN2.ext
 have hX:=hX.ext hE1
 have hB2:=hN2.blk
 refine Bu (by conv=>lhs;whnf) ?_
 intro w2 g3 hN3
 have hE2:=hN3.ext
 have hX:=hX.ext hE2
 have hB2:=hB2.ext hE2
 have hB3:=hN3.blk
 have hXs4:=hX.size
 have hlt2:=hB2.lt
 have hlt3:=hB3.lt
 refine Ay zr45 ?_
 intro w3 g4 hN4
 have hE3:=hN4.ext
 have hX:=hX.ext hE3
 have hB2:=hB2.ext hE3
 have hB3:=hB3.ext hE3
 have hB4:=hN4.blk
 refine Ac (t_n (Ab (Ab ?_)))
 have hq4:=hN4.g_eq
 refine Aa ?_
 refine p1 (Ad Abp sz4 rfl) ?_
 refine p1 (Ae un4 rfl (hB2.cell (rfl))) ?_
 refine Ac (t_n ?_)
 refine Dm rfl (fun hc6=>?_) (fun hc6=>?_)
 ·have hq:b5=true:=hc6
  refine Ab (Aa ?_)
  refine p1 (Aq ua45 rfl hB3 (by exact sz45)) ?_
  refine Al rfl (by conv=>lhs;whnf) (by simp[Value.oneCell']) (by exact sz45) hB4 (by rfl) ?_
  intro w4 hP4
  have hX:=hX.put hP4 (by rw[hN4.g_eq];exact hXs4)
  have hB2:=hP4.keep hB2 (by omega)
  have hB3:=hP4.keep hB3 (by omega)
  have hB4:=hP4.blk
  refine Ac (t_n (Ao (t_r ?_)))
  refine end1c rfl ua45 rfl hB4 (by exact sz45) ?_
  exact⟨(if_pos hq).symm,hX⟩
 have hq:¬ b5=true:=by simpa using hc6
 refine Ak (t_n (Ab (Aa ?_)))
 refine p1 (Aq ua45 rfl hB2 (by exact sz45)) ?_
 refine Al rfl (by conv=>lhs;whnf) (by simp[Value.oneCell']) (by exact sz45) hB4 (by rfl) ?_
 intro w5 hP5
 have hX:=hX.put hP5 (by rw[hN4.g_eq];exact hXs4)
 have hB2:=hP5.keep hB2 (by omega)
 have hB3:=hP5.keep hB3 (by omega)
 have hB4:=hP5.blk
 refine Ac (t_n (Ao ?_))
 refine end1c rfl ua45 rfl hB4 (by exact sz45) ?_
 exact⟨(if_neg hq).symm,hX⟩
theorem Aai (a0 a2 a4 a0x a2x a4x a0y a2y a4y:Int) (b3 b5 b6 b3x b5x b6x b3y b5y b6y:Bool) (p px py:Option Addr) (n c nx cx ny cy:Nat) (w:World) (h1:-9223372036854775807≤a4x) (h2:a4x≤9223372036854775807) (h3:0≤a2x) (h4:a2x<9223372036854775807) :
    Ret Tryz.prog 69 [.agg #[.int .i64 a0,.slice p n c,.int .i64 a2,.bool b3,.int .i64 a4,.bool b5,.bool b6],.agg #[.int .i64 a0x,.slice px nx cx,.int .i64 a2x,.bool b3x,.int .i64 a4x,.bool b5x,.bool b6x],.agg #[.int .i64 a0y,.slice py ny cy,.int .i64 a2y,.bool b3y,.int .i64 a4y,.bool b5y,.bool b6y]] w (fun v w'=>v=(if b3=true∧a4=0 then .tuple #[.agg #[.int .i64 a0y,.slice py ny cy,.int .i64 a2y,.bool false,.int .i64 a4y,.bool b5y,.bool true],.int .i64 20] else .tuple #[.agg #[.int .i64 a0x,.slice px nx cx,.int .i64 (a2x+1),.bool b3x,.int .i64 (if b3x=true then a4x - 1 else a4x),.bool b5x,.bool b6x],.int .i64 0])∧Ext w w'):=by
 have hX:=Ext.refl w
 refine eN 29 Tryz.func69 ?_
 refine Ab (Aa ?_)
 have hXs3:=hX.size
 refine Bu (by conv=>lhs;whnf) ?_
 intro w1 g3 hN3
 have hE1:=hN3.ext
 have hX:=hX.ext hE1
 have hB3:=hN3.blk
 have hXs4:=hX.size
 have hlt3:=hB3.lt
 refine Bu (by conv=>lhs;whnf) ?_
 intro w2 g4 hN4
 have hE2:=hN4.ext
 have hX:=hX.ext hE2
 have hB3:=hB3.ext hE2
 have hB4:=hN4.blk
 have hXs5:=hX.size
 have hlt4:=hB4.lt
 have hlt3b:=hB3.lt
 refine Bu (by conv=>lhs;whnf) ?_
 intro w3 g5 hN5
 have hE3:=hN5.ext
 have hX:=hX.ext hE3
 have hB3:=hB3.ext hE3
 have hB4:=hB4.ext hE3
 have hB5:=hN5.blk
 have hXs6:=hX.size
 have hlt5:=hB5.lt
 have hlt4c:=hB4.lt
 have hlt3c:=hB3.lt
 refine Ay zr45 ?_
 intro w4 g6 hN6
 have hE4:=hN6.ext
 have hX:=hX.ext hE4
 have hB3:=hB3.ext hE4
 have hB4:=hB4.ext hE4
 have hB5:=hB5.ext hE4
 have hB6:=hN6.blk
 have hq4:=hN4.g_eq
 have hq5:=hN5.g_eq
 have hq6:=hN6.g_eq
 refine pA (Ac (t_n (Ab (Ab ?_))))
 have hWr1:=Ext.refl w4
 refine Dn (ι:=Unit) [8,9,10,11,12,13,14] (fun _=>[(14,.bool (decide (b3=true∧a4=0)))]) (fun _ w'=>Ext w4 w') ?_ ?_
 ·skip
  refine Aa ?_
  refine p1 (Ad S7 sz4 rfl) ?_
  refine p1 (Ae un4 rfl (hB3.cell (rfl))) ?_
  refine p1b (Af (by conv=>lhs;whnf)) (fun hb1_2=>?_) (fun hb1_2=>?_)
  ·refine g1 10 rfl rfl (Ad S6 sz3 rfl) ?_
   refine g1 10 rfl rfl (Ae un3 rfl (hB3.cell (rfl))) ?_
   refine g1 10 rfl rfl (Bw rfl rfl) ?_
   refine p1 (Ax rfl (by conv=>lhs;whnf)) ?_
   refine Ac ?_
   refine t_n (aK () ⟨congrArg Value.bool (by(simp_all;done)),trivial⟩ hWr1)
  refine gF 10 (gF 10 (gF 10 ?_))
  refine p1 (Au rfl (by conv=>lhs;whnf)) ?_
  refine Ac ?_
  refine t_n (aK () ⟨congrArg Value.bool (by(simp_all;done)),trivial⟩ hWr1)
 rintro _ Gr1 w5 hE5
 have hX:=hX.ext hE5
 have hB3:=hB3.ext hE5
 have hB4:=hB4.ext hE5
 have hB5:=hB5.ext hE5
 have hB6:=hB6.ext hE5
 refine t_n ?_
 refine As rfl (fun hc14=>?_) (fun hc14=>?_)
 ·refine Ab (Aa ?_)
  refine p1 (Ad S5 sz4 rfl) ?_
  refine Aw rfl (by conv=>lhs;whnf) rfl rfl sz4 hB5 (by simp) ?_
  intro w6 hP6
  have hX:=hX.put hP6 (by rw[hN5.g_eq];exact hXs5)
  have hB3:=hP6.keep hB3 (by omega)
  have hB4:=hP6.keep hB4 (by omega)
  have hB5:=hP6.blk
  try simp only[List.setIfInBounds_toArray,List.set_cons_zero,List.set_cons_succ] at hB5
  have hB6:=hP6.keep hB6 (by omega)
  refine Ac (t_n (Ab (Aa ?_)))
  refine p1 (Ad S7 sz4 rfl) ?_
  refine Aw rfl (by conv=>lhs;whnf) rfl rfl sz4 hB5 (by simp) ?_
  intro w7 hP7
  have hX:=hX.put hP7 (by rw[hN5.g_eq];exact hXs5)
  have hB3:=hP7.keep hB3 (by omega)
  have hB4:=hP7.keep hB4 (by omega)
  have hB5:=hP7.blk
  try simp only[List.setIfInBounds_toArray,List.set_cons_zero,List.set_cons_succ] at hB5
  have hB6:=hP7.keep hB6 (by omega)
  refine Ac (t_n (Ab (Aa ?_)))
  refine p1 (Aq ua45 rfl hB5 (by exact sz45)) ?_
  refine Al rfl (by conv=>lhs;whnf) (by simp[Value.oneCell']) (by exact sz45) hB6 (by rfl) ?_
  intro w8 hP8
  have hX:=hX.put hP8 (by rw[hN6.g_eq];exact hXs6)
  have hB3:=hP8.keep hB3 (by omega)
  have hB4:=hP8.keep hB4 (by omega)
  have hB5:=hP8.keep hB5 (by omega)
  have hB6:=hP8.blk
  refine pA (Ac (t_n (Ao (t_r ?_))))
  refine end2c rfl ua45 rfl (by conv=>lhs;whnf) hB6 (by exact sz45) ?_
  exact⟨(if_pos hc14).symm,hX⟩
 refine Ak (t_n (Ab (Ab (Aa ?_))))
 refine p1 (Ad S7 sz4 rfl) ?_
 refine p1 (Ae un4 rfl (hB4.cell (rfl))) ?_
 refine Ac (t_n ?_)
 refine Dm rfl (fun hc19=>?_) (fun hc19=>?_)
 ·have hq:b3x=true:=hc19
  refine Aa ?_
  refine p1 (Ad S6 sz3 rfl) ?_
  refine p1 (Ae un3 rfl (hB4.cell (rfl))) ?_
  refine p1 (Dg rfl rfl (Am (by omega) (by omega))) ?_
  refine p1 (Ad S6 sz3 rfl) ?_
  refine Aw rfl (by conv=>lhs;whnf) rfl rfl sz3 hB4 (by simp) ?_
  intro w9 hP9
  have hX:=hX.put hP9 (by rw[hN4.g_eq];exact hXs4)
  have hB3:=hP9.keep hB3 (by omega)
  have hB4:=hP9.blk
  try simp only[List.setIfInBounds_toArray,List.set_cons_zero,List.set_cons_succ] at hB4
  have hB5:=hP9.keep hB5 (by omega)
  have hB6:=hP9.keep hB6 (by omega)
  refine Ac (t_n (Ab (Aa ?_)))
  refine p1 (Ad Py sz3 rfl) ?_
  refine p1 (Ae un3 rfl (hB4.cell (rfl))) ?_
  refine p1 (A0 rfl rfl (Am (by omega) (by omega))) ?_
  refine p1 (Ad Py sz3 rfl) ?_
  refine Aw rfl (by conv=>lhs;whnf) rfl rfl sz3 hB4 (by simp) ?_
  intro w10 hP10
  have hX:=hX.put hP10 (by rw[hN4.g_eq];exact hXs4)
  have hB3:=hP10.keep hB3 (by omega)
  have hB4:=hP10.blk
  try simp only[List.setIfInBounds_toArray,List.set_cons_zero,List.set_cons_succ] at hB4
  have hB5:=hP10.keep hB5 (by omega)
  have hB6:=hP10.keep hB6 (by omega)
  refine Ac (t_n (Ab (Aa ?_)))
  refine p1 (Aq ua45 rfl hB4 (by exact sz45)) ?_
  refine Al rfl (by conv=>lhs;whnf) (by simp[Value.oneCell']) (by exact sz45) hB6 (by rfl) ?_
  intro w11 hP11
  have hX:=hX.put hP11 (by rw[hN6.g_eq];exact hXs6)
  have hB3:=hP11.keep hB3 (by omega)
  have hB4:=hP11.keep hB4 (by omega)
  have hB5:=hP11.keep hB5 (by omega)
  have hB6:=hP11.blk
  refine pA (Ac (t_n (Ao ?_)))
  refine end2c rfl ua45 rfl (by conv=>lhs;whnf) hB6 (by exact sz45) ?_
  exact⟨by rw[if_neg hc14,if_pos hq],hX⟩
 have hq:¬ b3x=true:=by simpa using hc19
 refine Ak (t_n (Ab (Aa ?_)))
 refine p1 (Ad Py sz3 rfl) ?_
 refine p1 (Ae un3 rfl (hB4.cell (rfl))) ?_
 refine p1 (A0 rfl rfl (Am (by omega) (by omega))) ?_
 refine p1 (Ad Py sz3 rfl) ?_
 refine Aw rfl (by conv=>lhs;whnf) rfl rfl sz3 hB4 (by simp) ?_
 intro w12 hP12
 have hX:=hX.put hP12 (by rw[hN4.g_eq];exact hXs4)
 have hB3:=hP12.keep hB3 (by omega)
 have hB4:=hP12.blk
 try simp only[List.setIfInBounds_toArray,List.set_cons_zero,List.set_cons_succ] at hB4
 have hB5:=hP12.keep hB5 (by omega)
 have hB6:=hP12.keep hB6 (by omega)
 refine Ac (t_n (Ab (Aa ?_)))
 refine p1 (Aq ua45 rfl hB4 (by exact sz45)) ?_
 refine Al rfl (by conv=>lhs;whnf) (by simp[Value.oneCell']) (by exact sz45) hB6 (by rfl) ?_
 intro w13 hP13
 have hX:=hX.put hP13 (by rw[hN6.g_eq];exact hXs6)
 have hB3:=hP13.keep hB3 (by omega)
 have hB4:=hP13.keep hB4 (by omega)
 have hB5:=hP13.keep hB5 (by omega)
 have hB6:=hP13.blk
 refine pA (Ac (t_n (Ao ?_)))
 refine end2c rfl ua45 rfl (by conv=>lhs;whnf) hB6 (by exact sz45) ?_
 exact⟨by rw[if_neg hc14,if_neg hq],hX⟩
theorem F4 (a0 a2 a4:Int) (b3 b5 b6:Bool) (l:List Fl) (p:Option Addr) (n c:Nat) (w:World) (hl:Sl kFl 119 0 w p n c l) (hn:n≤100000) (k:ByteArray) (a b:List UInt8) :
    Ret Tryz.prog 68 [.agg #[.int .i64 a0,.slice p n c,.int .i64 a2,.bool b3,.int .i64 a4,.bool b5,.bool b6],.agg #[.string k,.string (toStr a),.string (toStr b)]] w (fun v w'=>(∃ p' n' c',v = .agg #[.int .i64 a0,.slice p' n' c',.int .i64 a2,.bool b3,.int .i64 a4,.bool b5,.bool b6]∧Sl kFl 119 0 w' p' n' c' (insA l k (some (a++b,a.length))))∧Ext w w'):=by
 have hX:=Ext.refl w
 refine eN 35 Tryz.func68 ?_
 refine Ab (Aa ?_)
 have hXs2:=hX.size
 refine Bu (by conv=>lhs;whnf) ?_
 intro w1 g2 hN2
 have hE1:=hN2.ext
 have hX:=hX.ext hE1
 have hB2:=hN2.blk
 have hlt2:=hB2.lt
 refine Bu (by conv=>lhs;whnf) ?_
 intro w2 g3 hN3
 have hE2:=hN3.ext
 have hX:=hX.ext hE2
 have hB2:=hB2.ext hE2
 have hB3:=hN3.blk
 have hXs4:=hX.size
 have hlt3:=hB3.lt
 have hlt2b:=hB2.lt
 refine Ay zr45 ?_
 intro w3 g4 hN4
 have hE3:=hN4.ext
 have hX:=hX.ext hE3
 have hB2:=hB2.ext hE3
 have hB3:=hB3.ext hE3
 have hB4:=hN4.blk
 refine Ac (t_n (Ab ?_))
 have hg4:=hN4.g_eq
 have hg3:=hN3.g_eq
 have hlen:=hl.len
 have hcap:=hl.cap
 have hple:=Gh l k
 refine Aa ?_
 refine p1 (Aq ua45 rfl hB2 (by exact sz45)) ?_
 refine p1 (Ad Gj sz9 rfl) ?_
 refine p1 (Ae un9 rfl (hB3.cell (rfl))) ?_
 refine oC Tryz.func67 (Ey a0 a2 a4 b3 b5 b6 l p n c _ (hl.ext hX) k hn) ?_
 rintro v4 w4 ⟨rfl,hE4⟩
 have hX:=hX.ext hE4
 have hB2:=hB2.ext hE4
 have hB3:=hB3.ext hE4
 have hB4:=hB4.ext hE4
 refine pM ?_
 refine p1 (Aj rfl rfl) ?_
 refine p1 (Aj rfl rfl) ?_
 refine pA (pA (Ac (t_n (Ab (Aa ?_)))))
 refine pA (Ac (t_n (Ab ?_)))
 refine Bj (fun w1 w2=>Ext w1 w2) mixed ?_
 intro w5 hE5
 have hX:=hX.ext hE5
 have hB2:=hB2.ext hE5
 have hB3:=hB3.ext hE5
 have hB4:=hB4.ext hE5
 have hSr3:(fun w1 w2=>Ext w1 w2) w5 w5:=Ext.refl w5
 refine hT 0 rfl hSr3 (fun wS hSS=>by(exact(Af (by conv=>lhs;whnf)))) ?_
 refine hT 1 rfl hSr3 (fun wS hSS=>by(exact(Ad Cm sz43 rfl))) ?_
 refine hT 2 rfl hSr3 (fun wS hSS=>by(have hB2:=hB2.ext hSS;exact(Ae un43 rfl (hB2.cell (rfl))))) ?_
 refine hT 3 rfl hSr3 (fun wS hSS=>by(exact(Af (by conv=>lhs;whnf)))) ?_
 refine hT 4 rfl hSr3 (fun wS hSS=>by(exact(Cv u43 sz119 rfl rfl (by omega)))) ?_
 refine hT 6 rfl hSr3 (fun wS hSS=>by(have hB3:=hB3.ext hSS;exact(Aq ua119 rfl hB3 (by exact sz119)))) ?_
 refine Lq 5 7 _ _ rfl rfl (by kernel_rfl) (A1 (fun Q5 hQ5=>?_)) (A1 (fun Q7 hQ7=>?_))
 ·skip
  obtain⟨B5,hB5⟩:∃ B,B=w5.heap.size:=⟨_,rfl⟩
  have hs3:=Nat.le_trans hSr3.size (Nat.le_of_eq hB5.symm)
  have hq5:=Nat.le_trans hX.size (Nat.le_of_eq hB5.symm)
  have h35:=Nat.lt_of_lt_of_le hB3.lt (Nat.le_of_eq hB5.symm)
  have hOn:Own kFl 119 0 B5 w5 none 0 0 []:=Own.nil _ _ _ _ _
  have hl5:=(hl.ext hX).take (plcA l k) (by omega)
  refine Az (d:=kFl) (l.take (plcA l k)) u43 Gb rfl Cq rfl rfl hOn (Ba u43 hl5 (by decide)) hl5.len (C6 _ _ _) rfl (by omega) (by omega) (by omega) (by omega) (by decide) ?_
  intro p20 c20 w6 hO hM6
  have hE6:Ext w5 w6:=(Ext.refl _).mod hM6 (by rw[hB5];exact Nat.le_refl _)
  rw[List.nil_append] at hO
  have hG5:=hE6
  have hX:=hX.ext hE6
  have hB2:=hB2.ext hE6
  have hB3:=hB3.ext hE6
  have hB4:=hB4.ext hE6
  have hSr3:=hSr3.ext hE6
  refine An hQ5 ⟨hSr3,?_⟩
  refine h1L 7 (fun Q7 hQ7=>?_)
  refine Av u43 Gb rfl (by decide) (fun base hb=>Ed [.agg #[.string k,.string (toStr a),.string (toStr b)]] (by intro v hv';simp only[List.mem_singleton] at hv';subst hv';rfl) base hb) ?_
  intro w7 g22 hN22
  have hE7:=hN22.ext
  have hX:=hX.ext hE7
  have hB2:=hB2.ext hE7
  have hB3:=hB3.ext hE7
  have hB4:=hB4.ext hE7
  have hSr3:=hSr3.ext hE7
  have hO:=hO.ext hE7
  have hG5:=hG5.ext hE7
  have hJ:Own kFl 119 0 0 w7 (some ⟨g22,0,none⟩) 1 1 [(k,(a++b,a.length))]:=B4 [(k,(a++b,a.length))] (by have h22:New _ _ g22 #[Value.string k,Value.string (toStr a),Value.string (toStr b)] 119:=hN22;simpa [encF] using h22) (Nat.zero_le _) (by simp)
  refine An hQ7 ⟨hSr3,?_⟩
  refine h1L 8 (fun Q8 hQ8=>?_)
  have hq8:=hX.size
  have hb8:=hG5.size
  rw[← hB5] at hb8
  refine Az (d:=kFl) ([(k,(a++b,a.length))]) u43 Gb rfl Cq rfl rfl hO (Ba u43 hJ.sl (by decide)) rfl (C6 _ _ _) (rfl) (by omega) (by omega) (by omega) (by omega) (by decide) ?_
  intro p23 c23 w8 hO hM8
  have hX:=hX.mod hM8 (hq5)
  have hB2:=hB2.mod hM8 (by decide)
  have hB3:=hB3.modB hM8 (by omega)
  have hB4:=hB4.mod hM8 (by decide)
  have hSr3:=hSr3.mod hM8 hs3
  have hz8:=hM8.size
  refine An hQ8 ⟨hSr3,?_⟩
  refine hT 9 rfl hSr3 (fun wS hSS=>by(exact(Ah (by conv=>lhs;whnf)))) ?_
  refine A7 (by kernel_rfl) ?_
  refine t_n (Ab (Ab (Aa ?_)))
  refine pM (Ac (t_n ?_))
  refine As rfl (fun hc24=>?_) (fun hc24=>?_)
  ·have hat:isAtA l (plcA l k) k:=hc24
   have hat1:=hat.1
   obtain⟨ys,hys⟩:∃ ys,ys=l.drop (plcA l k+1):=⟨_,rfl⟩
   have hsrc:∀ wz,Ext w wz→Sl kFl 119 0 wz (adw p c (plcA l k+1) 3) (n - (plcA l k+1)) (c - (plcA l k+1)) ys:=fun wz hz=>by rw[hys];exact(hl.ext hz).dropI _ (by omega)
   have hins:=H5 k (some (a++b,a.length)) 1 (.inl ⟨hat,rfl⟩)
   rw[← hys] at hins
   refine Aa ?_
   refine pM ?_
   refine p1 ((A0 rfl rfl (Am (by omega) (by omega))).cast (congrArg (Value.int .i64) (by omega:_=((plcA l k+1:Nat):Int)))) ?_
   refine pA (Ac (t_n (Ab (Aa ?_))))
   refine pM ?_
   refine p1 (Ad Cm sz43 rfl) ?_
   refine p1 (Ae un43 rfl (hB2.cell (rfl))) ?_
   refine pM ?_
   refine p1 (Bs u43 sz119 rfl rfl (by omega)) ?_
   have hq8:=hX.size
   refine Az (d:=kFl) (ys) u43 Gb rfl Cq rfl rfl hO (Ba u43 (hsrc _ hX) (by decide)) (hsrc _ hX).len (C6 _ _ _) (rfl) (by omega) (by omega) (by omega) (by omega) (by decide) ?_
   intro p32 c32 w9 hO hM9
   have hX:=hX.mod hM9 (hq5)
   have hB2:=hB2.mod hM9 (by decide)
   have hB3:=hB3.modB hM9 (by omega)
   have hB4:=hB4.mod hM9 (by decide)
   refine p1 (Ad Cm sz43 rfl) ?_
   refine Aw rfl (by conv=>lhs;whnf) rfl rfl sz43 hB2 (by simp) ?_
   intro w10 hP10
   have hX:=hX.put hP10 (by rw[hN2.g_eq];exact hXs2)
   have hB2:=hP10.blk
   try simp only[List.setIfInBounds_toArray,List.set_cons_zero,List.set_cons_succ] at hB2
   have hB3:=hP10.keep hB3 (by omega)
   have hB4:=hP10.keep hB4 (by omega)
   have hO:=hO.mod (hP10.mod 0 (Nat.zero_le _)) (Nat.zero_le _) (by decide)
   refine Ac (t_n (Ab (Aa ?_)))
   refine p1 (Aq ua45 rfl hB2 (by exact sz45)) ?_
   refine Al rfl (by conv=>lhs;whnf) (by simp[Value.oneCell']) (by exact sz45) hB4 (by rfl) ?_
   intro w11 hP11
   have hX:=hX.put hP11 (by rw[hN4.g_eq];exact hXs4)
   have hB2:=hP11.keep hB2 (by omega)
   have hB3:=hP11.keep hB3 (by omega)
   have hB4:=hP11.blk
   have hO:=hO.mod (hP11.mod 0 (Nat.zero_le _)) (Nat.zero_le _) (by decide)
   refine Ac (t_n (Ao ?_))
   refine end1c rfl ua45 rfl hB4 (by exact sz45) ?_
   exact⟨⟨_,_,_,rfl,by rw[← hins];exact hO.sl⟩,hX⟩
  have hna:¬ isAtA l (plcA l k) k:=hc24
  obtain⟨ys,hys⟩:∃ ys,ys=l.drop (plcA l k+0):=⟨_,rfl⟩
  have hsrc:∀ wz,Ext w wz→Sl kFl 119 0 wz (adw p c (plcA l k) 3) (n - plcA l k) (c - plcA l k) ys:=fun wz hz=>by rw[hys];exact(hl.ext hz).dropI _ (by omega)
  have hins:=H5 k (some (a++b,a.length)) 0 (.inr ⟨hna,rfl⟩)
  rw[← hys] at hins
  refine Ak (t_n (Ab (Aa ?_)))
  refine pM ?_
  refine p1 (Ad Cm sz43 rfl) ?_
  refine p1 (Ae un43 rfl (hB2.cell (rfl))) ?_
  refine pM ?_
  refine p1 (Bs u43 sz119 rfl rfl (by omega)) ?_
  have hq8:=hX.size
  refine Az (d:=kFl) (ys) u43 Gb rfl Cq rfl rfl hO (Ba u43 (hsrc _ hX) (by decide)) (hsrc _ hX).len (C6 _ _ _) (rfl) (by omega) (by omega) (by omega) (by omega) (by decide) ?_
  intro p32 c32 w12 hO hM12
  have hX:=hX.mod hM12 (hq5)
  have hB2:=hB2.mod hM12 (by decide)
  have hB3:=hB3.modB hM12 (by omega)
  have hB4:=hB4.mod hM12 (by decide)
  refine p1 (Ad Cm sz43 rfl) ?_
  refine Aw rfl (by conv=>lhs;whnf) rfl rfl sz43 hB2 (by simp) ?_
  intro w13 hP13
  have hX:=hX.put hP13 (by rw[hN2.g_eq];exact hXs2)
  have hB2:=hP13.blk
  try simp only[List.setIfInBounds_toArray,List.set_cons_zero,List.set_cons_succ] at hB2
  have hB3:=hP13.keep hB3 (by omega)
  have hB4:=hP13.keep hB4 (by omega)
  have hO:=hO.mod (hP13.mod 0 (Nat.zero_le _)) (Nat.zero_le _) (by decide)
  refine Ac (t_n (Ab (Aa ?_)))
  refine p1 (Aq ua45 rfl hB2 (by exact sz45)) ?_
  refine Al rfl (by conv=>lhs;whnf) (by simp[Value.oneCell']) (by exact sz45) hB4 (by rfl) ?_
  intro w14 hP14
  have hX:=hX.put hP14 (by rw[hN4.g_eq];exact hXs4)
  have hB2:=hP14.keep hB2 (by omega)
  have hB3:=hP14.keep hB3 (by omega)
  have hB4:=hP14.blk
  have hO:=hO.mod (hP14.mod 0 (Nat.zero_le _)) (Nat.zero_le _) (by decide)
  refine Ac (t_n (Ao ?_))
  refine end1c rfl ua45 rfl hB4 (by exact sz45) ?_
  exact⟨⟨_,_,_,rfl,by rw[← hins];exact hO.sl⟩,hX⟩
 skip
 refine Av u43 Gb rfl (by decide) (fun base hb=>Ed [.agg #[.string k,.string (toStr a),.string (toStr b)]] (by intro v hv';simp only[List.mem_singleton] at hv';subst hv';rfl) base hb) ?_
 intro w15 g22 hN22
 have hE15:=hN22.ext
 have hX:=hX.ext hE15
 have hB2:=hB2.ext hE15
 have hB3:=hB3.ext hE15
 have hB4:=hB4.ext hE15
 have hSr3:=hSr3.ext hE15
 have hJ:Own kFl 119 0 0 w15 (some ⟨g22,0,none⟩) 1 1 [(k,(a++b,a.length))]:=B4 [(k,(a++b,a.length))] (by have h22:New _ _ g22 #[Value.string k,Value.string (toStr a),Value.string (toStr b)] 119:=hN22;simpa [encF] using h22) (Nat.zero_le _) (by simp)
 refine An hQ7 ⟨hSr3,?_⟩
 refine h1L 5 (fun Q5 hQ5=>?_)
 obtain⟨B5,hB5⟩:∃ B,B=w15.heap.size:=⟨_,rfl⟩
 have hs3:=Nat.le_trans hSr3.size (Nat.le_of_eq hB5.symm)
 have hq5:=Nat.le_trans hX.size (Nat.le_of_eq hB5.symm)
 have h35:=Nat.lt_of_lt_of_le hB3.lt (Nat.le_of_eq hB5.symm)
 have hOn:Own kFl 119 0 B5 w15 none 0 0 []:=Own.nil _ _ _ _ _
 have hl5:=(hl.ext hX).take (plcA l k) (by omega)
 refine Az (d:=kFl) (l.take (plcA l k)) u43 Gb rfl Cq rfl rfl hOn (Ba u43 hl5 (by decide)) hl5.len (C6 _ _ _) rfl (by omega) (by omega) (by omega) (by omega) (by decide) ?_
 intro p20 c20 w16 hO hM16
 have hE16:Ext w15 w16:=(Ext.refl _).mod hM16 (by rw[hB5];exact Nat.le_refl _)
 rw[List.nil_append] at hO
 have hG5:=hE16
 have hX:=hX.ext hE16
 have hB2:=hB2.ext hE16
 have hB3:=hB3.ext hE16
 have hB4:=hB4.ext hE16
 have hSr3:=hSr3.ext hE16
 have hJ:=hJ.ext hE16
 refine An hQ5 ⟨hSr3,?_⟩
 refine h1L 8 (fun Q8 hQ8=>?_)
 have hq8:=hX.size
 have hb8:=hG5.size
 rw[← hB5] at hb8
 refine Az (d:=kFl) ([(k,(a++b,a.length))]) u43 Gb rfl Cq rfl rfl hO (Ba u43 hJ.sl (by decide)) rfl (C6 _ _ _) (rfl) (by omega) (by omega) (by omega) (by omega) (by decide) ?_
 intro p23 c23 w17 hO hM17
 have hX:=hX.mod hM17 (hq5)
 have hB2:=hB2.mod hM17 (by decide)
 have hB3:=hB3.modB hM17 (by omega)
 have hB4:=hB4.mod hM17 (by decide)
 have hSr3:=hSr3.mod hM17 hs3
 have hz8:=hM17.size
 refine An hQ8 ⟨hSr3,?_⟩
 refine hT 9 rfl hSr3 (fun wS hSS=>by(exact(Ah (by conv=>lhs;whnf)))) ?_
 refine A7 (by kernel_rfl) ?_
 refine t_n (Ab (Ab (Aa ?_)))
 refine pM (Ac (t_n ?_))
 refine As rfl (fun hc24=>?_) (fun hc24=>?_)
 ·have hat:isAtA l (plcA l k) k:=hc24
  have hat1:=hat.1
  obtain⟨ys,hys⟩:∃ ys,ys=l.drop (plcA l k+1):=⟨_,rfl⟩
  have hsrc:∀ wz,Ext w wz→Sl kFl 119 0 wz (adw p c (plcA l k+1) 3) (n - (plcA l k+1)) (c - (plcA l k+1)) ys:=fun wz hz=>by rw[hys];exact(hl.ext hz).dropI _ (by omega)
  have hins:=H5 k (some (a++b,a.length)) 1 (.inl ⟨hat,rfl⟩)
  rw[← hys] at hins
  refine Aa ?_
  refine pM ?_
  refine p1 ((A0 rfl rfl (Am (by omega) (by omega))).cast (congrArg (Value.int .i64) (by omega:_=((plcA l k+1:Nat):Int)))) ?_
  refine pA (Ac (t_n (Ab (Aa ?_))))
  refine pM ?_
  refine p1 (Ad Cm sz43 rfl) ?_
  refine p1 (Ae un43 rfl (hB2.cell (rfl))) ?_
  refine pM ?_
  refine p1 (Bs u43 sz119 rfl rfl (by omega)) ?_
  have hq8:=hX.size
  refine Az (d:=kFl) (ys) u43 Gb rfl Cq rfl rfl hO (Ba u43 (hsrc _ hX) (by decide)) (hsrc _ hX).len (C6 _ _ _) (rfl) (by omega) (by omega) (by omega) (by omega) (by decide) ?_
  intro p32 c32 w18 hO hM18
  have hX:=hX.mod hM18 (hq5)
  have hB2:=hB2.mod hM18 (by decide)
  have hB3:=hB3.modB hM18 (by omega)
  have hB4:=hB4.mod hM18 (by decide)
  refine p1 (Ad Cm sz43 rfl) ?_
  refine Aw rfl (by conv=>lhs;whnf) rfl rfl sz43 hB2 (by simp) ?_
  intro w19 hP19
  have hX:=hX.put hP19 (by rw[hN2.g_eq];exact hXs2)
  have hB2:=hP19.blk
  try simp only[List.setIfInBounds_toArray,List.set_cons_zero,List.set_cons_succ] at hB2
  have hB3:=hP19.keep hB3 (by omega)
  have hB4:=hP19.keep hB4 (by omega)
  have hO:=hO.mod (hP19.mod 0 (Nat.zero_le _)) (Nat.zero_le _) (by decide)
  refine Ac (t_n (Ab (Aa ?_)))
  refine p1 (Aq ua45 rfl hB2 (by exact sz45)) ?_
  refine Al rfl (by conv=>lhs;whnf) (by simp[Value.oneCell']) (by exact sz45) hB4 (by rfl) ?_
  intro w20 hP20
  have hX:=hX.put hP20 (by rw[hN4.g_eq];exact hXs4)
  have hB2:=hP20.keep hB2 (by omega)
  have hB3:=hP20.keep hB3 (by omega)
  have hB4:=hP20.blk
  have hO:=hO.mod (hP20.mod 0 (Nat.zero_le _)) (Nat.zero_le _) (by decide)
  refine Ac (t_n (Ao ?_))
  refine end1c rfl ua45 rfl hB4 (by exact sz45) ?_
  exact⟨⟨_,_,_,rfl,by rw[← hins];exact hO.sl⟩,hX⟩
 have hna:¬ isAtA l (plcA l k) k:=hc24
 obtain⟨ys,hys⟩:∃ ys,ys=l.drop (plcA l k+0):=⟨_,rfl⟩
 have hsrc:∀ wz,Ext w wz→Sl kFl 119 0 wz (adw p c (plcA l k) 3) (n - plcA l k) (c - plcA l k) ys:=fun wz hz=>by rw[hys];exact(hl.ext hz).dropI _ (by omega)
 have hins:=H5 k (some (a++b,a.length)) 0 (.inr ⟨hna,rfl⟩)
 rw[← hys] at hins
 refine Ak (t_n (Ab (Aa ?_)))
 refine pM ?_
 refine p1 (Ad Cm sz43 rfl) ?_
 refine p1 (Ae un43 rfl (hB2.cell (rfl))) ?_
 refine pM ?_
 refine p1 (Bs u43 sz119 rfl rfl (by omega)) ?_
 have hq8:=hX.size
 refine Az (d:=kFl) (ys) u43 Gb rfl Cq rfl rfl hO (Ba u43 (hsrc _ hX) (by decide)) (hsrc _ hX).len (C6 _ _ _) (rfl) (by omega) (by omega) (by omega) (by omega) (by decide) ?_
 intro p32 c32 w21 hO hM21
 have hX:=hX.mod hM21 (hq5)
 have hB2:=hB2.mod hM21 (by decide)
 have hB3:=hB3.modB hM21 (by omega)
 have hB4:=hB4.mod hM21 (by decide)
 refine p1 (Ad Cm sz43 rfl) ?_
 refine Aw rfl (by conv=>lhs;whnf) rfl rfl sz43 hB2 (by simp) ?_
 intro w22 hP22
 have hX:=hX.put hP22 (by rw[hN2.g_eq];exact hXs2)
 have hB2:=hP22.blk
 try simp only[List.setIfInBounds_toArray,List.set_cons_zero,List.set_cons_succ] at hB2
 have hB3:=hP22.keep hB3 (by omega)
 have hB4:=hP22.keep hB4 (by omega)
 have hO:=hO.mod (hP22.mod 0 (Nat.zero_le _)) (Nat.zero_le _) (by decide)
 refine Ac (t_n (Ab (Aa ?_)))
 refine p1 (Aq ua45 rfl hB2 (by exact sz45)) ?_
 refine Al rfl (by conv=>lhs;whnf) (by simp[Value.oneCell']) (by exact sz45) hB4 (by rfl) ?_
 intro w23 hP23
 have hX:=hX.put hP23 (by rw[hN4.g_eq];exact hXs4)
 have hB2:=hP23.keep hB2 (by omega)
 have hB3:=hP23.keep hB3 (by omega)
 have hB4:=hP23.blk
 have hO:=hO.mod (hP23.mod 0 (Nat.zero_le _)) (Nat.zero_le _) (by decide)
 refine Ac (t_n (Ao ?_))
 refine end1c rfl ua45 rfl hB4 (by exact sz45) ?_
 exact⟨⟨_,_,_,rfl,by rw[← hins];exact hO.sl⟩,hX⟩
theorem I4 (a0 a2 a4:Int) (b3 b5 b6:Bool) (l:List Fl) (p:Option Addr) (n c:Nat) (w:World) (hl:Sl kFl 119 0 w p n c l) (hn:n≤100000) (hr:RiseNA l) (k:ByteArray) :
    Ret Tryz.prog 196 [.agg #[.int .i64 a0,.slice p n c,.int .i64 a2,.bool b3,.int .i64 a4,.bool b5,.bool b6],.string k] w (fun v w'=>(∃ p' n' c',v = .agg #[.int .i64 a0,.slice p' n' c',.int .i64 a2,.bool b3,.int .i64 a4,.bool b5,.bool b6]∧Sl kFl 119 0 w' p' n' c' (insA l k none))∧Ext w w'):=by
 have hX:=Ext.refl w
 refine eN 30 Tryz.func196 ?_
 refine Ab (Aa ?_)
 have hXs2:=hX.size
 refine Bu (by conv=>lhs;whnf) ?_
 intro w1 g2 hN2
 have hE1:=hN2.ext
 have hX:=hX.ext hE1
 have hB2:=hN2.blk
 have hXs4:=hX.size
 have hlt2:=hB2.lt
 refine Ay zr45 ?_
 intro w2 g4 hN4
 have hE2:=hN4.ext
 have hX:=hX.ext hE2
 have hB2:=hB2.ext hE2
 have hB4:=hN4.blk
 refine Ac (t_n (Ab ?_))
 have hg4:=hN4.g_eq
 have hlen:=hl.len
 have hcap:=hl.cap
 have hple:=Gh l k
 refine Aa ?_
 refine p1 (Aq ua45 rfl hB2 (by exact sz45)) ?_
 refine pM ?_
 refine oC Tryz.func67 (Ey a0 a2 a4 b3 b5 b6 l p n c _ (hl.ext hX) k hn) ?_
 rintro v3 w3 ⟨rfl,hE3⟩
 have hX:=hX.ext hE3
 have hB2:=hB2.ext hE3
 have hB4:=hB4.ext hE3
 refine pM ?_
 refine p1 (Aj rfl rfl) ?_
 refine p1 (Aj rfl rfl) ?_
 refine pA (pA (Ac (t_n (Ab (Ab (Aa ?_))))))
 refine pM (Ac (t_n ?_))
 refine As rfl (fun hc14=>?_) (fun hc14=>?_)
 ·have hat:isAtA l (plcA l k) k:=hc14
  have hat1:=hat.1
  have hins:=H5 k (none:Option Fb) 1 (.inl ⟨hat,rfl⟩)
  refine Ab (Aa ?_)
  refine pA (Ac (t_n (Ab (Aa ?_))))
  refine pM ?_
  refine p1 (Ad Cm sz43 rfl) ?_
  refine p1 (Ae un43 rfl (hB2.cell (rfl))) ?_
  refine pM ?_
  refine p1 (Cv u43 sz119 rfl rfl (by omega)) ?_
  have hq5:=hX.size
  have hO:Own kFl 119 0 w.heap.size w3 none 0 0 []:=Own.nil _ _ _ _ _
  refine Az (d:=kFl) (l.take (plcA l k)) u43 Gb rfl Cq rfl rfl hO (Ba u43 ((hl.ext hX).take (plcA l k) (by omega)) (by decide)) ((hl.ext hX).take (plcA l k) (by omega)).len (C6 _ _ _) (rfl) (by omega) (by omega) (by omega) (by omega) (by decide) ?_
  intro p20 c20 w4 hO hM4
  have hX:=hX.mod hM4 (Nat.le_refl _)
  have hB2:=hB2.mod hM4 (by decide)
  have hB4:=hB4.mod hM4 (by decide)
  rw[List.nil_append] at hO
  refine pA (Ac (t_n (Aa ?_)))
  refine pM ?_
  refine p1 (Ad Cm sz43 rfl) ?_
  refine p1 (Ae un43 rfl (hB2.cell (rfl))) ?_
  refine pM ?_
  refine p1 ((A0 rfl rfl (Am (by omega) (by omega))).cast (congrArg (Value.int .i64) (by omega:_=((plcA l k+1:Nat):Int)))) ?_
  refine p1 (Bs u43 sz119 rfl rfl (by omega)) ?_
  have hq8:=hX.size
  refine Az (d:=kFl) (l.drop (plcA l k+1)) u43 Gb rfl Cq rfl rfl hO (Ba u43 ((hl.ext hX).dropI (plcA l k+1) (by omega)) (by decide)) ((hl.ext hX).dropI (plcA l k+1) (by omega)).len (C6 _ _ _) (rfl) (by omega) (by omega) (by omega) (by omega) (by decide) ?_
  intro p27 c27 w5 hO hM5
  have hX:=hX.mod hM5 (Nat.le_refl _)
  have hB2:=hB2.mod hM5 (by decide)
  have hB4:=hB4.mod hM5 (by decide)
  refine p1 (Ad Cm sz43 rfl) ?_
  refine Aw rfl (by conv=>lhs;whnf) rfl rfl sz43 hB2 (by simp) ?_
  intro w6 hP6
  have hX:=hX.put hP6 (by rw[hN2.g_eq];exact hXs2)
  have hB2:=hP6.blk
  try simp only[List.setIfInBounds_toArray,List.set_cons_zero,List.set_cons_succ] at hB2
  have hB4:=hP6.keep hB4 (by omega)
  have hO:=hO.mod (hP6.mod 0 (Nat.zero_le _)) (Nat.zero_le _) (by decide)
  refine Ac (t_n (Ab (Aa ?_)))
  refine p1 (Aq ua45 rfl hB2 (by exact sz45)) ?_
  refine Al rfl (by conv=>lhs;whnf) (by simp[Value.oneCell']) (by exact sz45) hB4 (by rfl) ?_
  intro w7 hP7
  have hX:=hX.put hP7 (by rw[hN4.g_eq];exact hXs4)
  have hB2:=hP7.keep hB2 (by omega)
  have hB4:=hP7.blk
  have hO:=hO.mod (hP7.mod 0 (Nat.zero_le _)) (Nat.zero_le _) (by decide)
  refine Ac (t_n (Ao ?_))
  refine end1c rfl ua45 rfl hB4 (by exact sz45) ?_
  exact⟨⟨_,_,_,rfl,by rw[← hins];simp only[put1A,List.append_nil];exact hO.sl⟩,hX⟩
 have hna:¬ isAtA l (plcA l k) k:=hc14
 have hins:=H5 k (none:Option Fb) 0 (.inr ⟨hna,rfl⟩)
 have hins2:insA l k none=l:=by rw[← hins];simp[put1A]
 refine Ak (t_n (Ab (Aa ?_)))
 refine p1 (Aq ua45 rfl hB2 (by exact sz45)) ?_
 refine Al rfl (by conv=>lhs;whnf) (by simp[Value.oneCell']) (by exact sz45) hB4 (by rfl) ?_
 intro w8 hP8
 have hX:=hX.put hP8 (by rw[hN4.g_eq];exact hXs4)
 have hB2:=hP8.keep hB2 (by omega)
 have hB4:=hP8.blk
 refine Ac (t_n (Ao ?_))
 refine end1c rfl ua45 rfl hB4 (by exact sz45) ?_
 exact⟨⟨p,n,c,rfl,by rw[hins2];exact hl.ext hX⟩,hX⟩
end Go.Proofs.Eng
end
section
set_option maxRecDepth 100000
set_option maxHeartbeats 4000000
namespace Go.Proofs.Eng
open Go.RowKit
open Extern.Stop (cell)
theorem Er (D:DS) (act:List Fl) (p px:Option Addr) (n c nx cx:Nat) (lf:Int) (w:World) (h1:Sl kFl 119 0 w p n c D.l) (h2:Sl kFl 119 0 w px nx cx act) :
    Ret Tryz.prog 70 [.agg #[.int .i64 (D.most:Int),.slice p n c,.int .i64 (D.steps:Int),.bool (decide (0≤D.left)),.int .i64 lf,.bool D.done,.bool D.down],.agg #[.int .i64 (D.most:Int),.slice px nx cx,.int .i64 (D.steps:Int),.bool (decide (0≤D.left)),.int .i64 lf,.bool D.done,.bool D.down]] w (fun v w'=>(∃ py ny cy,v = .agg #[.int .i64 (D.most:Int),.slice py ny cy,.int .i64 (D.steps:Int),.bool (decide (0≤D.left)),.int .i64 lf,.bool D.done,.bool D.down]∧Sl kFl 119 0 w' py ny cy (if (true && (false || D.done))=true then act else D.l))∧Ext w w'):=by
  refine⟨Calls.mono (V1 _ _ _ _ _ _ _ _ _ _ _ _ p px n c nx cx w).out ?_⟩
  rintro e w' ⟨v,rfl,rfl,hX⟩
  cases hd:D.done with
  | true=>exact⟨_,rfl,⟨px,nx,cx,by rw[if_pos rfl],by simpa using h2.ext hX⟩,hX⟩
  | false=>exact⟨_,rfl,⟨p,n,c,by rw[if_neg (by simp)],by simpa using h1.ext hX⟩,hX⟩
theorem Ew (D:DS) (act:List Fl) (fa al:Bool) (p px py:Option Addr) (n c nx cx ny cy:Nat) (lf:Int) (w:World) (h2:Sl kFl 119 0 w px nx cx act) (hy:Sl kFl 119 0 w py ny cy (if (fa && (al || D.done))=true then act else D.l)) (hlf:LfOk D lf) (hl:-1≤D.left) (hst:D.steps<4611686018427387904) (hlo:-9223372036854775807≤lf) :
    Ret Tryz.prog 69 [.agg #[.int .i64 (D.most:Int),.slice p n c,.int .i64 (D.steps:Int),.bool (decide (0≤D.left)),.int .i64 lf,.bool D.done,.bool D.down],.agg #[.int .i64 (D.most:Int),.slice px nx cx,.int .i64 (D.steps:Int),.bool (decide (0≤D.left)),.int .i64 lf,.bool D.done,.bool D.down],.agg #[.int .i64 (D.most:Int),.slice py ny cy,.int .i64 (D.steps:Int),.bool (decide (0≤D.left)),.int .i64 lf,.bool D.done,.bool D.down]] w (fun v w'=>(∃ cs,v = .tuple #[.agg cs,.int .i64 (stepD D act fa al).2]∧RefV w' cs (stepD D act fa al).1)∧Ext w w'):=by
  refine⟨Calls.mono (Aai (D.most:Int) (D.steps:Int) lf (D.most:Int) (D.steps:Int) lf (D.most:Int) (D.steps:Int) lf (decide (0≤D.left)) D.done D.down (decide (0≤D.left)) D.done D.down (decide (0≤D.left)) D.done D.down p px py n c nx cx ny cy w hlo hlf.hi (by omega) (by omega)).out ?_⟩
  rintro e w' ⟨v,rfl,rfl,hX⟩
  obtain⟨cs,h3,h4⟩:=Ym (h2.ext hX) (hy.ext hX) hlf hl
  exact⟨_,rfl,⟨cs,h3,h4⟩,hX⟩
theorem Ig (D:DS) (p:Option Addr) (n c:Nat) (lf:Int) (w:World) (hl:Sl kFl 119 0 w p n c D.l) (hlf:LfOk D lf) (hok:DOk D) (hst:D.steps<4611686018427387904) (k:ByteArray) (hks:k.size≤9223372036854775807) :
    Ret Tryz.prog 21 [.agg #[.int .i64 (D.most:Int),.slice p n c,.int .i64 (D.steps:Int),.bool (decide (0≤D.left)),.int .i64 lf,.bool D.done,.bool D.down],.string k] w (fun v w'=>(∃ cs,v = .tuple #[.agg cs,.int .i64 (A9 D k).2]∧RefV w' cs (A9 D k).1)∧Ext w w'):=by
 have hX:=Ext.refl w
 refine eN 46 Tryz.func21 ?_
 refine Ab (Aa ?_)
 have hXs2:=hX.size
 refine Bu (by conv=>lhs;whnf) ?_
 intro w1 g2 hN2
 have hE1:=hN2.ext
 have hX:=hX.ext hE1
 have hB2:=hN2.blk
 have hXs4:=hX.size
 have hlt2:=hB2.lt
 refine Ay zr45 ?_
 intro w2 g4 hN4
 have hE2:=hN4.ext
 have hX:=hX.ext hE2
 have hB2:=hB2.ext hE2
 have hB4:=hN4.blk
 refine pA (Ac (t_n (Ab ?_)))
 have hg4:=hN4.g_eq
 have hlen:=hl.len
 have hcap:=hl.cap
 have hple:=Gh D.l k
 have hfew:=hok.few
 have hroom:=hok.room
 have hmost:=hok.most
 refine Aa ?_
 refine p1 (Aq ua45 rfl hB2 (by exact sz45)) ?_
 refine pM ?_
 refine Av u74 inf9 rfl (by decide) (fun base hb=>Br (by rfl) base hb) ?_
 intro w3 g12 hN12
 have hE3:=hN12.ext
 have hX:=hX.ext hE3
 have hB2:=hB2.ext hE3
 have hB4:=hB4.ext hE3
 have hS12:Sl kStr 9 0 w3 (some ⟨g12,0,none⟩) 1 1 [k]:=(B4 (B0:=0) [k] hN12 (Nat.zero_le _) (by simp)).sl
 refine oC Tryz.func66 (Fq (D.most:Int) (D.steps:Int) lf (decide (0≤D.left)) D.done D.down p n c D rfl [k] 0 _ _ _ _ hS12 (by intro s hs';simp only[List.mem_singleton] at hs';subst hs';exact hks)) ?_
 rintro v4 w4 ⟨rfl,hE4⟩
 have hX:=hX.ext hE4
 have hB2:=hB2.ext hE4
 have hB4:=hB4.ext hE4
 refine pA (Ac (t_n (Ab (Aa ?_))))
 refine p1 (Aq ua45 rfl hB2 (by exact sz45)) ?_
 refine pM ?_
 refine oC Tryz.func67 (Ey (D.most:Int) (D.steps:Int) lf (decide (0≤D.left)) D.done D.down D.l p n c _ (hl.ext hX) k (by omega)) ?_
 rintro v5 w5 ⟨rfl,hE5⟩
 have hX:=hX.ext hE5
 have hB2:=hB2.ext hE5
 have hB4:=hB4.ext hE5
 refine pM ?_
 refine p1 (Aj rfl rfl) ?_
 refine p1 (Aj rfl rfl) ?_
 refine pA (pA (Ac (t_n (Ab (Ap (Ab (Aa ?_)))))))
 refine pM ?_
 refine p1 (A2 rfl rfl) ?_
 refine pA (Ac (t_n ?_))
 refine As rfl (fun hc20=>?_) (fun hc20=>?_)
 ·have hp:A9 D k=(D,lookD D [k]):=if_pos hc20
  refine Ab (Aa ?_)
  refine p1 (Aq ua45 rfl hB2 (by exact sz45)) ?_
  refine pM ?_
  refine Al rfl (by conv=>lhs;whnf) (by simp[Value.oneCell']) (by exact sz45) hB4 (by rfl) ?_
  intro w6 hP6
  have hX:=hX.put hP6 (by rw[hN4.g_eq];exact hXs4)
  have hB2:=hP6.keep hB2 (by omega)
  have hB4:=hP6.blk
  refine pA (Ac (t_n (Ao (b_r (t_r ?_)))))
  refine end2c rfl ua45 rfl (by conv=>lhs;whnf) hB4 (by exact sz45) ?_
  exact⟨⟨_,by rw[hp],by rw[hp];exact⟨p,n,c,lf,rfl,hl.ext hX,hlf⟩⟩,hX⟩
 refine Ab (Aa ?_)
 refine pM (pA (Ac (t_n ?_)))
 refine As rfl (fun hc25=>?_) (fun hc25=>?_)
 ·have hp:A9 D k=(D,23):=by unfold A9;rw[if_neg hc20,if_pos (show ascF D.l k≠none from (Rs hok.rise k).1 hc25)]
  refine Ab (Aa ?_)
  refine p1 (Aq ua45 rfl hB2 (by exact sz45)) ?_
  refine Al rfl (by conv=>lhs;whnf) (by simp[Value.oneCell']) (by exact sz45) hB4 (by rfl) ?_
  intro w7 hP7
  have hX:=hX.put hP7 (by rw[hN4.g_eq];exact hXs4)
  have hB2:=hP7.keep hB2 (by omega)
  have hB4:=hP7.blk
  refine pA (Ac (t_n (Ao (b_r (t_r ?_)))))
  refine end2c rfl ua45 rfl (by conv=>lhs;whnf) hB4 (by exact sz45) ?_
  exact⟨⟨_,by rw[hp],by rw[hp];exact⟨p,n,c,lf,rfl,hl.ext hX,hlf⟩⟩,hX⟩
 have hnf:=G9 hok hc25
 refine Ab (Aa ?_)
 refine p1 (Ad Cm sz43 rfl) ?_
 refine p1 (Ae un43 rfl (hB2.cell (rfl))) ?_
 refine p1 (Ar u43 rfl) ?_
 refine p1 (M4 rfl rfl) ?_
 refine pA (Ac (t_n ?_))
 refine As rfl (fun hc28=>?_) (fun hc28=>?_)
 ·have hp:A9 D k=(D,21):=by unfold A9;rw[if_neg hc20,if_neg (by rw[hnf];simp),if_pos (by omega)]
  refine Ab (Aa ?_)
  refine p1 (Aq ua45 rfl hB2 (by exact sz45)) ?_
  refine Al rfl (by conv=>lhs;whnf) (by simp[Value.oneCell']) (by exact sz45) hB4 (by rfl) ?_
  intro w8 hP8
  have hX:=hX.put hP8 (by rw[hN4.g_eq];exact hXs4)
  have hB2:=hP8.keep hB2 (by omega)
  have hB4:=hP8.blk
  refine pA (Ac (t_n (Ao (b_r (t_r ?_)))))
  refine end2c rfl ua45 rfl (by conv=>lhs;whnf) hB4 (by exact sz45) ?_
  exact⟨⟨_,by rw[hp],by rw[hp];exact⟨p,n,c,lf,rfl,hl.ext hX,hlf⟩⟩,hX⟩
 have hp:A9 D k=stepD D (insA D.l k (some ([],0))) true false:=by unfold A9;rw[if_neg hc20,if_neg (by rw[hnf];simp),if_neg (by omega)]
 refine Ak (b_n (t_n (Ab (Aa ?_))))
 refine p1 (Aq ua45 rfl hB2 (by exact sz45)) ?_
 refine pM ?_
 refine p1 (Yg pl119 rfl) ?_
 refine oC Tryz.func68 (F4 (D.most:Int) (D.steps:Int) lf (decide (0≤D.left)) D.done D.down D.l p n c _ (hl.ext hX) (by omega) k [] []) ?_
 rintro v9 w9 ⟨⟨px,nx,cx,rfl,hlx⟩,hE9⟩
 have hX:=hX.ext hE9
 have hB2:=hB2.ext hE9
 have hB4:=hB4.ext hE9
 have hXs9:=hX.size
 have hltc9:=hB4.lt
 have hltb9:=hB2.lt
 refine Ay zr45 ?_
 intro w10 g9 hN9
 have hE10:=hN9.ext
 have hX:=hX.ext hE10
 have hB2:=hB2.ext hE10
 have hB4:=hB4.ext hE10
 have hlx:=hlx.ext hE10
 have hB9:=hN9.blk
 have hg9:=hN9.g_eq
 refine Al rfl (by conv=>lhs;whnf) (by simp[Value.oneCell']) (by exact sz45) hB9 (by rfl) ?_
 intro w11 hP11
 have hX:=hX.put hP11 (by rw[hN9.g_eq];exact hXs9)
 have hB2:=hP11.keep hB2 (by omega)
 have hB4:=hP11.keep hB4 (by omega)
 have hlx:=hlx.mod (hP11.mod 0 (Nat.zero_le _)) (Nat.zero_le _) (by decide)
 have hB9:=hP11.blk
 refine Ac (t_n (Ab ?_))
 refine Bj (fun w1 w2=>ModS (fun j=>j=g4) [45] w1 w2) mixed ?_
 intro w12 hE12
 have hX:=hX.ext hE12
 have hB2:=hB2.ext hE12
 have hB4:=hB4.ext hE12
 have hlx:=hlx.ext hE12
 have hB9:=hB9.ext hE12
 have hSr10:(fun w1 w2=>ModS (fun j=>j=g4) [45] w1 w2) w12 w12:=ModS.refl _ _ _
 refine hT 0 rfl hSr10 (fun wS hSS=>by(have hB2:=hB2.modS hSS (.inl (by omega));have hB9:=hB9.modS hSS (.inl (by omega));exact(Aq ua45 rfl hB2 (by exact sz45)))) ?_
 refine hT 1 rfl hSr10 (fun wS hSS=>by(have hB2:=hB2.modS hSS (.inl (by omega));have hB9:=hB9.modS hSS (.inl (by omega));exact(Aq ua45 rfl hB9 (by exact sz45)))) ?_
 refine hT 2 rfl hSr10 (fun wS hSS=>by(have hB2:=hB2.modS hSS (.inl (by omega));have hB9:=hB9.modS hSS (.inl (by omega));exact(Aq ua45 rfl hB2 (by exact sz45)))) ?_
 refine hT 3 rfl hSr10 (fun wS hSS=>by(have hB2:=hB2.modS hSS (.inl (by omega));have hB9:=hB9.modS hSS (.inl (by omega));exact(Aq ua45 rfl hB9 (by exact sz45)))) ?_
 refine h1L 4 (fun Q4 hQ4=>?_)
 refine oC Tryz.func70 (Er D (insA D.l k (some ([],0))) p px n c nx cx lf _ (hl.ext hX) hlx) ?_
 rintro v13 w13 ⟨⟨py,ny,cy,rfl,hly⟩,hE13⟩
 have hX:=hX.ext hE13
 have hB2:=hB2.ext hE13
 have hB4:=hB4.ext hE13
 have hlx:=hlx.ext hE13
 have hB9:=hB9.ext hE13
 have hSr10:=hSr10.ext hE13
 refine An hQ4 ⟨hSr10,?_⟩
 refine h1L 5 (fun Q5 hQ5=>?_)
 refine oC Tryz.func69 (Ew D (insA D.l k (some ([],0))) true false p px py n c nx cx ny cy lf _ hlx (hly) hlf hok.left hst (by have:=hlf.lo;omega)) ?_
 rintro v14 w14 ⟨⟨cs,rfl,p9,n9,c9,lf9,rfl,hl9,hlf9⟩,hE14⟩
 have hX:=hX.ext hE14
 have hB2:=hB2.ext hE14
 have hB4:=hB4.ext hE14
 have hB9:=hB9.ext hE14
 have hSr10:=hSr10.ext hE14
 refine An hQ5 ⟨hSr10,?_⟩
 refine hT 6 rfl hSr10 (fun wS hSS=>by(exact(Aj rfl rfl))) ?_
 refine hT 7 rfl hSr10 (fun wS hSS=>by(exact(Aj rfl rfl))) ?_
 refine h1L 8 (fun Q8 hQ8=>?_)
 refine Al rfl (by conv=>lhs;whnf) (by simp[Value.oneCell']) (by exact sz45) hB4 (by rfl) ?_
 intro w15 hP15
 have hX:=hX.put hP15 (by rw[hN4.g_eq];exact hXs4)
 have hB2:=hP15.keep hB2 (by omega)
 have hB4:=hP15.blk
 have hB9:=hP15.keep hB9 (by omega)
 have hSr10:=hSr10.put hP15 ⟨.inl rfl,by decide⟩
 have hl9:=hl9.mod (hP15.mod 0 (Nat.zero_le _)) (Nat.zero_le _) (by decide)
 refine An hQ8 ⟨hSr10,?_⟩
 refine hT 9 rfl hSr10 (fun wS hSS=>by(exact(Ah (by conv=>lhs;whnf)))) ?_
 refine A7 (by kernel_rfl) ?_
 refine t_n (Ao ?_)
 refine end2c rfl ua45 rfl (by conv=>lhs;whnf) hB4 (by exact sz45) ?_
 exact⟨⟨_,by rw[hp],by rw[hp];exact⟨p9,n9,c9,lf9,rfl,hl9,hlf9⟩⟩,hX⟩
theorem V3 (D:DS) (p:Option Addr) (n c:Nat) (lf:Int) (w:World) (hl:Sl kFl 119 0 w p n c D.l) (hlf:LfOk D lf) (hok:DOk D) (hst:D.steps<4611686018427387904) (k:ByteArray) (hks:k.size≤9223372036854775807) :
    Ret Tryz.prog 151 [.agg #[.int .i64 (D.most:Int),.slice p n c,.int .i64 (D.steps:Int),.bool (decide (0≤D.left)),.int .i64 lf,.bool D.done,.bool D.down],.string k] w (fun v w'=>(∃ cs,v = .tuple #[.agg cs,.int .i64 (B3 D k).2]∧RefV w' cs (B3 D k).1)∧Ext w w'):=by
 have hX:=Ext.refl w
 refine eN 40 Tryz.func151 ?_
 refine Ab (Aa ?_)
 have hXs2:=hX.size
 refine Bu (by conv=>lhs;whnf) ?_
 intro w1 g2 hN2
 have hE1:=hN2.ext
 have hX:=hX.ext hE1
 have hB2:=hN2.blk
 have hXs4:=hX.size
 have hlt2:=hB2.lt
 refine Ay zr45 ?_
 intro w2 g4 hN4
 have hE2:=hN4.ext
 have hX:=hX.ext hE2
 have hB2:=hB2.ext hE2
 have hB4:=hN4.blk
 refine pA (Ac (t_n (Ab ?_)))
 have hg4:=hN4.g_eq
 have hlen:=hl.len
 have hcap:=hl.cap
 have hple:=Gh D.l k
 have hfew:=hok.few
 have hroom:=hok.room
 have hmost:=hok.most
 refine Aa ?_
 refine p1 (Aq ua45 rfl hB2 (by exact sz45)) ?_
 refine pM ?_
 refine Av u74 inf9 rfl (by decide) (fun base hb=>Br (by rfl) base hb) ?_
 intro w3 g12 hN12
 have hE3:=hN12.ext
 have hX:=hX.ext hE3
 have hB2:=hB2.ext hE3
 have hB4:=hB4.ext hE3
 have hS12:Sl kStr 9 0 w3 (some ⟨g12,0,none⟩) 1 1 [k]:=(B4 (B0:=0) [k] hN12 (Nat.zero_le _) (by simp)).sl
 refine oC Tryz.func66 (Fq (D.most:Int) (D.steps:Int) lf (decide (0≤D.left)) D.done D.down p n c D rfl [k] 0 _ _ _ _ hS12 (by intro s hs';simp only[List.mem_singleton] at hs';subst hs';exact hks)) ?_
 rintro v4 w4 ⟨rfl,hE4⟩
 have hX:=hX.ext hE4
 have hB2:=hB2.ext hE4
 have hB4:=hB4.ext hE4
 refine pA (Ac (t_n (Ab (Aa ?_))))
 refine p1 (Aq ua45 rfl hB2 (by exact sz45)) ?_
 refine pM ?_
 refine oC Tryz.func67 (Ey (D.most:Int) (D.steps:Int) lf (decide (0≤D.left)) D.done D.down D.l p n c _ (hl.ext hX) k (by omega)) ?_
 rintro v5 w5 ⟨rfl,hE5⟩
 have hX:=hX.ext hE5
 have hB2:=hB2.ext hE5
 have hB4:=hB4.ext hE5
 refine pM ?_
 refine p1 (Aj rfl rfl) ?_
 refine p1 (Aj rfl rfl) ?_
 refine pA (pA (Ac (t_n (Ab (Ap (Ab (Aa ?_)))))))
 refine pM ?_
 refine p1 (A2 rfl rfl) ?_
 refine pA (Ac (t_n ?_))
 refine As rfl (fun hc20=>?_) (fun hc20=>?_)
 ·have hp:B3 D k=(D,lookD D [k]):=if_pos hc20
  refine Ab (Aa ?_)
  refine p1 (Aq ua45 rfl hB2 (by exact sz45)) ?_
  refine pM ?_
  refine Al rfl (by conv=>lhs;whnf) (by simp[Value.oneCell']) (by exact sz45) hB4 (by rfl) ?_
  intro w6 hP6
  have hX:=hX.put hP6 (by rw[hN4.g_eq];exact hXs4)
  have hB2:=hP6.keep hB2 (by omega)
  have hB4:=hP6.blk
  refine pA (Ac (t_n (Ao (b_r (t_r ?_)))))
  refine end2c rfl ua45 rfl (by conv=>lhs;whnf) hB4 (by exact sz45) ?_
  exact⟨⟨_,by rw[hp],by rw[hp];exact⟨p,n,c,lf,rfl,hl.ext hX,hlf⟩⟩,hX⟩
 refine Ab (Aa ?_)
 refine pM ?_
 refine p1 (Ez rfl) ?_
 refine pA (Ac (t_n ?_))
 refine As rfl (fun hc25=>?_) (fun hc25=>?_)
 ·have hnat:¬ isAtA D.l (plcA D.l k) k:=by simpa using hc25
  have hnf:=G9 hok hnat
  have hp:B3 D k=(D,22):=by unfold B3;rw[if_neg hc20,if_pos hnf]
  refine Ab (Aa ?_)
  refine p1 (Aq ua45 rfl hB2 (by exact sz45)) ?_
  refine Al rfl (by conv=>lhs;whnf) (by simp[Value.oneCell']) (by exact sz45) hB4 (by rfl) ?_
  intro w7 hP7
  have hX:=hX.put hP7 (by rw[hN4.g_eq];exact hXs4)
  have hB2:=hP7.keep hB2 (by omega)
  have hB4:=hP7.blk
  refine pA (Ac (t_n (Ao (b_r (t_r ?_)))))
  refine end2c rfl ua45 rfl (by conv=>lhs;whnf) hB4 (by exact sz45) ?_
  exact⟨⟨_,by rw[hp],by rw[hp];exact⟨p,n,c,lf,rfl,hl.ext hX,hlf⟩⟩,hX⟩
 have hat:isAtA D.l (plcA D.l k) k:=by simpa using hc25
 obtain⟨f,hf,hfa,hfu,hfs,hgf⟩:=Kh hok hat
 have hfr:∀ wz,Ext w wz→wz.rangeAt (ab p) (ao p+plcA D.l k * 3) [.string k,.string (toStr (f.1.take f.2)),.string (toStr (f.1.drop f.2))]:=fun wz hz=>by have:=(hl.ext hz).flRange (plcA D.l k) (by have:=(hat).1;omega);rw[hfa] at this;exact this
 have hplt:plcA D.l k<n:=by have:=(hat).1;omega
 have hne:¬ ascF D.l k=none:=by rw[hf];simp
 have hp:B3 D k=stepD D (insA D.l k none) true false:=by unfold B3;rw[if_neg hc20,if_neg hne]
 refine Ak (b_n (t_n (Ab (Aa ?_))))
 refine p1 (Aq ua45 rfl hB2 (by exact sz45)) ?_
 refine pM ?_
 refine oC Tryz.func196 (I4 (D.most:Int) (D.steps:Int) lf (decide (0≤D.left)) D.done D.down D.l p n c _ (hl.ext hX) (by omega) hok.rise k) ?_
 rintro v8 w8 ⟨⟨px,nx,cx,rfl,hlx⟩,hE8⟩
 have hX:=hX.ext hE8
 have hB2:=hB2.ext hE8
 have hB4:=hB4.ext hE8
 have hXs9:=hX.size
 have hltc9:=hB4.lt
 have hltb9:=hB2.lt
 refine Ay zr45 ?_
 intro w9 g9 hN9
 have hE9:=hN9.ext
 have hX:=hX.ext hE9
 have hB2:=hB2.ext hE9
 have hB4:=hB4.ext hE9
 have hlx:=hlx.ext hE9
 have hB9:=hN9.blk
 have hg9:=hN9.g_eq
 refine Al rfl (by conv=>lhs;whnf) (by simp[Value.oneCell']) (by exact sz45) hB9 (by rfl) ?_
 intro w10 hP10
 have hX:=hX.put hP10 (by rw[hN9.g_eq];exact hXs9)
 have hB2:=hP10.keep hB2 (by omega)
 have hB4:=hP10.keep hB4 (by omega)
 have hlx:=hlx.mod (hP10.mod 0 (Nat.zero_le _)) (Nat.zero_le _) (by decide)
 have hB9:=hP10.blk
 refine Ac (t_n (Ab ?_))
 refine Bj (fun w1 w2=>ModS (fun j=>j=g4) [45] w1 w2) mixed ?_
 intro w11 hE11
 have hX:=hX.ext hE11
 have hB2:=hB2.ext hE11
 have hB4:=hB4.ext hE11
 have hlx:=hlx.ext hE11
 have hB9:=hB9.ext hE11
 have hSr8:(fun w1 w2=>ModS (fun j=>j=g4) [45] w1 w2) w11 w11:=ModS.refl _ _ _
 refine hT 0 rfl hSr8 (fun wS hSS=>by(have hB2:=hB2.modS hSS (.inl (by omega));have hB9:=hB9.modS hSS (.inl (by omega));exact(Aq ua45 rfl hB2 (by exact sz45)))) ?_
 refine hT 1 rfl hSr8 (fun wS hSS=>by(have hB2:=hB2.modS hSS (.inl (by omega));have hB9:=hB9.modS hSS (.inl (by omega));exact(Aq ua45 rfl hB9 (by exact sz45)))) ?_
 refine hT 2 rfl hSr8 (fun wS hSS=>by(have hB2:=hB2.modS hSS (.inl (by omega));have hB9:=hB9.modS hSS (.inl (by omega));exact(Aq ua45 rfl hB2 (by exact sz45)))) ?_
 refine hT 3 rfl hSr8 (fun wS hSS=>by(have hB2:=hB2.modS hSS (.inl (by omega));have hB9:=hB9.modS hSS (.inl (by omega));exact(Aq ua45 rfl hB9 (by exact sz45)))) ?_
 refine h1L 4 (fun Q4 hQ4=>?_)
 refine oC Tryz.func70 (Er D (insA D.l k none) p px n c nx cx lf _ (hl.ext hX) hlx) ?_
 rintro v12 w12 ⟨⟨py,ny,cy,rfl,hly⟩,hE12⟩
 have hX:=hX.ext hE12
 have hB2:=hB2.ext hE12
 have hB4:=hB4.ext hE12
 have hlx:=hlx.ext hE12
 have hB9:=hB9.ext hE12
 have hSr8:=hSr8.ext hE12
 refine An hQ4 ⟨hSr8,?_⟩
 refine h1L 5 (fun Q5 hQ5=>?_)
 refine oC Tryz.func69 (Ew D (insA D.l k none) true false p px py n c nx cx ny cy lf _ hlx (hly) hlf hok.left hst (by have:=hlf.lo;omega)) ?_
 rintro v13 w13 ⟨⟨cs,rfl,p9,n9,c9,lf9,rfl,hl9,hlf9⟩,hE13⟩
 have hX:=hX.ext hE13
 have hB2:=hB2.ext hE13
 have hB4:=hB4.ext hE13
 have hB9:=hB9.ext hE13
 have hSr8:=hSr8.ext hE13
 refine An hQ5 ⟨hSr8,?_⟩
 refine hT 6 rfl hSr8 (fun wS hSS=>by(exact(Aj rfl rfl))) ?_
 refine hT 7 rfl hSr8 (fun wS hSS=>by(exact(Aj rfl rfl))) ?_
 refine h1L 8 (fun Q8 hQ8=>?_)
 refine Al rfl (by conv=>lhs;whnf) (by simp[Value.oneCell']) (by exact sz45) hB4 (by rfl) ?_
 intro w14 hP14
 have hX:=hX.put hP14 (by rw[hN4.g_eq];exact hXs4)
 have hB2:=hP14.keep hB2 (by omega)
 have hB4:=hP14.blk
 have hB9:=hP14.keep hB9 (by omega)
 have hSr8:=hSr8.put hP14 ⟨.inl rfl,by decide⟩
 have hl9:=hl9.mod (hP14.mod 0 (Nat.zero_le _)) (Nat.zero_le _) (by decide)
 refine An hQ8 ⟨hSr8,?_⟩
 refine hT 9 rfl hSr8 (fun wS hSS=>by(exact(Ah (by conv=>lhs;whnf)))) ?_
 refine A7 (by kernel_rfl) ?_
 refine t_n (Ao ?_)
 refine end2c rfl ua45 rfl (by conv=>lhs;whnf) hB4 (by exact sz45) ?_
 exact⟨⟨_,by rw[hp],by rw[hp];exact⟨p9,n9,c9,lf9,rfl,hl9,hlf9⟩⟩,hX⟩
theorem T4 (D:DS) (p:Option Addr) (n c:Nat) (lf:Int) (w:World) (hl:Sl kFl 119 0 w p n c D.l) (hlf:LfOk D lf) (hok:DOk D) (hst:D.steps<4611686018427387904) (k:ByteArray) (hks:k.size≤9223372036854775807) :
    Ret Tryz.prog 23 [.agg #[.int .i64 (D.most:Int),.slice p n c,.int .i64 (D.steps:Int),.bool (decide (0≤D.left)),.int .i64 lf,.bool D.done,.bool D.down],.string k] w (fun v w'=>(∃ cs,v = .tuple #[.agg cs,.int .i64 (syncD D k).2]∧RefV w' cs (syncD D k).1)∧Ext w w'):=by
 have hX:=Ext.refl w
 refine eN 49 Tryz.func23 ?_
 refine Ab (Aa ?_)
 have hXs2:=hX.size
 refine Bu (by conv=>lhs;whnf) ?_
 intro w1 g2 hN2
 have hE1:=hN2.ext
 have hX:=hX.ext hE1
 have hB2:=hN2.blk
 have hXs4:=hX.size
 have hlt2:=hB2.lt
 refine Ay zr45 ?_
 intro w2 g4 hN4
 have hE2:=hN4.ext
 have hX:=hX.ext hE2
 have hB2:=hB2.ext hE2
 have hB4:=hN4.blk
 refine pA (Ac (t_n (Ab ?_)))
 have hg4:=hN4.g_eq
 have hlen:=hl.len
 have hcap:=hl.cap
 have hple:=Gh D.l k
 have hfew:=hok.few
 have hroom:=hok.room
 have hmost:=hok.most
 refine Aa ?_
 refine p1 (Aq ua45 rfl hB2 (by exact sz45)) ?_
 refine pM ?_
 refine Av u74 inf9 rfl (by decide) (fun base hb=>Br (by rfl) base hb) ?_
 intro w3 g12 hN12
 have hE3:=hN12.ext
 have hX:=hX.ext hE3
 have hB2:=hB2.ext hE3
 have hB4:=hB4.ext hE3
 have hS12:Sl kStr 9 0 w3 (some ⟨g12,0,none⟩) 1 1 [k]:=(B4 (B0:=0) [k] hN12 (Nat.zero_le _) (by simp)).sl
 refine oC Tryz.func66 (Fq (D.most:Int) (D.steps:Int) lf (decide (0≤D.left)) D.done D.down p n c D rfl [k] 0 _ _ _ _ hS12 (by intro s hs';simp only[List.mem_singleton] at hs';subst hs';exact hks)) ?_
 rintro v4 w4 ⟨rfl,hE4⟩
 have hX:=hX.ext hE4
 have hB2:=hB2.ext hE4
 have hB4:=hB4.ext hE4
 refine pA (Ac (t_n (Ab (Aa ?_))))
 refine p1 (Aq ua45 rfl hB2 (by exact sz45)) ?_
 refine pM ?_
 refine oC Tryz.func67 (Ey (D.most:Int) (D.steps:Int) lf (decide (0≤D.left)) D.done D.down D.l p n c _ (hl.ext hX) k (by omega)) ?_
 rintro v5 w5 ⟨rfl,hE5⟩
 have hX:=hX.ext hE5
 have hB2:=hB2.ext hE5
 have hB4:=hB4.ext hE5
 refine pM ?_
 refine p1 (Aj rfl rfl) ?_
 refine p1 (Aj rfl rfl) ?_
 refine pA (pA (Ac (t_n (Ab (Ap (Ab (Aa ?_)))))))
 refine pM ?_
 refine p1 (A2 rfl rfl) ?_
 refine pA (Ac (t_n ?_))
 refine As rfl (fun hc20=>?_) (fun hc20=>?_)
 ·have hp:syncD D k=(D,lookD D [k]):=if_pos hc20
  refine Ab (Aa ?_)
  refine p1 (Aq ua45 rfl hB2 (by exact sz45)) ?_
  refine pM ?_
  refine Al rfl (by conv=>lhs;whnf) (by simp[Value.oneCell']) (by exact sz45) hB4 (by rfl) ?_
  intro w6 hP6
  have hX:=hX.put hP6 (by rw[hN4.g_eq];exact hXs4)
  have hB2:=hP6.keep hB2 (by omega)
  have hB4:=hP6.blk
  refine pA (Ac (t_n (Ao (b_r (t_r ?_)))))
  refine end2c rfl ua45 rfl (by conv=>lhs;whnf) hB4 (by exact sz45) ?_
  exact⟨⟨_,by rw[hp],by rw[hp];exact⟨p,n,c,lf,rfl,hl.ext hX,hlf⟩⟩,hX⟩
 refine Ab (Aa ?_)
 refine pM ?_
 refine p1 (Ez rfl) ?_
 refine pA (Ac (t_n ?_))
 refine As rfl (fun hc25=>?_) (fun hc25=>?_)
 ·have hnat:¬ isAtA D.l (plcA D.l k) k:=by simpa using hc25
  have hnf:=G9 hok hnat
  have hp:syncD D k=(D,22):=by unfold syncD;rw[if_neg hc20,if_pos hnf]
  refine Ab (Aa ?_)
  refine p1 (Aq ua45 rfl hB2 (by exact sz45)) ?_
  refine Al rfl (by conv=>lhs;whnf) (by simp[Value.oneCell']) (by exact sz45) hB4 (by rfl) ?_
  intro w7 hP7
  have hX:=hX.put hP7 (by rw[hN4.g_eq];exact hXs4)
  have hB2:=hP7.keep hB2 (by omega)
  have hB4:=hP7.blk
  refine pA (Ac (t_n (Ao (b_r (t_r ?_)))))
  refine end2c rfl ua45 rfl (by conv=>lhs;whnf) hB4 (by exact sz45) ?_
  exact⟨⟨_,by rw[hp],by rw[hp];exact⟨p,n,c,lf,rfl,hl.ext hX,hlf⟩⟩,hX⟩
 have hat:isAtA D.l (plcA D.l k) k:=by simpa using hc25
 obtain⟨f,hf,hfa,hfu,hfs,hgf⟩:=Kh hok hat
 have hfr:∀ wz,Ext w wz→wz.rangeAt (ab p) (ao p+plcA D.l k * 3) [.string k,.string (toStr (f.1.take f.2)),.string (toStr (f.1.drop f.2))]:=fun wz hz=>by have:=(hl.ext hz).flRange (plcA D.l k) (by have:=(hat).1;omega);rw[hfa] at this;exact this
 have hplt:plcA D.l k<n:=by have:=(hat).1;omega
 have hne:¬ ascF D.l k=none:=by rw[hf];simp
 have hp:syncD D k=stepD D (insA D.l k (some (f.1++[],f.1.length))) false false:=by unfold syncD;rw[if_neg hc20,if_neg hne,hgf,List.append_nil]
 refine Ak (b_n (t_n (Ab (Aa ?_))))
 refine p1 (Ad Cm sz43 rfl) ?_
 refine p1 (Ae un43 rfl (hB2.cell (rfl))) ?_
 refine pM ?_
 refine p1 (Cs u43 sz119 rfl rfl ((hl.ext hX).adr Cq (by omega)) (by omega) (by omega)) ?_
 refine p1 (Cb ua119 rfl (by exact sz119) (hfr _ hX)) ?_
 have hXs9:=hX.size
 have hltc9:=hB4.lt
 have hltb9:=hB2.lt
 refine Ay zr119 ?_
 intro w8 g9 hN9
 have hE8:=hN9.ext
 have hX:=hX.ext hE8
 have hB2:=hB2.ext hE8
 have hB4:=hB4.ext hE8
 have hB9:=hN9.blk
 have hg9:=hN9.g_eq
 refine Al rfl (by conv=>lhs;whnf) (by simp[Value.oneCell']) (by exact sz119) hB9 (by rfl) ?_
 intro w9 hP9
 have hX:=hX.put hP9 (by rw[hN9.g_eq];exact hXs9)
 have hB2:=hP9.keep hB2 (by omega)
 have hB4:=hP9.keep hB4 (by omega)
 have hB9:=hP9.blk
 refine Ac (t_n (Ab ?_))
 refine Bj (fun w1 w2=>ModS (fun j=>j=g4) [45] w1 w2) mixed ?_
 intro w10 hE10
 have hX:=hX.ext hE10
 have hB2:=hB2.ext hE10
 have hB4:=hB4.ext hE10
 have hB9:=hB9.ext hE10
 have hSr8:(fun w1 w2=>ModS (fun j=>j=g4) [45] w1 w2) w10 w10:=ModS.refl _ _ _
 refine hT 0 rfl hSr8 (fun wS hSS=>by(have hB2:=hB2.modS hSS (.inl (by omega));have hB9:=hB9.modS hSS (.inl (by omega));exact(Aq ua45 rfl hB2 (by exact sz45)))) ?_
 refine hT 1 rfl hSr8 (fun wS hSS=>by(have hB2:=hB2.modS hSS (.inl (by omega));have hB9:=hB9.modS hSS (.inl (by omega));exact(Aq ua45 rfl hB2 (by exact sz45)))) ?_
 refine hT 2 rfl hSr8 (fun wS hSS=>by(exact(Ad Gj sz9 rfl))) ?_
 refine hT 3 rfl hSr8 (fun wS hSS=>by(have hB2:=hB2.modS hSS (.inl (by omega));have hB9:=hB9.modS hSS (.inl (by omega));exact(Ae un9 rfl (hB9.cell (rfl))))) ?_
 refine hT 4 rfl hSr8 (fun wS hSS=>by(exact(Ad Ke sz9 rfl))) ?_
 refine hT 5 rfl hSr8 (fun wS hSS=>by(have hB2:=hB2.modS hSS (.inl (by omega));have hB9:=hB9.modS hSS (.inl (by omega));exact(Ae un9 rfl (hB9.cell (rfl))))) ?_
 refine hT 6 rfl hSr8 (fun wS hSS=>by(exact(Ad Kd sz9 rfl))) ?_
 refine hT 7 rfl hSr8 (fun wS hSS=>by(have hB2:=hB2.modS hSS (.inl (by omega));have hB9:=hB9.modS hSS (.inl (by omega));exact(Ae un9 rfl (hB9.cell (rfl))))) ?_
 refine hT 8 rfl hSr8 (fun wS hSS=>by(exact((Js rfl rfl (by rw[Bo,Bo,List.length_take,List.length_drop];omega)).cast (by rw[Fe,List.take_append_drop])))) ?_
 refine hT 9 rfl hSr8 (fun wS hSS=>by(exact(Jr pl119 rfl rfl rfl))) ?_
 refine hT 11 rfl hSr8 (fun wS hSS=>by(have hB2:=hB2.modS hSS (.inl (by omega));have hB9:=hB9.modS hSS (.inl (by omega));exact(Aq ua45 rfl hB2 (by exact sz45)))) ?_
 refine h1L 10 (fun Q10 hQ10=>?_)
 refine oC Tryz.func68 (F4 (D.most:Int) (D.steps:Int) lf (decide (0≤D.left)) D.done D.down D.l p n c _ (hl.ext hX) (by omega) k f.1 []) ?_
 rintro v11 w11 ⟨⟨px,nx,cx,rfl,hlx⟩,hE11⟩
 have hX:=hX.ext hE11
 have hB2:=hB2.ext hE11
 have hB4:=hB4.ext hE11
 have hB9:=hB9.ext hE11
 have hSr8:=hSr8.ext hE11
 refine An hQ10 ⟨hSr8,?_⟩
 refine h1L 12 (fun Q12 hQ12=>?_)
 refine oC Tryz.func69 (Ew D (insA D.l k (some (f.1++[],f.1.length))) false false p px p n c nx cx n c lf _ hlx (by simpa using hl.ext hX) hlf hok.left hst (by have:=hlf.lo;omega)) ?_
 rintro v12 w12 ⟨⟨cs,rfl,p9,n9,c9,lf9,rfl,hl9,hlf9⟩,hE12⟩
 have hX:=hX.ext hE12
 have hB2:=hB2.ext hE12
 have hB4:=hB4.ext hE12
 have hB9:=hB9.ext hE12
 have hSr8:=hSr8.ext hE12
 refine An hQ12 ⟨hSr8,?_⟩
 refine hT 13 rfl hSr8 (fun wS hSS=>by(exact(Aj rfl rfl))) ?_
 refine hT 14 rfl hSr8 (fun wS hSS=>by(exact(Aj rfl rfl))) ?_
 refine h1L 15 (fun Q15 hQ15=>?_)
 refine Al rfl (by conv=>lhs;whnf) (by simp[Value.oneCell']) (by exact sz45) hB4 (by rfl) ?_
 intro w13 hP13
 have hX:=hX.put hP13 (by rw[hN4.g_eq];exact hXs4)
 have hB2:=hP13.keep hB2 (by omega)
 have hB4:=hP13.blk
 have hB9:=hP13.keep hB9 (by omega)
 have hSr8:=hSr8.put hP13 ⟨.inl rfl,by decide⟩
 have hl9:=hl9.mod (hP13.mod 0 (Nat.zero_le _)) (Nat.zero_le _) (by decide)
 refine An hQ15 ⟨hSr8,?_⟩
 refine hT 16 rfl hSr8 (fun wS hSS=>by(exact(Ah (by conv=>lhs;whnf)))) ?_
 refine A7 (by kernel_rfl) ?_
 refine t_n (Ao ?_)
 refine end2c rfl ua45 rfl (by conv=>lhs;whnf) hB4 (by exact sz45) ?_
 exact⟨⟨_,by rw[hp],by rw[hp];exact⟨p9,n9,c9,lf9,rfl,hl9,hlf9⟩⟩,hX⟩
theorem O5 (D:DS) (p:Option Addr) (n c:Nat) (lf:Int) (w:World) (hl:Sl kFl 119 0 w p n c D.l) (hlf:LfOk D lf) (hok:DOk D) (hst:D.steps<4611686018427387904) (k:ByteArray) (hks:k.size≤9223372036854775807) (ys:List UInt8) :
    Ret Tryz.prog 22 [.agg #[.int .i64 (D.most:Int),.slice p n c,.int .i64 (D.steps:Int),.bool (decide (0≤D.left)),.int .i64 lf,.bool D.done,.bool D.down],.string k,.string (toStr ys)] w (fun v w'=>(∃ cs,v = .tuple #[.agg cs,.int .i64 (Bm D k ys).2]∧RefV w' cs (Bm D k ys).1)∧Ext w w'):=by
 have hX:=Ext.refl w
 refine eN 64 Tryz.func22 ?_
 refine Ab (Aa ?_)
 have hXs3:=hX.size
 refine Bu (by conv=>lhs;whnf) ?_
 intro w1 g3 hN3
 have hE1:=hN3.ext
 have hX:=hX.ext hE1
 have hB3:=hN3.blk
 have hXs6:=hX.size
 have hlt3:=hB3.lt
 refine Ay zr45 ?_
 intro w2 g6 hN6
 have hE2:=hN6.ext
 have hX:=hX.ext hE2
 have hB3:=hB3.ext hE2
 have hB6:=hN6.blk
 refine pA (Ac (t_n (Ab ?_)))
 have hg6:=hN6.g_eq
 have hlen:=hl.len
 have hcap:=hl.cap
 have hple:=Gh D.l k
 have hfew:=hok.few
 have hroom:=hok.room
 have hmost:=hok.most
 refine Aa ?_
 refine p1 (Aq ua45 rfl hB3 (by exact sz45)) ?_
 refine pM ?_
 refine Av u74 inf9 rfl (by decide) (fun base hb=>Br (by rfl) base hb) ?_
 intro w3 g15 hN15
 have hE3:=hN15.ext
 have hX:=hX.ext hE3
 have hB3:=hB3.ext hE3
 have hB6:=hB6.ext hE3
 have hS15:Sl kStr 9 0 w3 (some ⟨g15,0,none⟩) 1 1 [k]:=(B4 (B0:=0) [k] hN15 (Nat.zero_le _) (by simp)).sl
 refine oC Tryz.func66 (Fq (D.most:Int) (D.steps:Int) lf (decide (0≤D.left)) D.done D.down p n c D rfl [k] 0 _ _ _ _ hS15 (by intro s hs';simp only[List.mem_singleton] at hs';subst hs';exact hks)) ?_
 rintro v4 w4 ⟨rfl,hE4⟩
 have hX:=hX.ext hE4
 have hB3:=hB3.ext hE4
 have hB6:=hB6.ext hE4
 refine pA (Ac (t_n (Ab (Aa ?_))))
 refine p1 (Aq ua45 rfl hB3 (by exact sz45)) ?_
 refine pM ?_
 refine oC Tryz.func67 (Ey (D.most:Int) (D.steps:Int) lf (decide (0≤D.left)) D.done D.down D.l p n c _ (hl.ext hX) k (by omega)) ?_
 rintro v5 w5 ⟨rfl,hE5⟩
 have hX:=hX.ext hE5
 have hB3:=hB3.ext hE5
 have hB6:=hB6.ext hE5
 refine pM ?_
 refine p1 (Aj rfl rfl) ?_
 refine p1 (Aj rfl rfl) ?_
 refine pA (pA (Ac (t_n (Ab (Ap (Ab (Aa ?_)))))))
 refine pM ?_
 refine p1 (A2 rfl rfl) ?_
 refine pA (Ac (t_n ?_))
 refine As rfl (fun hc23=>?_) (fun hc23=>?_)
 ·have hp:Bm D k ys=(D,lookD D [k]):=if_pos hc23
  refine Ab (Aa ?_)
  refine p1 (Aq ua45 rfl hB3 (by exact sz45)) ?_
  refine pM ?_
  refine Al rfl (by conv=>lhs;whnf) (by simp[Value.oneCell']) (by exact sz45) hB6 (by rfl) ?_
  intro w6 hP6
  have hX:=hX.put hP6 (by rw[hN6.g_eq];exact hXs6)
  have hB3:=hP6.keep hB3 (by omega)
  have hB6:=hP6.blk
  refine pA (Ac (t_n (Ao (b_r (t_r ?_)))))
  refine end2c rfl ua45 rfl (by conv=>lhs;whnf) hB6 (by exact sz45) ?_
  exact⟨⟨_,by rw[hp],by rw[hp];exact⟨p,n,c,lf,rfl,hl.ext hX,hlf⟩⟩,hX⟩
 refine Ab (Aa ?_)
 refine pM ?_
 refine p1 (Ez rfl) ?_
 refine pA (Ac (t_n ?_))
 refine As rfl (fun hc28=>?_) (fun hc28=>?_)
 ·have hnat:¬ isAtA D.l (plcA D.l k) k:=by simpa using hc28
  have hnf:=G9 hok hnat
  have hp:Bm D k ys=(D,22):=by unfold Bm;rw[if_neg hc23,if_pos hnf]
  refine Ab (Aa ?_)
  refine p1 (Aq ua45 rfl hB3 (by exact sz45)) ?_
  refine Al rfl (by conv=>lhs;whnf) (by simp[Value.oneCell']) (by exact sz45) hB6 (by rfl) ?_
  intro w7 hP7
  have hX:=hX.put hP7 (by rw[hN6.g_eq];exact hXs6)
  have hB3:=hP7.keep hB3 (by omega)
  have hB6:=hP7.blk
  refine pA (Ac (t_n (Ao (b_r (t_r ?_)))))
  refine end2c rfl ua45 rfl (by conv=>lhs;whnf) hB6 (by exact sz45) ?_
  exact⟨⟨_,by rw[hp],by rw[hp];exact⟨p,n,c,lf,rfl,hl.ext hX,hlf⟩⟩,hX⟩
 have hat:isAtA D.l (plcA D.l k) k:=by simpa using hc28
 obtain⟨f,hf,hfa,hfu,hfs,hgf⟩:=Kh hok hat
 have hfr:∀ wz,Ext w wz→wz.rangeAt (ab p) (ao p+plcA D.l k * 3) [.string k,.string (toStr (f.1.take f.2)),.string (toStr (f.1.drop f.2))]:=fun wz hz=>by have:=(hl.ext hz).flRange (plcA D.l k) (by have:=(hat).1;omega);rw[hfa] at this;exact this
 have hplt:plcA D.l k<n:=by have:=(hat).1;omega
 have hne:¬ ascF D.l k=none:=by rw[hf];simp
 have hzs:=Bo ys
 refine Ab ?_
 refine Bj (fun w1 w2=>Ext w1 w2) mixed ?_
 intro w8 hE8
 have hX:=hX.ext hE8
 have hB3:=hB3.ext hE8
 have hB6:=hB6.ext hE8
 have hSr7:(fun w1 w2=>Ext w1 w2) w8 w8:=Ext.refl w8
 refine hT 0 rfl hSr7 (fun wS hSS=>by(exact(Af (by conv=>lhs;whnf)))) ?_
 refine hT 1 rfl hSr7 (fun wS hSS=>by(exact(Dt u9 rfl))) ?_
 refine hT 2 rfl hSr7 (fun wS hSS=>by(exact(Ad Aer sz3 rfl))) ?_
 refine hT 3 rfl hSr7 (fun wS hSS=>by(have hB3:=hB3.ext hSS;exact(Ae un3 rfl (hB3.cell (rfl))))) ?_
 refine hT 4 rfl hSr7 (fun wS hSS=>by(have hB3:=hB3.ext hSS;exact(Aq ua45 rfl hB3 (by exact sz45)))) ?_
 refine h1L 5 (fun Q5 hQ5=>?_)
 refine oC Tryz.func71 (Aaj (D.most:Int) (D.steps:Int) lf (decide (0≤D.left)) D.done D.down D.l p n c _ (hl.ext hX) (by omega) (by omega)) ?_
 rintro v9 w9 ⟨rfl,hE9⟩
 have hX:=hX.ext hE9
 have hB3:=hB3.ext hE9
 have hB6:=hB6.ext hE9
 have hSr7:=hSr7.ext hE9
 refine An hQ5 ⟨hSr7,?_⟩
 refine hT 6 rfl hSr7 (fun wS hSS=>by(exact(Dg rfl rfl (Am (by omega) (by omega))))) ?_
 refine hT 7 rfl hSr7 (fun wS hSS=>by(exact(Cw rfl rfl))) ?_
 refine hT 8 rfl hSr7 (fun wS hSS=>by(exact(Ah (by conv=>lhs;whnf)))) ?_
 refine A7 (by kernel_rfl) ?_
 refine t_n ?_
 refine As rfl (fun hc32=>?_) (fun hc32=>?_)
 ·have hp:Bm D k ys=(D,21):=by unfold Bm;rw[if_neg hc23,if_neg hne,if_pos (by omega)]
  refine Ab (Aa ?_)
  refine p1 (Aq ua45 rfl hB3 (by exact sz45)) ?_
  refine Al rfl (by conv=>lhs;whnf) (by simp[Value.oneCell']) (by exact sz45) hB6 (by rfl) ?_
  intro w10 hP10
  have hX:=hX.put hP10 (by rw[hN6.g_eq];exact hXs6)
  have hB3:=hP10.keep hB3 (by omega)
  have hB6:=hP10.blk
  refine pA (Ac (t_n (Ao (b_r (t_r ?_)))))
  refine end2c rfl ua45 rfl (by conv=>lhs;whnf) hB6 (by exact sz45) ?_
  exact⟨⟨_,by rw[hp],by rw[hp];exact⟨p,n,c,lf,rfl,hl.ext hX,hlf⟩⟩,hX⟩
 have hact:(f.1.take f.2++(f.1.drop f.2++ys),(f.1.take f.2).length)=(f.1++ys,f.2):=by rw[← List.append_assoc,List.take_append_drop,List.length_take,Nat.min_eq_left hfs]
 have hp:Bm D k ys=stepD D (insA D.l k (some (f.1.take f.2++(f.1.drop f.2++ys),(f.1.take f.2).length))) true true:=by unfold Bm;rw[if_neg hc23,if_neg hne,if_neg (by omega),hgf,hact]
 refine Ak (b_n (t_n (Ab (Aa ?_))))
 refine p1 (Ad Cm sz43 rfl) ?_
 refine p1 (Ae un43 rfl (hB3.cell (rfl))) ?_
 refine pM ?_
 refine p1 (Cs u43 sz119 rfl rfl ((hl.ext hX).adr Cq (by omega)) (by omega) (by omega)) ?_
 refine p1 (Cb ua119 rfl (by exact sz119) (hfr _ hX)) ?_
 have hXs11:=hX.size
 have hltc11:=hB6.lt
 have hltb11:=hB3.lt
 refine Ay zr119 ?_
 intro w11 g11 hN11
 have hE11:=hN11.ext
 have hX:=hX.ext hE11
 have hB3:=hB3.ext hE11
 have hB6:=hB6.ext hE11
 have hB11:=hN11.blk
 have hg11:=hN11.g_eq
 refine Al rfl (by conv=>lhs;whnf) (by simp[Value.oneCell']) (by exact sz119) hB11 (by rfl) ?_
 intro w12 hP12
 have hX:=hX.put hP12 (by rw[hN11.g_eq];exact hXs11)
 have hB3:=hP12.keep hB3 (by omega)
 have hB6:=hP12.keep hB6 (by omega)
 have hB11:=hP12.blk
 refine Ac (t_n (Ab (Aa ?_)))
 refine p1 (Aq ua45 rfl hB3 (by exact sz45)) ?_
 refine p1 (Ad Gj sz9 rfl) ?_
 refine p1 (Ae un9 rfl (hB11.cell (rfl))) ?_
 refine p1 (Ad Ke sz9 rfl) ?_
 refine p1 (Ae un9 rfl (hB11.cell (rfl))) ?_
 refine p1 (Ad Kd sz9 rfl) ?_
 refine p1 (Ae un9 rfl (hB11.cell (rfl))) ?_
 refine pM ?_
 refine p1 ((Js rfl rfl (by rw[Bo,Bo,List.length_drop];omega)).cast (by rw[Fe])) ?_
 refine p1 (Jr pl119 rfl rfl rfl) ?_
 refine oC Tryz.func68 (F4 (D.most:Int) (D.steps:Int) lf (decide (0≤D.left)) D.done D.down D.l p n c _ (hl.ext hX) (by omega) k (f.1.take f.2) (f.1.drop f.2++ys)) ?_
 rintro v13 w13 ⟨⟨px,nx,cx,rfl,hlx⟩,hE13⟩
 have hX:=hX.ext hE13
 have hB3:=hB3.ext hE13
 have hB6:=hB6.ext hE13
 have hXs12:=hX.size
 have hltc12:=hB6.lt
 have hltb12:=hB3.lt
 refine Ay zr45 ?_
 intro w14 g12 hN12
 have hE14:=hN12.ext
 have hX:=hX.ext hE14
 have hB3:=hB3.ext hE14
 have hB6:=hB6.ext hE14
 have hlx:=hlx.ext hE14
 have hB12:=hN12.blk
 have hg12:=hN12.g_eq
 refine Al rfl (by conv=>lhs;whnf) (by simp[Value.oneCell']) (by exact sz45) hB12 (by rfl) ?_
 intro w15 hP15
 have hX:=hX.put hP15 (by rw[hN12.g_eq];exact hXs12)
 have hB3:=hP15.keep hB3 (by omega)
 have hB6:=hP15.keep hB6 (by omega)
 have hlx:=hlx.mod (hP15.mod 0 (Nat.zero_le _)) (Nat.zero_le _) (by decide)
 have hB12:=hP15.blk
 refine Ac (t_n (Ab (Aa ?_)))
 refine p1 (Aq ua45 rfl hB3 (by exact sz45)) ?_
 refine p1 (Aq ua45 rfl hB12 (by exact sz45)) ?_
 refine p1 (Aq ua45 rfl hB12 (by exact sz45)) ?_
 refine oC Tryz.func69 (Ew D (insA D.l k (some (f.1.take f.2++(f.1.drop f.2++ys),(f.1.take f.2).length))) true true p px px n c nx cx nx cx lf _ hlx (by simpa using hlx) hlf hok.left hst (by have:=hlf.lo;omega)) ?_
 rintro v16 w16 ⟨⟨cs,rfl,p9,n9,c9,lf9,rfl,hl9,hlf9⟩,hE16⟩
 have hX:=hX.ext hE16
 have hB3:=hB3.ext hE16
 have hB6:=hB6.ext hE16
 have hB12:=hB12.ext hE16
 refine p1 (Aj rfl rfl) ?_
 refine p1 (Aj rfl rfl) ?_
 refine Al rfl (by conv=>lhs;whnf) (by simp[Value.oneCell']) (by exact sz45) hB6 (by rfl) ?_
 intro w17 hP17
 have hX:=hX.put hP17 (by rw[hN6.g_eq];exact hXs6)
 have hB3:=hP17.keep hB3 (by omega)
 have hB6:=hP17.blk
 have hB12:=hP17.keep hB12 (by omega)
 have hl9:=hl9.mod (hP17.mod 0 (Nat.zero_le _)) (Nat.zero_le _) (by decide)
 refine pA (Ac (t_n (Ao ?_)))
 refine end2c rfl ua45 rfl (by conv=>lhs;whnf) hB6 (by exact sz45) ?_
 exact⟨⟨_,by rw[hp],by rw[hp];exact⟨p9,n9,c9,lf9,rfl,hl9,hlf9⟩⟩,hX⟩
theorem V2 (D:DS) (p:Option Addr) (n c:Nat) (lf:Int) (w:World) (hl:Sl kFl 119 0 w p n c D.l) (hlf:LfOk D lf) (hok:DOk D) (hst:D.steps<4611686018427387904) (old now:ByteArray) (hos:old.size≤9223372036854775807) (hns:now.size≤9223372036854775807) :
    Ret Tryz.prog 153 [.agg #[.int .i64 (D.most:Int),.slice p n c,.int .i64 (D.steps:Int),.bool (decide (0≤D.left)),.int .i64 lf,.bool D.done,.bool D.down],.string old,.string now] w (fun v w'=>(∃ cs,v = .tuple #[.agg cs,.int .i64 (Bv D old now).2]∧RefV w' cs (Bv D old now).1)∧Ext w w'):=by
 have hX:=Ext.refl w
 refine eN 56 Tryz.func153 ?_
 refine Ab (Aa ?_)
 have hXs3:=hX.size
 refine Bu (by conv=>lhs;whnf) ?_
 intro w1 g3 hN3
 have hE1:=hN3.ext
 have hX:=hX.ext hE1
 have hB3:=hN3.blk
 have hXs6:=hX.size
 have hlt3:=hB3.lt
 refine Ay zr45 ?_
 intro w2 g6 hN6
 have hE2:=hN6.ext
 have hX:=hX.ext hE2
 have hB3:=hB3.ext hE2
 have hB6:=hN6.blk
 refine pA (Ac (t_n (Ab ?_)))
 have hg6:=hN6.g_eq
 have hlen:=hl.len
 have hcap:=hl.cap
 have hple:=Gh D.l old
 have hfew:=hok.few
 have hroom:=hok.room
 have hmost:=hok.most
 refine Aa ?_
 refine p1 (Aq ua45 rfl hB3 (by exact sz45)) ?_
 refine pM (pM ?_)
 refine Av u74 inf9 rfl (by decide) (fun base hb=>Ed [.string old,.string now] (by intro v hv';simp only[List.mem_cons,List.not_mem_nil,or_false] at hv';rcases hv' with rfl | rfl <;> rfl) base hb) ?_
 intro w3 g16 hN16
 have hE3:=hN16.ext
 have hX:=hX.ext hE3
 have hB3:=hB3.ext hE3
 have hB6:=hB6.ext hE3
 have hS16:Sl kStr 9 0 w3 (some ⟨g16,0,none⟩) 2 2 [old,now]:=(B4 (B0:=0) [old,now] hN16 (Nat.zero_le _) (by simp)).sl
 refine oC Tryz.func66 (Fq (D.most:Int) (D.steps:Int) lf (decide (0≤D.left)) D.done D.down p n c D rfl [old,now] 0 _ _ _ _ hS16 (by intro s hs';simp only[List.mem_cons,List.not_mem_nil,or_false] at hs';rcases hs' with rfl | rfl <;> assumption)) ?_
 rintro v4 w4 ⟨rfl,hE4⟩
 have hX:=hX.ext hE4
 have hB3:=hB3.ext hE4
 have hB6:=hB6.ext hE4
 refine pA (Ac (t_n (Ab (Aa ?_))))
 refine p1 (Aq ua45 rfl hB3 (by exact sz45)) ?_
 refine pM ?_
 refine oC Tryz.func67 (Ey (D.most:Int) (D.steps:Int) lf (decide (0≤D.left)) D.done D.down D.l p n c _ (hl.ext hX) old (by omega)) ?_
 rintro v5 w5 ⟨rfl,hE5⟩
 have hX:=hX.ext hE5
 have hB3:=hB3.ext hE5
 have hB6:=hB6.ext hE5
 refine pM ?_
 refine p1 (Aj rfl rfl) ?_
 refine p1 (Aj rfl rfl) ?_
 refine pA (pA (Ac (t_n (Ab (Ap (Ab (Aa ?_)))))))
 refine pM ?_
 refine p1 (A2 rfl rfl) ?_
 refine pA (Ac (t_n ?_))
 refine As rfl (fun hc24=>?_) (fun hc24=>?_)
 ·have hp:Bv D old now=(D,lookD D [old,now]):=if_pos hc24
  refine Ab (Aa ?_)
  refine p1 (Aq ua45 rfl hB3 (by exact sz45)) ?_
  refine pM ?_
  refine Al rfl (by conv=>lhs;whnf) (by simp[Value.oneCell']) (by exact sz45) hB6 (by rfl) ?_
  intro w6 hP6
  have hX:=hX.put hP6 (by rw[hN6.g_eq];exact hXs6)
  have hB3:=hP6.keep hB3 (by omega)
  have hB6:=hP6.blk
  refine pA (Ac (t_n (Ao (b_r (t_r ?_)))))
  refine end2c rfl ua45 rfl (by conv=>lhs;whnf) hB6 (by exact sz45) ?_
  exact⟨⟨_,by rw[hp],by rw[hp];exact⟨p,n,c,lf,rfl,hl.ext hX,hlf⟩⟩,hX⟩
 refine Ab (Aa ?_)
 refine pM ?_
 refine p1 (Ez rfl) ?_
 refine pA (Ac (t_n ?_))
 refine As rfl (fun hc29=>?_) (fun hc29=>?_)
 ·have hnat:¬ isAtA D.l (plcA D.l old) old:=by simpa using hc29
  have hnf:=G9 hok hnat
  have hp:Bv D old now=(D,22):=by unfold Bv;rw[if_neg hc24,if_pos hnf]
  refine Ab (Aa ?_)
  refine p1 (Aq ua45 rfl hB3 (by exact sz45)) ?_
  refine Al rfl (by conv=>lhs;whnf) (by simp[Value.oneCell']) (by exact sz45) hB6 (by rfl) ?_
  intro w7 hP7
  have hX:=hX.put hP7 (by rw[hN6.g_eq];exact hXs6)
  have hB3:=hP7.keep hB3 (by omega)
  have hB6:=hP7.blk
  refine pA (Ac (t_n (Ao (b_r (t_r ?_)))))
  refine end2c rfl ua45 rfl (by conv=>lhs;whnf) hB6 (by exact sz45) ?_
  exact⟨⟨_,by rw[hp],by rw[hp];exact⟨p,n,c,lf,rfl,hl.ext hX,hlf⟩⟩,hX⟩
 have hat:isAtA D.l (plcA D.l old) old:=by simpa using hc29
 obtain⟨f,hf,hfa,hfu,hfs,hgf⟩:=Kh hok hat
 have hfr:∀ wz,Ext w wz→wz.rangeAt (ab p) (ao p+plcA D.l old * 3) [.string old,.string (toStr (f.1.take f.2)),.string (toStr (f.1.drop f.2))]:=fun wz hz=>by have:=(hl.ext hz).flRange (plcA D.l old) (by have:=(hat).1;omega);rw[hfa] at this;exact this
 have hplt:plcA D.l old<n:=by have:=(hat).1;omega
 have hne:¬ ascF D.l old=none:=by rw[hf];simp
 have hTK:(f.1.take f.2++f.1.drop f.2,(f.1.take f.2).length)=f:=by rw[List.take_append_drop,List.length_take,Nat.min_eq_left hfs]
 have hp:Bv D old now=stepD D (insA (insA D.l old none) now (some (f.1.take f.2++f.1.drop f.2,(f.1.take f.2).length))) true false:=by unfold Bv;rw[if_neg hc24,if_neg hne,hTK,Ac2 hok.rise hf,hgf]
 have hlw64:=Hw hok (k:=old) (fun e=>hne e) (none:Option Fb)
 refine Ak (b_n (t_n (Ab (Aa ?_))))
 refine p1 (Ad Cm sz43 rfl) ?_
 refine p1 (Ae un43 rfl (hB3.cell (rfl))) ?_
 refine pM ?_
 refine p1 (Cs u43 sz119 rfl rfl ((hl.ext hX).adr Cq (by omega)) (by omega) (by omega)) ?_
 refine p1 (Cb ua119 rfl (by exact sz119) (hfr _ hX)) ?_
 have hXs11:=hX.size
 have hltc11:=hB6.lt
 have hltb11:=hB3.lt
 refine Ay zr119 ?_
 intro w8 g11 hN11
 have hE8:=hN11.ext
 have hX:=hX.ext hE8
 have hB3:=hB3.ext hE8
 have hB6:=hB6.ext hE8
 have hB11:=hN11.blk
 have hg11:=hN11.g_eq
 refine Al rfl (by conv=>lhs;whnf) (by simp[Value.oneCell']) (by exact sz119) hB11 (by rfl) ?_
 intro w9 hP9
 have hX:=hX.put hP9 (by rw[hN11.g_eq];exact hXs11)
 have hB3:=hP9.keep hB3 (by omega)
 have hB6:=hP9.keep hB6 (by omega)
 have hB11:=hP9.blk
 refine Ac (t_n (Ab ?_))
 refine Bj (fun w1 w2=>Ext w1 w2) mixed ?_
 intro w10 hE10
 have hX:=hX.ext hE10
 have hB3:=hB3.ext hE10
 have hB6:=hB6.ext hE10
 have hB11:=hB11.ext hE10
 have hSr8:(fun w1 w2=>Ext w1 w2) w10 w10:=Ext.refl w10
 refine hT 0 rfl hSr8 (fun wS hSS=>by(have hB3:=hB3.ext hSS;exact(Aq ua45 rfl hB3 (by exact sz45)))) ?_
 refine hT 1 rfl hSr8 (fun wS hSS=>by(exact(Af (by conv=>lhs;whnf)))) ?_
 refine hT 3 rfl hSr8 (fun wS hSS=>by(exact(Af (by conv=>lhs;whnf)))) ?_
 refine hT 4 rfl hSr8 (fun wS hSS=>by(exact(Ad Ke sz9 rfl))) ?_
 refine hT 5 rfl hSr8 (fun wS hSS=>by(have hB11:=hB11.ext hSS;exact(Ae un9 rfl (hB11.cell (rfl))))) ?_
 refine hT 6 rfl hSr8 (fun wS hSS=>by(exact(Ad Kd sz9 rfl))) ?_
 refine hT 7 rfl hSr8 (fun wS hSS=>by(have hB11:=hB11.ext hSS;exact(Ae un9 rfl (hB11.cell (rfl))))) ?_
 refine hT 8 rfl hSr8 (fun wS hSS=>by(exact(Jr pl119 rfl rfl rfl))) ?_
 refine Lq 2 10 _ _ rfl rfl (by kernel_rfl) (A1 (fun Q2 hQ2=>?_)) (A1 (fun Q10 hQ10=>?_))
 ·skip
  refine oC Tryz.func196 (I4 (D.most:Int) (D.steps:Int) lf (decide (0≤D.left)) D.done D.down D.l p n c _ (hl.ext hX) (by omega) hok.rise old) ?_
  rintro v11 w11 ⟨⟨pw,nw,cw,rfl,hlw⟩,hE11⟩
  have hX:=hX.ext hE11
  have hB3:=hB3.ext hE11
  have hB6:=hB6.ext hE11
  have hSr8:=hSr8.ext hE11
  refine An hQ2 ⟨hSr8,?_⟩
  refine Lq 9 10 _ _ rfl rfl (by kernel_rfl) (A1 (fun Q9 hQ9=>?_)) (A1 (fun Q10 hQ10=>?_))
  ·skip
   refine oC Tryz.func68 (F4 (D.most:Int) (D.steps:Int) lf (decide (0≤D.left)) D.done D.down (insA D.l old none) pw nw cw _ hlw (by have:=hlw.len;omega) now (f.1.take f.2) (f.1.drop f.2)) ?_
   rintro v12 w12 ⟨⟨px,nx,cx,rfl,hlx⟩,hE12⟩
   have hX:=hX.ext hE12
   have hB3:=hB3.ext hE12
   have hB6:=hB6.ext hE12
   have hSr8:=hSr8.ext hE12
   refine An hQ9 ⟨hSr8,?_⟩
   refine h1L 10 (fun Q10 hQ10=>?_)
   have hXs12:=hX.size
   have hltc12:=hB6.lt
   have hltb12:=hB3.lt
   have h12:=hSr8.size
   refine Ay zr45 ?_
   intro w13 g12 hN12
   have hE13:=hN12.ext
   have hX:=hX.ext hE13
   have hB3:=hB3.ext hE13
   have hB6:=hB6.ext hE13
   have hSr8:=hSr8.ext hE13
   have hlx:=hlx.ext hE13
   have hB12:=hN12.blk
   refine An hQ10 ⟨hSr8,?_⟩
   refine h1L 11 (fun Q11 hQ11=>?_)
   have hg12:=hN12.g_eq
   refine Al rfl (by conv=>lhs;whnf) (by simp[Value.oneCell']) (by exact sz45) hB12 (by rfl) ?_
   intro w14 hP14
   have hX:=hX.put hP14 (by rw[hN12.g_eq];exact hXs12)
   have hB3:=hP14.keep hB3 (by omega)
   have hB6:=hP14.keep hB6 (by omega)
   have hSr8:=hSr8.put hP14 (by rw[hN12.g_eq];exact h12)
   have hlx:=hlx.mod (hP14.mod 0 (Nat.zero_le _)) (Nat.zero_le _) (by decide)
   have hB12:=hP14.blk
   refine An hQ11 ⟨hSr8,?_⟩
   refine A7 (by kernel_rfl) ?_
   refine t_n (Ab ?_)
   refine Bj (fun w1 w2=>ModS (fun j=>j=g6) [45] w1 w2) mixed ?_
   intro w15 hE15
   have hX:=hX.ext hE15
   have hB3:=hB3.ext hE15
   have hB6:=hB6.ext hE15
   have hlx:=hlx.ext hE15
   have hB12:=hB12.ext hE15
   have hSr9:(fun w1 w2=>ModS (fun j=>j=g6) [45] w1 w2) w15 w15:=ModS.refl _ _ _
   refine hT 0 rfl hSr9 (fun wS hSS=>by(have hB3:=hB3.modS hSS (.inl (by omega));have hB12:=hB12.modS hSS (.inl (by omega));exact(Aq ua45 rfl hB3 (by exact sz45)))) ?_
   refine hT 1 rfl hSr9 (fun wS hSS=>by(have hB3:=hB3.modS hSS (.inl (by omega));have hB12:=hB12.modS hSS (.inl (by omega));exact(Aq ua45 rfl hB12 (by exact sz45)))) ?_
   refine hT 2 rfl hSr9 (fun wS hSS=>by(have hB3:=hB3.modS hSS (.inl (by omega));have hB12:=hB12.modS hSS (.inl (by omega));exact(Aq ua45 rfl hB3 (by exact sz45)))) ?_
   refine hT 3 rfl hSr9 (fun wS hSS=>by(have hB3:=hB3.modS hSS (.inl (by omega));have hB12:=hB12.modS hSS (.inl (by omega));exact(Aq ua45 rfl hB12 (by exact sz45)))) ?_
   refine h1L 4 (fun Q4 hQ4=>?_)
   refine oC Tryz.func70 (Er D (insA (insA D.l old none) now (some (f.1.take f.2++f.1.drop f.2,(f.1.take f.2).length))) p px n c nx cx lf _ (hl.ext hX) hlx) ?_
   rintro v16 w16 ⟨⟨py,ny,cy,rfl,hly⟩,hE16⟩
   have hX:=hX.ext hE16
   have hB3:=hB3.ext hE16
   have hB6:=hB6.ext hE16
   have hlx:=hlx.ext hE16
   have hB12:=hB12.ext hE16
   have hSr9:=hSr9.ext hE16
   refine An hQ4 ⟨hSr9,?_⟩
   refine h1L 5 (fun Q5 hQ5=>?_)
   refine oC Tryz.func69 (Ew D (insA (insA D.l old none) now (some (f.1.take f.2++f.1.drop f.2,(f.1.take f.2).length))) true false p px py n c nx cx ny cy lf _ hlx (hly) hlf hok.left hst (by have:=hlf.lo;omega)) ?_
   rintro v17 w17 ⟨⟨cs,rfl,p9,n9,c9,lf9,rfl,hl9,hlf9⟩,hE17⟩
   have hX:=hX.ext hE17
   have hB3:=hB3.ext hE17
   have hB6:=hB6.ext hE17
   have hB12:=hB12.ext hE17
   have hSr9:=hSr9.ext hE17
   refine An hQ5 ⟨hSr9,?_⟩
   refine hT 6 rfl hSr9 (fun wS hSS=>by(exact(Aj rfl rfl))) ?_
   refine hT 7 rfl hSr9 (fun wS hSS=>by(exact(Aj rfl rfl))) ?_
   refine h1L 8 (fun Q8 hQ8=>?_)
   refine Al rfl (by conv=>lhs;whnf) (by simp[Value.oneCell']) (by exact sz45) hB6 (by rfl) ?_
   intro w18 hP18
   have hX:=hX.put hP18 (by rw[hN6.g_eq];exact hXs6)
   have hB3:=hP18.keep hB3 (by omega)
   have hB6:=hP18.blk
   have hB12:=hP18.keep hB12 (by omega)
   have hSr9:=hSr9.put hP18 ⟨.inl rfl,by decide⟩
   have hl9:=hl9.mod (hP18.mod 0 (Nat.zero_le _)) (Nat.zero_le _) (by decide)
   refine An hQ8 ⟨hSr9,?_⟩
   refine hT 9 rfl hSr9 (fun wS hSS=>by(exact(Ah (by conv=>lhs;whnf)))) ?_
   refine A7 (by kernel_rfl) ?_
   refine t_n (Ao ?_)
   refine end2c rfl ua45 rfl (by conv=>lhs;whnf) hB6 (by exact sz45) ?_
   exact⟨⟨_,by rw[hp],by rw[hp];exact⟨p9,n9,c9,lf9,rfl,hl9,hlf9⟩⟩,hX⟩
  skip
  have hXs12:=hX.size
  have hltc12:=hB6.lt
  have hltb12:=hB3.lt
  have h12:=hSr8.size
  refine Ay zr45 ?_
  intro w19 g12 hN12
  have hE19:=hN12.ext
  have hX:=hX.ext hE19
  have hB3:=hB3.ext hE19
  have hB6:=hB6.ext hE19
  have hSr8:=hSr8.ext hE19
  have hlw:=hlw.ext hE19
  have hB12:=hN12.blk
  refine An hQ10 ⟨hSr8,?_⟩
  refine h1L 9 (fun Q9 hQ9=>?_)
  refine oC Tryz.func68 (F4 (D.most:Int) (D.steps:Int) lf (decide (0≤D.left)) D.done D.down (insA D.l old none) pw nw cw _ hlw (by have:=hlw.len;omega) now (f.1.take f.2) (f.1.drop f.2)) ?_
  rintro v20 w20 ⟨⟨px,nx,cx,rfl,hlx⟩,hE20⟩
  have hX:=hX.ext hE20
  have hB3:=hB3.ext hE20
  have hB6:=hB6.ext hE20
  have hSr8:=hSr8.ext hE20
  have hB12:=hB12.ext hE20
  refine An hQ9 ⟨hSr8,?_⟩
  refine h1L 11 (fun Q11 hQ11=>?_)
  have hg12:=hN12.g_eq
  refine Al rfl (by conv=>lhs;whnf) (by simp[Value.oneCell']) (by exact sz45) hB12 (by rfl) ?_
  intro w21 hP21
  have hX:=hX.put hP21 (by rw[hN12.g_eq];exact hXs12)
  have hB3:=hP21.keep hB3 (by omega)
  have hB6:=hP21.keep hB6 (by omega)
  have hSr8:=hSr8.put hP21 (by rw[hN12.g_eq];exact h12)
  have hB12:=hP21.blk
  have hlx:=hlx.mod (hP21.mod 0 (Nat.zero_le _)) (Nat.zero_le _) (by decide)
  refine An hQ11 ⟨hSr8,?_⟩
  refine A7 (by kernel_rfl) ?_
  refine t_n (Ab ?_)
  refine Bj (fun w1 w2=>ModS (fun j=>j=g6) [45] w1 w2) mixed ?_
  intro w22 hE22
  have hX:=hX.ext hE22
  have hB3:=hB3.ext hE22
  have hB6:=hB6.ext hE22
  have hB12:=hB12.ext hE22
  have hlx:=hlx.ext hE22
  have hSr9:(fun w1 w2=>ModS (fun j=>j=g6) [45] w1 w2) w22 w22:=ModS.refl _ _ _
  refine hT 0 rfl hSr9 (fun wS hSS=>by(have hB3:=hB3.modS hSS (.inl (by omega));have hB12:=hB12.modS hSS (.inl (by omega));exact(Aq ua45 rfl hB3 (by exact sz45)))) ?_
  refine hT 1 rfl hSr9 (fun wS hSS=>by(have hB3:=hB3.modS hSS (.inl (by omega));have hB12:=hB12.modS hSS (.inl (by omega));exact(Aq ua45 rfl hB12 (by exact sz45)))) ?_
  refine hT 2 rfl hSr9 (fun wS hSS=>by(have hB3:=hB3.modS hSS (.inl (by omega));have hB12:=hB12.modS hSS (.inl (by omega));exact(Aq ua45 rfl hB3 (by exact sz45)))) ?_
  refine hT 3 rfl hSr9 (fun wS hSS=>by(have hB3:=hB3.modS hSS (.inl (by omega));have hB12:=hB12.modS hSS (.inl (by omega));exact(Aq ua45 rfl hB12 (by exact sz45)))) ?_
  refine h1L 4 (fun Q4 hQ4=>?_)
  refine oC Tryz.func70 (Er D (insA (insA D.l old none) now (some (f.1.take f.2++f.1.drop f.2,(f.1.take f.2).length))) p px n c nx cx lf _ (hl.ext hX) hlx) ?_
  rintro v23 w23 ⟨⟨py,ny,cy,rfl,hly⟩,hE23⟩
  have hX:=hX.ext hE23
  have hB3:=hB3.ext hE23
  have hB6:=hB6.ext hE23
  have hB12:=hB12.ext hE23
  have hlx:=hlx.ext hE23
  have hSr9:=hSr9.ext hE23
  refine An hQ4 ⟨hSr9,?_⟩
  refine h1L 5 (fun Q5 hQ5=>?_)
  refine oC Tryz.func69 (Ew D (insA (insA D.l old none) now (some (f.1.take f.2++f.1.drop f.2,(f.1.take f.2).length))) true false p px py n c nx cx ny cy lf _ hlx (hly) hlf hok.left hst (by have:=hlf.lo;omega)) ?_
  rintro v24 w24 ⟨⟨cs,rfl,p9,n9,c9,lf9,rfl,hl9,hlf9⟩,hE24⟩
  have hX:=hX.ext hE24
  have hB3:=hB3.ext hE24
  have hB6:=hB6.ext hE24
  have hB12:=hB12.ext hE24
  have hSr9:=hSr9.ext hE24
  refine An hQ5 ⟨hSr9,?_⟩
  refine hT 6 rfl hSr9 (fun wS hSS=>by(exact(Aj rfl rfl))) ?_
  refine hT 7 rfl hSr9 (fun wS hSS=>by(exact(Aj rfl rfl))) ?_
  refine h1L 8 (fun Q8 hQ8=>?_)
  refine Al rfl (by conv=>lhs;whnf) (by simp[Value.oneCell']) (by exact sz45) hB6 (by rfl) ?_
  intro w25 hP25
  have hX:=hX.put hP25 (by rw[hN6.g_eq];exact hXs6)
  have hB3:=hP25.keep hB3 (by omega)
  have hB6:=hP25.blk
  have hB12:=hP25.keep hB12 (by omega)
  have hSr9:=hSr9.put hP25 ⟨.inl rfl,by decide⟩
  have hl9:=hl9.mod (hP25.mod 0 (Nat.zero_le _)) (Nat.zero_le _) (by decide)
  refine An hQ8 ⟨hSr9,?_⟩
  refine hT 9 rfl hSr9 (fun wS hSS=>by(exact(Ah (by conv=>lhs;whnf)))) ?_
  refine A7 (by kernel_rfl) ?_
  refine t_n (Ao ?_)
  refine end2c rfl ua45 rfl (by conv=>lhs;whnf) hB6 (by exact sz45) ?_
  exact⟨⟨_,by rw[hp],by rw[hp];exact⟨p9,n9,c9,lf9,rfl,hl9,hlf9⟩⟩,hX⟩
 skip
 have hXs12:=hX.size
 have hltc12:=hB6.lt
 have hltb12:=hB3.lt
 have h12:=hSr8.size
 refine Ay zr45 ?_
 intro w26 g12 hN12
 have hE26:=hN12.ext
 have hX:=hX.ext hE26
 have hB3:=hB3.ext hE26
 have hB6:=hB6.ext hE26
 have hSr8:=hSr8.ext hE26
 have hB12:=hN12.blk
 refine An hQ10 ⟨hSr8,?_⟩
 refine h1L 2 (fun Q2 hQ2=>?_)
 refine oC Tryz.func196 (I4 (D.most:Int) (D.steps:Int) lf (decide (0≤D.left)) D.done D.down D.l p n c _ (hl.ext hX) (by omega) hok.rise old) ?_
 rintro v27 w27 ⟨⟨pw,nw,cw,rfl,hlw⟩,hE27⟩
 have hX:=hX.ext hE27
 have hB3:=hB3.ext hE27
 have hB6:=hB6.ext hE27
 have hSr8:=hSr8.ext hE27
 have hB12:=hB12.ext hE27
 refine An hQ2 ⟨hSr8,?_⟩
 refine h1L 9 (fun Q9 hQ9=>?_)
 refine oC Tryz.func68 (F4 (D.most:Int) (D.steps:Int) lf (decide (0≤D.left)) D.done D.down (insA D.l old none) pw nw cw _ hlw (by have:=hlw.len;omega) now (f.1.take f.2) (f.1.drop f.2)) ?_
 rintro v28 w28 ⟨⟨px,nx,cx,rfl,hlx⟩,hE28⟩
 have hX:=hX.ext hE28
 have hB3:=hB3.ext hE28
 have hB6:=hB6.ext hE28
 have hSr8:=hSr8.ext hE28
 have hB12:=hB12.ext hE28
 refine An hQ9 ⟨hSr8,?_⟩
 refine h1L 11 (fun Q11 hQ11=>?_)
 have hg12:=hN12.g_eq
 refine Al rfl (by conv=>lhs;whnf) (by simp[Value.oneCell']) (by exact sz45) hB12 (by rfl) ?_
 intro w29 hP29
 have hX:=hX.put hP29 (by rw[hN12.g_eq];exact hXs12)
 have hB3:=hP29.keep hB3 (by omega)
 have hB6:=hP29.keep hB6 (by omega)
 have hSr8:=hSr8.put hP29 (by rw[hN12.g_eq];exact h12)
 have hB12:=hP29.blk
 have hlx:=hlx.mod (hP29.mod 0 (Nat.zero_le _)) (Nat.zero_le _) (by decide)
 refine An hQ11 ⟨hSr8,?_⟩
 refine A7 (by kernel_rfl) ?_
 refine t_n (Ab ?_)
 refine Bj (fun w1 w2=>ModS (fun j=>j=g6) [45] w1 w2) mixed ?_
 intro w30 hE30
 have hX:=hX.ext hE30
 have hB3:=hB3.ext hE30
 have hB6:=hB6.ext hE30
 have hB12:=hB12.ext hE30
 have hlx:=hlx.ext hE30
 have hSr9:(fun w1 w2=>ModS (fun j=>j=g6) [45] w1 w2) w30 w30:=ModS.refl _ _ _
 refine hT 0 rfl hSr9 (fun wS hSS=>by(have hB3:=hB3.modS hSS (.inl (by omega));have hB12:=hB12.modS hSS (.inl (by omega));exact(Aq ua45 rfl hB3 (by exact sz45)))) ?_
 refine hT 1 rfl hSr9 (fun wS hSS=>by(have hB3:=hB3.modS hSS (.inl (by omega));have hB12:=hB12.modS hSS (.inl (by omega));exact(Aq ua45 rfl hB12 (by exact sz45)))) ?_
 refine hT 2 rfl hSr9 (fun wS hSS=>by(have hB3:=hB3.modS hSS (.inl (by omega));have hB12:=hB12.modS hSS (.inl (by omega));exact(Aq ua45 rfl hB3 (by exact sz45)))) ?_
 refine hT 3 rfl hSr9 (fun wS hSS=>by(have hB3:=hB3.modS hSS (.inl (by omega));have hB12:=hB12.modS hSS (.inl (by omega));exact(Aq ua45 rfl hB12 (by exact sz45)))) ?_
 refine h1L 4 (fun Q4 hQ4=>?_)
 refine oC Tryz.func70 (Er D (insA (insA D.l old none) now (some (f.1.take f.2++f.1.drop f.2,(f.1.take f.2).length))) p px n c nx cx lf _ (hl.ext hX) hlx) ?_
 rintro v31 w31 ⟨⟨py,ny,cy,rfl,hly⟩,hE31⟩
 have hX:=hX.ext hE31
 have hB3:=hB3.ext hE31
 have hB6:=hB6.ext hE31
 have hB12:=hB12.ext hE31
 have hlx:=hlx.ext hE31
 have hSr9:=hSr9.ext hE31
 refine An hQ4 ⟨hSr9,?_⟩
 refine h1L 5 (fun Q5 hQ5=>?_)
 refine oC Tryz.func69 (Ew D (insA (insA D.l old none) now (some (f.1.take f.2++f.1.drop f.2,(f.1.take f.2).length))) true false p px py n c nx cx ny cy lf _ hlx (hly) hlf hok.left hst (by have:=hlf.lo;omega)) ?_
 rintro v32 w32 ⟨⟨cs,rfl,p9,n9,c9,lf9,rfl,hl9,hlf9⟩,hE32⟩
 have hX:=hX.ext hE32
 have hB3:=hB3.ext hE32
 have hB6:=hB6.ext hE32
 have hB12:=hB12.ext hE32
 have hSr9:=hSr9.ext hE32
 refine An hQ5 ⟨hSr9,?_⟩
 refine hT 6 rfl hSr9 (fun wS hSS=>by(exact(Aj rfl rfl))) ?_
 refine hT 7 rfl hSr9 (fun wS hSS=>by(exact(Aj rfl rfl))) ?_
 refine h1L 8 (fun Q8 hQ8=>?_)
 refine Al rfl (by conv=>lhs;whnf) (by simp[Value.oneCell']) (by exact sz45) hB6 (by rfl) ?_
 intro w33 hP33
 have hX:=hX.put hP33 (by rw[hN6.g_eq];exact hXs6)
 have hB3:=hP33.keep hB3 (by omega)
 have hB6:=hP33.blk
 have hB12:=hP33.keep hB12 (by omega)
 have hSr9:=hSr9.put hP33 ⟨.inl rfl,by decide⟩
 have hl9:=hl9.mod (hP33.mod 0 (Nat.zero_le _)) (Nat.zero_le _) (by decide)
 refine An hQ8 ⟨hSr9,?_⟩
 refine hT 9 rfl hSr9 (fun wS hSS=>by(exact(Ah (by conv=>lhs;whnf)))) ?_
 refine A7 (by kernel_rfl) ?_
 refine t_n (Ao ?_)
 refine end2c rfl ua45 rfl (by conv=>lhs;whnf) hB6 (by exact sz45) ?_
 exact⟨⟨_,by rw[hp],by rw[hp];exact⟨p9,n9,c9,lf9,rfl,hl9,hlf9⟩⟩,hX⟩
theorem Ac4 (D:DS) (p:Option Addr) (n c:Nat) (lf:Int) (w:World) (hl:Sl kFl 119 0 w p n c D.l) (hlf:LfOk D lf) (hok:DOk D) (hst:D.steps<4611686018427387904) (k:ByteArray) (hks:k.size≤9223372036854775807) (m:Int) (hm1:-9223372036854775808≤m) (hm2:m≤9223372036854775807) :
    Ret Tryz.prog 113 [.agg #[.int .i64 (D.most:Int),.slice p n c,.int .i64 (D.steps:Int),.bool (decide (0≤D.left)),.int .i64 lf,.bool D.done,.bool D.down],.string k,.int .i64 m] w (fun v w'=>(∃ cs,v = .tuple #[.agg cs,.int .i64 (cutD D k m).2]∧RefV w' cs (cutD D k m).1)∧Ext w w'):=by
 have hX:=Ext.refl w
 refine eN 69 Tryz.func113 ?_
 refine Ab (Aa ?_)
 have hXs3:=hX.size
 refine Bu (by conv=>lhs;whnf) ?_
 intro w1 g3 hN3
 have hE1:=hN3.ext
 have hX:=hX.ext hE1
 have hB3:=hN3.blk
 have hXs6:=hX.size
 have hlt3:=hB3.lt
 refine Ay zr45 ?_
 intro w2 g6 hN6
 have hE2:=hN6.ext
 have hX:=hX.ext hE2
 have hB3:=hB3.ext hE2
 have hB6:=hN6.blk
 refine pA (Ac (t_n (Ab ?_)))
 have hg6:=hN6.g_eq
 have hlen:=hl.len
 have hcap:=hl.cap
 have hple:=Gh D.l k
 have hfew:=hok.few
 have hroom:=hok.room
 have hmost:=hok.most
 refine Aa ?_
 refine p1 (Aq ua45 rfl hB3 (by exact sz45)) ?_
 refine pM ?_
 refine Av u74 inf9 rfl (by decide) (fun base hb=>Br (by rfl) base hb) ?_
 intro w3 g15 hN15
 have hE3:=hN15.ext
 have hX:=hX.ext hE3
 have hB3:=hB3.ext hE3
 have hB6:=hB6.ext hE3
 have hS15:Sl kStr 9 0 w3 (some ⟨g15,0,none⟩) 1 1 [k]:=(B4 (B0:=0) [k] hN15 (Nat.zero_le _) (by simp)).sl
 refine oC Tryz.func66 (Fq (D.most:Int) (D.steps:Int) lf (decide (0≤D.left)) D.done D.down p n c D rfl [k] 0 _ _ _ _ hS15 (by intro s hs';simp only[List.mem_singleton] at hs';subst hs';exact hks)) ?_
 rintro v4 w4 ⟨rfl,hE4⟩
 have hX:=hX.ext hE4
 have hB3:=hB3.ext hE4
 have hB6:=hB6.ext hE4
 refine pA (Ac (t_n (Ab (Aa ?_))))
 refine p1 (Aq ua45 rfl hB3 (by exact sz45)) ?_
 refine pM ?_
 refine oC Tryz.func67 (Ey (D.most:Int) (D.steps:Int) lf (decide (0≤D.left)) D.done D.down D.l p n c _ (hl.ext hX) k (by omega)) ?_
 rintro v5 w5 ⟨rfl,hE5⟩
 have hX:=hX.ext hE5
 have hB3:=hB3.ext hE5
 have hB6:=hB6.ext hE5
 refine pM ?_
 refine p1 (Aj rfl rfl) ?_
 refine p1 (Aj rfl rfl) ?_
 refine pA (pA (Ac (t_n (Ab (Ap (Ab (Aa ?_)))))))
 refine pM ?_
 refine p1 (A2 rfl rfl) ?_
 refine pA (Ac (t_n ?_))
 refine As rfl (fun hc23=>?_) (fun hc23=>?_)
 ·try simp only[dA,dB,dC,dD,dE,dF,dG,Int.not_lt,Int.not_le] at hc23
  have hp:cutD D k m=(D,lookD D [k]):=if_pos hc23
  refine Ab (Aa ?_)
  refine p1 (Aq ua45 rfl hB3 (by exact sz45)) ?_
  refine pM ?_
  refine Al rfl (by conv=>lhs;whnf) (by simp[Value.oneCell']) (by exact sz45) hB6 (by rfl) ?_
  intro w6 hP6
  have hX:=hX.put hP6 (by rw[hN6.g_eq];exact hXs6)
  have hB3:=hP6.keep hB3 (by omega)
  have hB6:=hP6.blk
  refine pA (Ac (t_n (Ao (b_r (t_r ?_)))))
  refine end2c rfl ua45 rfl (by conv=>lhs;whnf) hB6 (by exact sz45) ?_
  exact⟨⟨_,by rw[hp],by rw[hp];exact⟨p,n,c,lf,rfl,hl.ext hX,hlf⟩⟩,hX⟩
 try simp only[dA,dB,dC,dD,dE,dF,dG,Int.not_lt,Int.not_le] at hc23
 refine Ab (Aa ?_)
 refine pM ?_
 refine p1 (Ez rfl) ?_
 refine pA (Ac (t_n ?_))
 refine As rfl (fun hc28=>?_) (fun hc28=>?_)
 ·try simp only[dA,dB,dC,dD,dE,dF,dG,Int.not_lt,Int.not_le] at hc28
  have hnat:¬ isAtA D.l (plcA D.l k) k:=by simpa using hc28
  have hnf:=G9 hok hnat
  have hp:cutD D k m=(D,22):=by unfold cutD;rw[if_neg hc23,if_pos hnf]
  refine Ab (Aa ?_)
  refine p1 (Aq ua45 rfl hB3 (by exact sz45)) ?_
  refine Al rfl (by conv=>lhs;whnf) (by simp[Value.oneCell']) (by exact sz45) hB6 (by rfl) ?_
  intro w7 hP7
  have hX:=hX.put hP7 (by rw[hN6.g_eq];exact hXs6)
  have hB3:=hP7.keep hB3 (by omega)
  have hB6:=hP7.blk
  refine pA (Ac (t_n (Ao (b_r (t_r ?_)))))
  refine end2c rfl ua45 rfl (by conv=>lhs;whnf) hB6 (by exact sz45) ?_
  exact⟨⟨_,by rw[hp],by rw[hp];exact⟨p,n,c,lf,rfl,hl.ext hX,hlf⟩⟩,hX⟩
 try simp only[dA,dB,dC,dD,dE,dF,dG,Int.not_lt,Int.not_le] at hc28
 have hat:isAtA D.l (plcA D.l k) k:=by simpa using hc28
 obtain⟨f,hf,hfa,hfu,hfs,hgf⟩:=Kh hok hat
 have hfr:∀ wz,Ext w wz→wz.rangeAt (ab p) (ao p+plcA D.l k * 3) [.string k,.string (toStr (f.1.take f.2)),.string (toStr (f.1.drop f.2))]:=fun wz hz=>by have:=(hl.ext hz).flRange (plcA D.l k) (by have:=(hat).1;omega);rw[hfa] at this;exact this
 have hplt:plcA D.l k<n:=by have:=(hat).1;omega
 have hne:¬ ascF D.l k=none:=by rw[hf];simp
 have hzs:=Bo f.1
 refine Ak (b_n (t_n (Ab ?_)))
 refine Cy mixed (by kernel_rfl) ?_
 intro w8 hE8
 have hX:=hX.ext hE8
 have hB3:=hB3.ext hE8
 have hB6:=hB6.ext hE8
 refine s1 (Ad Cm sz43 rfl) ?_
 refine s1 (Ae un43 rfl (hB3.cell (rfl))) ?_
 refine s1 (Af (by conv=>lhs;whnf)) ?_
 refine s1 (Cs u43 sz119 rfl rfl ((hl.ext hX).adr Cq (by omega)) (by omega) (by omega)) ?_
 refine s1 (Ad Ke sz9 rfl) ?_
 refine s1 (Ae un9 rfl (hfr _ hX 1 _ rfl)) ?_
 refine s1 (Ad Cm sz43 rfl) ?_
 refine s1 (Ae un43 rfl (hB3.cell (rfl))) ?_
 refine s1 (Af (by conv=>lhs;whnf)) ?_
 refine s1 (Cs u43 sz119 rfl rfl ((hl.ext hX).adr Cq (by omega)) (by omega) (by omega)) ?_
 refine s1 (Ad Kd sz9 rfl) ?_
 refine s1 (Ae un9 rfl (hfr _ hX 2 _ rfl)) ?_
 refine s1 ((Js rfl rfl (by rw[Bo,Bo,List.length_take,List.length_drop];omega)).cast (by rw[Fe,List.take_append_drop])) ?_
 refine s1 (Ah (by conv=>lhs;whnf)) ?_
 refine Bx (t_n (Ab (Ab ?_)))
 have hWr8:=Ext.refl w8
 refine Dn (ι:=Unit) [45,46,47,48,49,50,51,52] (fun _=>[(52,.bool (decide (m<0∨(f.1.length:Int)<m)))]) (fun _ w'=>Ext w8 w') ?_ ?_
 ·skip
  refine Aa ?_
  refine pM ?_
  refine p1 (Bi rfl rfl) ?_
  refine p1b (Af (by conv=>lhs;whnf)) (fun hb8_2=>?_) (fun hb8_2=>?_)
  ·try simp only[dA,dB,dC,dD,dE,dF,dG,Int.not_lt,Int.not_le] at hb8_2
   refine gF 47 (gF 47 (gF 47 (gF 47 ?_)))
   refine p1 (Ax rfl (by conv=>lhs;whnf)) ?_
   refine Ac ?_
   refine t_n (aK () ⟨congrArg Value.bool (by exact(decide_eq_true (by omega)).symm),trivial⟩ hWr8)
  try simp only[dA,dB,dC,dD,dE,dF,dG,Int.not_lt,Int.not_le] at hb8_2
  refine gM 47 (gM 47 ?_)
  refine g1 47 rfl rfl (Dt u9 rfl) ?_
  refine g1 47 rfl rfl (Cw rfl rfl) ?_
  refine p1 (Au rfl (by conv=>lhs;whnf)) ?_
  refine Ac ?_
  refine t_n (aK () ⟨congrArg Value.bool (by exact decide_eq_decide.2 (by omega)),trivial⟩ hWr8)
 rintro _ Gr8 w9 hE9
 have hX:=hX.ext hE9
 have hB3:=hB3.ext hE9
 have hB6:=hB6.ext hE9
 refine t_n ?_
 refine As rfl (fun hc52=>?_) (fun hc52=>?_)
 ·try simp only[dA,dB,dC,dD,dE,dF,dG,Int.not_lt,Int.not_le] at hc52
  have hp:cutD D k m=(D,2):=by unfold cutD;rw[if_neg hc23,if_neg hne,hgf,if_pos hc52]
  refine Ab (Aa ?_)
  refine p1 (Aq ua45 rfl hB3 (by exact sz45)) ?_
  refine Al rfl (by conv=>lhs;whnf) (by simp[Value.oneCell']) (by exact sz45) hB6 (by rfl) ?_
  intro w10 hP10
  have hX:=hX.put hP10 (by rw[hN6.g_eq];exact hXs6)
  have hB3:=hP10.keep hB3 (by omega)
  have hB6:=hP10.blk
  refine pA (Ac (t_n (Ao (t_r ?_))))
  refine end2c rfl ua45 rfl (by conv=>lhs;whnf) hB6 (by exact sz45) ?_
  exact⟨⟨_,by rw[hp],by rw[hp];exact⟨p,n,c,lf,rfl,hl.ext hX,hlf⟩⟩,hX⟩
 try simp only[dA,dB,dC,dD,dE,dF,dG,Int.not_lt,Int.not_le] at hc52
 have hp:cutD D k m=stepD D (insA D.l k (some (f.1.take m.toNat++[],(f.1.take m.toNat).length))) true false:=by unfold cutD;rw[if_neg hc23,if_neg hne,hgf,if_neg hc52,List.append_nil,List.length_take,Nat.min_eq_left (by omega)]
 refine Ak (t_n (Ab ?_))
 refine Bj (fun w1 w2=>Ext w1 w2) mixed ?_
 intro w11 hE11
 have hX:=hX.ext hE11
 have hB3:=hB3.ext hE11
 have hB6:=hB6.ext hE11
 have hSr10:(fun w1 w2=>Ext w1 w2) w11 w11:=Ext.refl w11
 refine hT 0 rfl hSr10 (fun wS hSS=>by(have hB3:=hB3.ext hSS;exact(Aq ua45 rfl hB3 (by exact sz45)))) ?_
 refine hT 1 rfl hSr10 (fun wS hSS=>by(exact(Af (by conv=>lhs;whnf)))) ?_
 refine hT 2 rfl hSr10 (fun wS hSS=>by(exact(Af (by conv=>lhs;whnf)))) ?_
 refine hT 3 rfl hSr10 (fun wS hSS=>by(exact(Af (by conv=>lhs;whnf)))) ?_
 refine hT 4 rfl hSr10 (fun wS hSS=>by(exact(Kk u9 rfl rfl (by omega) (by omega)))) ?_
 refine hT 5 rfl hSr10 (fun wS hSS=>by(exact(Jr pl119 rfl rfl rfl))) ?_
 refine Lq 6 7 _ _ rfl rfl (by kernel_rfl) (A1 (fun Q6 hQ6=>?_)) (A1 (fun Q7 hQ7=>?_))
 ·skip
  refine oC Tryz.func68 (F4 (D.most:Int) (D.steps:Int) lf (decide (0≤D.left)) D.done D.down D.l p n c _ (hl.ext hX) (by omega) k (f.1.take m.toNat) []) ?_
  rintro v12 w12 ⟨⟨px,nx,cx,rfl,hlx⟩,hE12⟩
  have hX:=hX.ext hE12
  have hB3:=hB3.ext hE12
  have hB6:=hB6.ext hE12
  have hSr10:=hSr10.ext hE12
  refine An hQ6 ⟨hSr10,?_⟩
  refine h1L 7 (fun Q7 hQ7=>?_)
  have hXs12:=hX.size
  have hltc12:=hB6.lt
  have hltb12:=hB3.lt
  have h12:=hSr10.size
  refine Ay zr45 ?_
  intro w13 g12 hN12
  have hE13:=hN12.ext
  have hX:=hX.ext hE13
  have hB3:=hB3.ext hE13
  have hB6:=hB6.ext hE13
  have hSr10:=hSr10.ext hE13
  have hlx:=hlx.ext hE13
  have hB12:=hN12.blk
  refine An hQ7 ⟨hSr10,?_⟩
  refine h1L 8 (fun Q8 hQ8=>?_)
  have hg12:=hN12.g_eq
  refine Al rfl (by conv=>lhs;whnf) (by simp[Value.oneCell']) (by exact sz45) hB12 (by rfl) ?_
  intro w14 hP14
  have hX:=hX.put hP14 (by rw[hN12.g_eq];exact hXs12)
  have hB3:=hP14.keep hB3 (by omega)
  have hB6:=hP14.keep hB6 (by omega)
  have hSr10:=hSr10.put hP14 (by rw[hN12.g_eq];exact h12)
  have hlx:=hlx.mod (hP14.mod 0 (Nat.zero_le _)) (Nat.zero_le _) (by decide)
  have hB12:=hP14.blk
  refine An hQ8 ⟨hSr10,?_⟩
  refine A7 (by kernel_rfl) ?_
  refine t_n (Ab ?_)
  refine Bj (fun w1 w2=>ModS (fun j=>j=g6) [45] w1 w2) mixed ?_
  intro w15 hE15
  have hX:=hX.ext hE15
  have hB3:=hB3.ext hE15
  have hB6:=hB6.ext hE15
  have hlx:=hlx.ext hE15
  have hB12:=hB12.ext hE15
  have hSr11:(fun w1 w2=>ModS (fun j=>j=g6) [45] w1 w2) w15 w15:=ModS.refl _ _ _
  refine hT 0 rfl hSr11 (fun wS hSS=>by(have hB3:=hB3.modS hSS (.inl (by omega));have hB12:=hB12.modS hSS (.inl (by omega));exact(Aq ua45 rfl hB3 (by exact sz45)))) ?_
  refine hT 1 rfl hSr11 (fun wS hSS=>by(have hB3:=hB3.modS hSS (.inl (by omega));have hB12:=hB12.modS hSS (.inl (by omega));exact(Aq ua45 rfl hB12 (by exact sz45)))) ?_
  refine hT 2 rfl hSr11 (fun wS hSS=>by(have hB3:=hB3.modS hSS (.inl (by omega));have hB12:=hB12.modS hSS (.inl (by omega));exact(Aq ua45 rfl hB3 (by exact sz45)))) ?_
  refine hT 3 rfl hSr11 (fun wS hSS=>by(have hB3:=hB3.modS hSS (.inl (by omega));have hB12:=hB12.modS hSS (.inl (by omega));exact(Aq ua45 rfl hB12 (by exact sz45)))) ?_
  refine h1L 4 (fun Q4 hQ4=>?_)
  refine oC Tryz.func70 (Er D (insA D.l k (some (f.1.take m.toNat++[],(f.1.take m.toNat).length))) p px n c nx cx lf _ (hl.ext hX) hlx) ?_
  rintro v16 w16 ⟨⟨py,ny,cy,rfl,hly⟩,hE16⟩
  have hX:=hX.ext hE16
  have hB3:=hB3.ext hE16
  have hB6:=hB6.ext hE16
  have hlx:=hlx.ext hE16
  have hB12:=hB12.ext hE16
  have hSr11:=hSr11.ext hE16
  refine An hQ4 ⟨hSr11,?_⟩
  refine h1L 5 (fun Q5 hQ5=>?_)
  refine oC Tryz.func69 (Ew D (insA D.l k (some (f.1.take m.toNat++[],(f.1.take m.toNat).length))) true false p px py n c nx cx ny cy lf _ hlx (hly) hlf hok.left hst (by have:=hlf.lo;omega)) ?_
  rintro v17 w17 ⟨⟨cs,rfl,p9,n9,c9,lf9,rfl,hl9,hlf9⟩,hE17⟩
  have hX:=hX.ext hE17
  have hB3:=hB3.ext hE17
  have hB6:=hB6.ext hE17
  have hB12:=hB12.ext hE17
  have hSr11:=hSr11.ext hE17
  refine An hQ5 ⟨hSr11,?_⟩
  refine hT 6 rfl hSr11 (fun wS hSS=>by(exact(Aj rfl rfl))) ?_
  refine hT 7 rfl hSr11 (fun wS hSS=>by(exact(Aj rfl rfl))) ?_
  refine h1L 8 (fun Q8 hQ8=>?_)
  refine Al rfl (by conv=>lhs;whnf) (by simp[Value.oneCell']) (by exact sz45) hB6 (by rfl) ?_
  intro w18 hP18
  have hX:=hX.put hP18 (by rw[hN6.g_eq];exact hXs6)
  have hB3:=hP18.keep hB3 (by omega)
  have hB6:=hP18.blk
  have hB12:=hP18.keep hB12 (by omega)
  have hSr11:=hSr11.put hP18 ⟨.inl rfl,by decide⟩
  have hl9:=hl9.mod (hP18.mod 0 (Nat.zero_le _)) (Nat.zero_le _) (by decide)
  refine An hQ8 ⟨hSr11,?_⟩
  refine hT 9 rfl hSr11 (fun wS hSS=>by(exact(Ah (by conv=>lhs;whnf)))) ?_
  refine A7 (by kernel_rfl) ?_
  refine t_n (Ao ?_)
  refine end2c rfl ua45 rfl (by conv=>lhs;whnf) hB6 (by exact sz45) ?_
  exact⟨⟨_,by rw[hp],by rw[hp];exact⟨p9,n9,c9,lf9,rfl,hl9,hlf9⟩⟩,hX⟩
 skip
 have hXs12:=hX.size
 have hltc12:=hB6.lt
 have hltb12:=hB3.lt
 have h12:=hSr10.size
 refine Ay zr45 ?_
 intro w19 g12 hN12
 have hE19:=hN12.ext
 have hX:=hX.ext hE19
 have hB3:=hB3.ext hE19
 have hB6:=hB6.ext hE19
 have hSr10:=hSr10.ext hE19
 have hB12:=hN12.blk
 refine An hQ7 ⟨hSr10,?_⟩
 refine h1L 6 (fun Q6 hQ6=>?_)
 refine oC Tryz.func68 (F4 (D.most:Int) (D.steps:Int) lf (decide (0≤D.left)) D.done D.down D.l p n c _ (hl.ext hX) (by omega) k (f.1.take m.toNat) []) ?_
 rintro v20 w20 ⟨⟨px,nx,cx,rfl,hlx⟩,hE20⟩
 have hX:=hX.ext hE20
 have hB3:=hB3.ext hE20
 have hB6:=hB6.ext hE20
 have hSr10:=hSr10.ext hE20
 have hB12:=hB12.ext hE20
 refine An hQ6 ⟨hSr10,?_⟩
 refine h1L 8 (fun Q8 hQ8=>?_)
 have hg12:=hN12.g_eq
 refine Al rfl (by conv=>lhs;whnf) (by simp[Value.oneCell']) (by exact sz45) hB12 (by rfl) ?_
 intro w21 hP21
 have hX:=hX.put hP21 (by rw[hN12.g_eq];exact hXs12)
 have hB3:=hP21.keep hB3 (by omega)
 have hB6:=hP21.keep hB6 (by omega)
 have hSr10:=hSr10.put hP21 (by rw[hN12.g_eq];exact h12)
 have hB12:=hP21.blk
 have hlx:=hlx.mod (hP21.mod 0 (Nat.zero_le _)) (Nat.zero_le _) (by decide)
 refine An hQ8 ⟨hSr10,?_⟩
 refine A7 (by kernel_rfl) ?_
 refine t_n (Ab ?_)
 refine Bj (fun w1 w2=>ModS (fun j=>j=g6) [45] w1 w2) mixed ?_
 intro w22 hE22
 have hX:=hX.ext hE22
 have hB3:=hB3.ext hE22
 have hB6:=hB6.ext hE22
 have hB12:=hB12.ext hE22
 have hlx:=hlx.ext hE22
 have hSr11:(fun w1 w2=>ModS (fun j=>j=g6) [45] w1 w2) w22 w22:=ModS.refl _ _ _
 refine hT 0 rfl hSr11 (fun wS hSS=>by(have hB3:=hB3.modS hSS (.inl (by omega));have hB12:=hB12.modS hSS (.inl (by omega));exact(Aq ua45 rfl hB3 (by exact sz45)))) ?_
 refine hT 1 rfl hSr11 (fun wS hSS=>by(have hB3:=hB3.modS hSS (.inl (by omega));have hB12:=hB12.modS hSS (.inl (by omega));exact(Aq ua45 rfl hB12 (by exact sz45)))) ?_
 refine hT 2 rfl hSr11 (fun wS hSS=>by(have hB3:=hB3.modS hSS (.inl (by omega));have hB12:=hB12.modS hSS (.inl (by omega));exact(Aq ua45 rfl hB3 (by exact sz45)))) ?_
 refine hT 3 rfl hSr11 (fun wS hSS=>by(have hB3:=hB3.modS hSS (.inl (by omega));have hB12:=hB12.modS hSS (.inl (by omega));exact(Aq ua45 rfl hB12 (by exact sz45)))) ?_
 refine h1L 4 (fun Q4 hQ4=>?_)
 refine oC Tryz.func70 (Er D (insA D.l k (some (f.1.take m.toNat++[],(f.1.take m.toNat).length))) p px n c nx cx lf _ (hl.ext hX) hlx) ?_
 rintro v23 w23 ⟨⟨py,ny,cy,rfl,hly⟩,hE23⟩
 have hX:=hX.ext hE23
 have hB3:=hB3.ext hE23
 have hB6:=hB6.ext hE23
 have hB12:=hB12.ext hE23
 have hlx:=hlx.ext hE23
 have hSr11:=hSr11.ext hE23
 refine An hQ4 ⟨hSr11,?_⟩
 refine h1L 5 (fun Q5 hQ5=>?_)
 refine oC Tryz.func69 (Ew D (insA D.l k (some (f.1.take m.toNat++[],(f.1.take m.toNat).length))) true false p px py n c nx cx ny cy lf _ hlx (hly) hlf hok.left hst (by have:=hlf.lo;omega)) ?_
 rintro v24 w24 ⟨⟨cs,rfl,p9,n9,c9,lf9,rfl,hl9,hlf9⟩,hE24⟩
 have hX:=hX.ext hE24
 have hB3:=hB3.ext hE24
 have hB6:=hB6.ext hE24
 have hB12:=hB12.ext hE24
 have hSr11:=hSr11.ext hE24
 refine An hQ5 ⟨hSr11,?_⟩
 refine hT 6 rfl hSr11 (fun wS hSS=>by(exact(Aj rfl rfl))) ?_
 refine hT 7 rfl hSr11 (fun wS hSS=>by(exact(Aj rfl rfl))) ?_
 refine h1L 8 (fun Q8 hQ8=>?_)
 refine Al rfl (by conv=>lhs;whnf) (by simp[Value.oneCell']) (by exact sz45) hB6 (by rfl) ?_
 intro w25 hP25
 have hX:=hX.put hP25 (by rw[hN6.g_eq];exact hXs6)
 have hB3:=hP25.keep hB3 (by omega)
 have hB6:=hP25.blk
 have hB12:=hP25.keep hB12 (by omega)
 have hSr11:=hSr11.put hP25 ⟨.inl rfl,by decide⟩
 have hl9:=hl9.mod (hP25.mod 0 (Nat.zero_le _)) (Nat.zero_le _) (by decide)
 refine An hQ8 ⟨hSr11,?_⟩
 refine hT 9 rfl hSr11 (fun wS hSS=>by(exact(Ah (by conv=>lhs;whnf)))) ?_
 refine A7 (by kernel_rfl) ?_
 refine t_n (Ao ?_)
 refine end2c rfl ua45 rfl (by conv=>lhs;whnf) hB6 (by exact sz45) ?_
 exact⟨⟨_,by rw[hp],by rw[hp];exact⟨p9,n9,c9,lf9,rfl,hl9,hlf9⟩⟩,hX⟩
theorem Aak (D:DS) (p:Option Addr) (n c:Nat) (lf:Int) (w:World) (hl:Sl kFl 119 0 w p n c D.l) (hlf:LfOk D lf) (hok:DOk D) (hst:D.steps<4611686018427387904) (m:Int) (hm1:-9223372036854775808≤m) (hm2:m≤9223372036854775807) (dn:Bool) :
    Ret Tryz.prog 25 [.agg #[.int .i64 (D.most:Int),.slice p n c,.int .i64 (D.steps:Int),.bool (decide (0≤D.left)),.int .i64 lf,.bool D.done,.bool D.down],.int .i64 m,.bool dn] w (fun v w'=>(∃ cs,v = .tuple #[.agg cs,.int .i64 (failD D m dn).2]∧RefV w' cs (failD D m dn).1)∧Ext w w'):=by
 have hX:=Ext.refl w
 refine eN 20 Tryz.func25 ?_
 refine Ab (Aa ?_)
 have hXs3:=hX.size
 refine Bu (by conv=>lhs;whnf) ?_
 intro w1 g3 hN3
 have hE1:=hN3.ext
 have hX:=hX.ext hE1
 have hB3:=hN3.blk
 have hXs6:=hX.size
 have hlt3:=hB3.lt
 refine Ay zr45 ?_
 intro w2 g6 hN6
 have hE2:=hN6.ext
 have hX:=hX.ext hE2
 have hB3:=hB3.ext hE2
 have hB6:=hN6.blk
 refine pA (Ac (t_n (Ab (Ab ?_))))
 have hg6:=hN6.g_eq
 refine Aa ?_
 refine p1 (Ad S5 sz4 rfl) ?_
 refine p1 (Ae un4 rfl (hB3.cell (rfl))) ?_
 refine Ac (t_n ?_)
 refine Dm rfl (fun hc9=>?_) (fun hc9=>?_)
 ·have hp:failD D m dn=(D,20):=if_pos hc9
  refine Ab (Aa ?_)
  refine p1 (Aq ua45 rfl hB3 (by exact sz45)) ?_
  refine Al rfl (by conv=>lhs;whnf) (by simp[Value.oneCell']) (by exact sz45) hB6 (by rfl) ?_
  intro w3 hP3
  have hX:=hX.put hP3 (by rw[hN6.g_eq];exact hXs6)
  have hB3:=hP3.keep hB3 (by omega)
  have hB6:=hP3.blk
  refine pA (Ac (t_n (Ao (t_r ?_))))
  refine end2c rfl ua45 rfl (by conv=>lhs;whnf) hB6 (by exact sz45) ?_
  exact⟨⟨_,by rw[hp],by rw[hp];exact⟨p,n,c,lf,rfl,hl.ext hX,hlf⟩⟩,hX⟩
 have hnd:¬ D.down=true:=by simpa using hc9
 refine Ak (t_n (Ab (Ab (Aa ?_))))
 refine pM ?_
 refine p1 (Bi rfl rfl) ?_
 refine Ac (t_n ?_)
 refine As rfl (fun hc12=>?_) (fun hc12=>?_)
 ·have hp:failD D m dn=(D,2):=by unfold failD;rw[if_neg hnd,if_pos hc12]
  refine Ab (Aa ?_)
  refine p1 (Aq ua45 rfl hB3 (by exact sz45)) ?_
  refine Al rfl (by conv=>lhs;whnf) (by simp[Value.oneCell']) (by exact sz45) hB6 (by rfl) ?_
  intro w4 hP4
  have hX:=hX.put hP4 (by rw[hN6.g_eq];exact hXs6)
  have hB3:=hP4.keep hB3 (by omega)
  have hB6:=hP4.blk
  refine pA (Ac (t_n (Ao (t_r ?_))))
  refine end2c rfl ua45 rfl (by conv=>lhs;whnf) hB6 (by exact sz45) ?_
  exact⟨⟨_,by rw[hp],by rw[hp];exact⟨p,n,c,lf,rfl,hl.ext hX,hlf⟩⟩,hX⟩
 have hp:failD D m dn=({ D with left:=m,done:=dn },0):=by unfold failD;rw[if_neg hnd,if_neg (by omega)]
 have harm:decide (0≤m)=true:=decide_eq_true (by omega)
 refine Ak (t_n (Ab (Aa ?_)))
 refine p1 (Ad S7 sz4 rfl) ?_
 refine Aw rfl (by conv=>lhs;whnf) rfl rfl sz4 hB3 (by simp) ?_
 intro w5 hP5
 have hX:=hX.put hP5 (by rw[hN3.g_eq];exact hXs3)
 have hB3:=hP5.blk
 try simp only[List.setIfInBounds_toArray,List.set_cons_zero,List.set_cons_succ] at hB3
 have hB6:=hP5.keep hB6 (by omega)
 refine Ac (t_n (Ab (Aa ?_)))
 refine pM ?_
 refine p1 (Ad S6 sz3 rfl) ?_
 refine Aw rfl (by conv=>lhs;whnf) rfl rfl sz3 hB3 (by simp) ?_
 intro w6 hP6
 have hX:=hX.put hP6 (by rw[hN3.g_eq];exact hXs3)
 have hB3:=hP6.blk
 try simp only[List.setIfInBounds_toArray,List.set_cons_zero,List.set_cons_succ] at hB3
 have hB6:=hP6.keep hB6 (by omega)
 refine Ac (t_n (Ab (Aa ?_)))
 refine pM ?_
 refine p1 (Ad Abp sz4 rfl) ?_
 refine Aw rfl (by conv=>lhs;whnf) rfl rfl sz4 hB3 (by simp) ?_
 intro w7 hP7
 have hX:=hX.put hP7 (by rw[hN3.g_eq];exact hXs3)
 have hB3:=hP7.blk
 try simp only[List.setIfInBounds_toArray,List.set_cons_zero,List.set_cons_succ] at hB3
 have hB6:=hP7.keep hB6 (by omega)
 refine Ac (t_n (Ab (Aa ?_)))
 refine p1 (Aq ua45 rfl hB3 (by exact sz45)) ?_
 refine Al rfl (by conv=>lhs;whnf) (by simp[Value.oneCell']) (by exact sz45) hB6 (by rfl) ?_
 intro w8 hP8
 have hX:=hX.put hP8 (by rw[hN6.g_eq];exact hXs6)
 have hB3:=hP8.keep hB3 (by omega)
 have hB6:=hP8.blk
 refine pA (Ac (t_n (Ao ?_)))
 refine end2c rfl ua45 rfl (by conv=>lhs;whnf) hB6 (by exact sz45) ?_
 exact⟨⟨_,by rw[hp],by rw[hp];exact⟨p,n,c,m,by rw[← harm],hl.ext hX,⟨fun _=>rfl,by omega,hm2⟩⟩⟩,hX⟩
theorem O4 (D:DS) (p:Option Addr) (n c:Nat) (lf:Int) (w:World) (hl:Sl kFl 119 0 w p n c D.l) (hlf:LfOk D lf) (hok:DOk D) (hst:D.steps<4611686018427387904) (k:ByteArray) (hks:k.size≤9223372036854775807) :
    Ret Tryz.prog 74 [.agg #[.int .i64 (D.most:Int),.slice p n c,.int .i64 (D.steps:Int),.bool (decide (0≤D.left)),.int .i64 lf,.bool D.done,.bool D.down],.string k] w (fun v w'=>v = .tuple #[.string (toStr (readD D k).1),.int .i64 (readD D k).2]∧Ext w w'):=by
 have hX:=Ext.refl w
 refine eN 39 Tryz.func74 ?_
 refine Ab (Aa ?_)
 refine Bu (by conv=>lhs;whnf) ?_
 intro w1 g2 hN2
 have hE1:=hN2.ext
 have hX:=hX.ext hE1
 have hB2:=hN2.blk
 refine pA (pA (Ac (t_n (Ab ?_))))
 have hlen:=hl.len
 have hcap:=hl.cap
 have hple:=Gh D.l k
 have hfew:=hok.few
 have hroom:=hok.room
 have hmost:=hok.most
 refine Aa ?_
 refine p1 (Aq ua45 rfl hB2 (by exact sz45)) ?_
 refine pM ?_
 refine Av u74 inf9 rfl (by decide) (fun base hb=>Br (by rfl) base hb) ?_
 intro w2 g11 hN11
 have hE2:=hN11.ext
 have hX:=hX.ext hE2
 have hB2:=hB2.ext hE2
 have hS11:Sl kStr 9 0 w2 (some ⟨g11,0,none⟩) 1 1 [k]:=(B4 (B0:=0) [k] hN11 (Nat.zero_le _) (by simp)).sl
 refine oC Tryz.func66 (Fq (D.most:Int) (D.steps:Int) lf (decide (0≤D.left)) D.done D.down p n c D rfl [k] 0 _ _ _ _ hS11 (by intro s hs';simp only[List.mem_singleton] at hs';subst hs';exact hks)) ?_
 rintro v3 w3 ⟨rfl,hE3⟩
 have hX:=hX.ext hE3
 have hB2:=hB2.ext hE3
 refine pA (Ac (t_n (Ab (Aa ?_))))
 refine p1 (Aq ua45 rfl hB2 (by exact sz45)) ?_
 refine pM ?_
 refine oC Tryz.func67 (Ey (D.most:Int) (D.steps:Int) lf (decide (0≤D.left)) D.done D.down D.l p n c _ (hl.ext hX) k (by omega)) ?_
 rintro v4 w4 ⟨rfl,hE4⟩
 have hX:=hX.ext hE4
 have hB2:=hB2.ext hE4
 refine pM ?_
 refine p1 (Aj rfl rfl) ?_
 refine p1 (Aj rfl rfl) ?_
 refine pA (pA (Ac (t_n (Ab (Ap (Ab (Aa ?_)))))))
 refine pM ?_
 refine p1 (A2 rfl rfl) ?_
 refine pA (Ac (t_n ?_))
 refine As rfl (fun hc19=>?_) (fun hc19=>?_)
 ·have hp:readD D k=([],lookD D [k]):=if_pos hc19
  refine Ab (Aa ?_)
  refine pM (pA (pA (Ac (t_n (Ao (b_r (t_r ?_)))))))
  refine eR2 ?_
  refine⟨?_,hX⟩
  rw[hp]
  try rfl
 refine Ab (Aa ?_)
 refine pM ?_
 refine p1 (Ez rfl) ?_
 refine pA (Ac (t_n ?_))
 refine As rfl (fun hc23=>?_) (fun hc23=>?_)
 ·have hnat:¬ isAtA D.l (plcA D.l k) k:=by simpa using hc23
  have hnf:=G9 hok hnat
  have hp:readD D k=([],22):=by unfold readD;rw[if_neg hc19,if_pos hnf]
  refine Ab (Aa ?_)
  refine pA (pA (Ac (t_n (Ao (b_r (t_r ?_))))))
  refine eR2 ?_
  refine⟨?_,hX⟩
  rw[hp]
  try rfl
 have hat:isAtA D.l (plcA D.l k) k:=by simpa using hc23
 obtain⟨f,hf,hfa,hfu,hfs,hgf⟩:=Kh hok hat
 have hfr:∀ wz,Ext w wz→wz.rangeAt (ab p) (ao p+plcA D.l k * 3) [.string k,.string (toStr (f.1.take f.2)),.string (toStr (f.1.drop f.2))]:=fun wz hz=>by have:=(hl.ext hz).flRange (plcA D.l k) (by have:=(hat).1;omega);rw[hfa] at this;exact this
 have hplt:plcA D.l k<n:=by have:=(hat).1;omega
 have hne:¬ ascF D.l k=none:=by rw[hf];simp
 have hp:readD D k=(f.1,0):=by unfold readD;rw[if_neg hc19,if_neg hne,hgf]
 refine Ak (b_n (t_n (Ab ?_)))
 refine Cy mixed (by kernel_rfl) ?_
 intro w5 hE5
 have hX:=hX.ext hE5
 have hB2:=hB2.ext hE5
 refine s1 (Ad Cm sz43 rfl) ?_
 refine s1 (Ae un43 rfl (hB2.cell (rfl))) ?_
 refine s1 (Af (by conv=>lhs;whnf)) ?_
 refine s1 (Cs u43 sz119 rfl rfl ((hl.ext hX).adr Cq (by omega)) (by omega) (by omega)) ?_
 refine s1 (Ad Ke sz9 rfl) ?_
 refine s1 (Ae un9 rfl (hfr _ hX 1 _ rfl)) ?_
 refine s1 (Ad Cm sz43 rfl) ?_
 refine s1 (Ae un43 rfl (hB2.cell (rfl))) ?_
 refine s1 (Af (by conv=>lhs;whnf)) ?_
 refine s1 (Cs u43 sz119 rfl rfl ((hl.ext hX).adr Cq (by omega)) (by omega) (by omega)) ?_
 refine s1 (Ad Kd sz9 rfl) ?_
 refine s1 (Ae un9 rfl (hfr _ hX 2 _ rfl)) ?_
 refine s1 ((Js rfl rfl (by rw[Bo,Bo,List.length_take,List.length_drop];omega)).cast (by rw[Fe,List.take_append_drop])) ?_
 refine s1 (Ah (by conv=>lhs;whnf)) ?_
 refine s1 (Ah (by conv=>lhs;whnf)) ?_
 refine Bx (t_n (Ao ?_))
 refine eR2 ?_
 refine⟨?_,hX⟩
 rw[hp]
 try rfl
theorem Ac3 (most:Int) (w:World) :
    Ret Tryz.prog 17 [.int .i64 most] w (fun v w'=>(∃ cs,v = .agg cs∧RefV w' cs (newD most))∧Ext w w'):=by
 have hX:=Ext.refl w
 refine eN 7 Tryz.func17 ?_
 refine Ab (Aa ?_)
 have hXs2:=hX.size
 refine Ay zr45 ?_
 intro w1 g2 hN2
 have hE1:=hN2.ext
 have hX:=hX.ext hE1
 have hB2:=hN2.blk
 refine Ac (t_n (Ab (Aa ?_)))
 refine pM ?_
 refine p1 ((Zr rfl rfl).cast (congrArg (Value.int .i64) (by split <;> omega:_=min most 16777216))) ?_
 have hmx:(((newD most).most:Nat):Int)=max 0 (min most 16777216):=by show (((max 0 (min most 16777216)).toNat:Nat):Int)=_;omega
 refine p1 ((Zs rfl rfl).cast (congrArg (Value.int .i64) (by split <;> omega:_=(((newD most).most:Nat):Int)))) ?_
 refine p1 (Yf pl45 rfl) ?_
 refine Al rfl (by conv=>lhs;whnf) (by simp[Value.oneCell']) (by exact sz45) hB2 (by rfl) ?_
 intro w2 hP2
 have hX:=hX.put hP2 (by rw[hN2.g_eq];exact hXs2)
 have hB2:=hP2.blk
 refine Ac (t_n (Ao ?_))
 refine end1c rfl ua45 rfl hB2 (by exact sz45) ?_
 exact⟨⟨_,rfl,none,0,0,0,rfl,Sl.nil _ _ _ _ _ _ (by omega),⟨fun h=>by have h:(0:Int)≤-1:=h;omega,by omega,by omega⟩⟩,hX⟩
end Go.Proofs.Eng
end
section
set_option maxRecDepth 100000
set_option maxHeartbeats 4000000
namespace Go.Proofs.Eng
open Go.RowKit
open Extern.Stop (cell)
theorem fb100:Tryz.f100.body.isNone=false:=by kernel_rfl
theorem fb101:Tryz.f101.body.isNone=false:=by kernel_rfl
theorem fb98:Tryz.f98.body.isNone=false:=by kernel_rfl
theorem fb99:Tryz.f99.body.isNone=false:=by kernel_rfl
theorem fn100 : ngB Tryz.f100 = false := by kernel_rfl
theorem fn101 : ngB Tryz.f101 = false := by kernel_rfl
theorem fn98 : ngB Tryz.f98 = false := by kernel_rfl
theorem fn99 : ngB Tryz.f99 = false := by kernel_rfl
theorem inf95:(Tryz.prog.info? 95).map (fun i=>(i.zero,i.size,i.bytes))=some (some (.nilFunc),1,8):=by kernel_rfl
theorem sz95:(Tryz.prog.info? 95).map (·.size)=some 1:=by kernel_rfl
theorem u149:Tryz.prog.underlying 149=some (.slice 95):=by kernel_rfl
theorem un95:(Tryz.prog.underlying 95).map TypeDesc.isRow=some false:=by kernel_rfl
theorem zr23:(Tryz.prog.info? 23).map (·.zero)=some (some (.slice none 0 0)):=by kernel_rfl
end Go.Proofs.Eng
end
