import Derived.Test.YtlmfpocifkpggaaGreatDoorCr2
import Derived.Test.YtlmfpocifkpggaaGreatDoorProg
import Derived.Test.YtlmfpocifkpggaaGreatDoorSh
set_option linter.unusedVariables false
set_option linter.unusedSimpArgs false
set_option linter.unusedSectionVars false
section
namespace Go.Proofs.Eng
open Go.RowKit
open Extern.Stop (cell)
section
variable {P : Program} {Q : Exit → Act → World → Prop} {n : Nat} {f : Nat → Value} {w : World}
theorem Tq {α:Type} {g:Operand} {ps:List Nat} {assign body:Code} {gf:FuncId} {lb:List Value} {encs:α→List Value} {E:World→World→Prop} {S Sp:List α→Prop} {X:List α→α→World→Prop} {Rl:World→World→Prop} {fn:Func}
    (I:List α→World→Prop) (Ix:Code→List α→World→Prop) (hEe:∀ A B,Ext A B→E A B)
    (hg : ev n f g = .func (.func gf) #[] lb.toArray) (hfn : P.funcs[gf]? = some fn) (hn : (fn.name == "runtime.NumGoroutine") = false) (hb : fn.body.isNone = false)
    (hEs:∀ A B,E A B→A.heap.size≤B.heap.size) (hEl:∀ A B,Lp w.heap.size A B→E A B) (hEt:∀ A B C,E A B→E B C→E A C) (hseq:SeqOk P gf lb encs E S Sp X Rl w) (hRe:∀ A B,Ext A B→Rl A B) (hRl:∀ A B,Rl A B→A.heap.size≤B.heap.size∧∀ k,ty A k=none→k<A.heap.size→B.heap[k]? = A.heap[k]?) (hXx:∀ s x A B,X s x A→Lp w.heap.size A B→X s x B) (hps:∀ x,(encs x).length=ps.length)
    (hIe:∀ s A B,I s A→Rl A B→I s B) (hIl:∀ s A B,I s A→Lp w.heap.size A B→I s B) (hXe:∀ c s A B,Ix c s A→Rl A B→Ix c s B) (hXl:∀ c s A B,Ix c s A→Lp w.heap.size A B→Ix c s B)
    (h0:I [] w)
    (hround:∀ l pre x W,w.heap.size≤W.heap.size→I pre W→X pre x W→Wf (some l) P assign (Exit.then (fun a W2=>∃ f₁:Nat→Value,a=fr n f₁∧Ext W W2∧∀ W3,Lp w.heap.size W2 W3→Wf (some l) P body (Nm E I Ix (pre++[x]) W3) (fr n f₁) W3) noQ) (fr n (updR (updP f (ps.zip (encs x))) sp undef)) W)
    (hdone:∀ D xs W,w.heap.size≤D→S xs→I xs W→Dfr W D→decD (f sp)=decD (f sp)→Q .normal { fr n f with defers:={ target := .collected D,args:=#[] } :: decD (f sp) } W)
    (hstop:∀ D c pre W,w.heap.size≤D→Sp pre→Ix c pre W→Dfr W D→Wp P c Q { fr n f with defers:={ target := .collected D,args:=#[] } :: decD (f sp) } W) :
    Wp P (Code.rangeFunc g ps.toArray assign body) Q (fr n f) w:=by
  refine Wf.toWp ⟨?_⟩
  refine wpIn_rangeFunc ?_
  intro fnid _
  obtain⟨rec,hrec⟩:∃ rec:LoopState→Option Code→Loop,rec=fun st pe=>{ state:=st,pending:=pe,fn:=fnid,tmps:=(fr n f).tmps,params:=ps.toArray,assign,body,defers:=w.heap.size }:=⟨_,rfl⟩
  obtain⟨W1,hW1⟩:∃ W1,(w.alloc (.deferred (some []))).alloc (.loop (rec .ready none))=W1:=⟨_,rfl⟩
  have hL1:W1.heap[w.heap.size+1]? = some (.loop (rec .ready none)):=by
    rw[← hW1];have:=World.alloc_heap_new (w.alloc (.deferred (some []))) (.loop (rec .ready none));rwa [World.size_alloc] at this
  have hK1:Dfr W1 w.heap.size:=by
    unfold Dfr
    rw[← hW1];exact(Below.heap_alloc _ _ _ (by simp)).trans (World.alloc_heap_new w _)
  have hx1:Ext w W1:=by rw[← hW1];exact(Ext.alloc _ _).trans (Ext.alloc _ _)
  have hI1:I [] W1:=hIe _ _ _ h0 (hRe _ _ hx1)
  refine⟨w.heap.size+1,[{ target := .collected w.heap.size,args:=#[] }],W1,{ target := .fn (.func gf) lb.toArray,args:=#[.func (.yield (w.heap.size+1)) #[] #[]] },W1,gf,
    (.func (.yield (w.heap.size+1)) #[] #[] :: lb).toArray,W1,?_,?_,fun _ _=>trivial,?_,fun hd=>(by cases hd),?_⟩
  · rw[← hW1,hrec];exact run_enterLoop_outer _ _ _ _ _
  · simp only [resolve, A9, hg]
    simp[Deferred.ofValue,Sem.run_bind]
    rfl
  · have hn' : ¬ fn.name = "runtime.NumGoroutine" := by simpa using hn
    have hb':¬ fn.body=none:=by intro e;rw[e] at hb;cases hb
    simp[invoke,callFunc,hfn,hn',hb',Sem.run_bind,Sem.run]
  · have lty : ∀ {W : World} {r : Loop} {k : Nat}, W.heap[k]? = some (.loop r) → ty W k = none := fun h => by unfold ty; rw [h]
    refine (callsIn_wide (n:=0)).2 (Calls.mono (hseq.out (w.heap.size+1)
      (fun pre W=>(I pre W∧w.heap.size≤W.heap.size)∧W.heap[w.heap.size+1]? = some (.loop (rec .ready none))∧Dfr W w.heap.size)
      (fun pre W=>∃ c,Ix c pre W∧W.heap[w.heap.size+1]? = some (.loop (rec .done (some c)))∧Dfr W w.heap.size)
      W1 hx1
      (fun s A B hs hx=>⟨⟨hIe _ _ _ hs.1.1 hx,Nat.le_trans hs.1.2 (hRl _ _ hx).1⟩,((hRl _ _ hx).2 _ (lty hs.2.1) (Array.getElem?_eq_some_iff.1 hs.2.1).1).trans hs.2.1,((hRl _ _ hx).2 _ (I9 hs.2.2) (Ja hs.2.2)).trans hs.2.2⟩)
      (fun s A B hs hx=>by obtain⟨c,h1,h2,h3⟩:=hs;exact⟨c,hXe _ _ _ _ h1 hx,((hRl _ _ hx).2 _ (lty h2) (Array.getElem?_eq_some_iff.1 h2).1).trans h2,((hRl _ _ hx).2 _ (I9 h3) (Ja h3)).trans h3⟩)
      ?_ ⟨⟨hI1,hx1.size⟩,hL1,hK1⟩) ?_)
    · -- one round
      rintro pre x W ⟨⟨hi,hsz⟩,hl,hk⟩ hlen
      have hlt:w.heap.size+1<W.heap.size:=(Array.getElem?_eq_some_iff.1 hl).1
      have hy:=run_yield (P:=P) (args:=(encs x).toArray) hl (by rw[hrec];simp[hps x])
      rw[hrec] at hy
      refine⟨fnid,_,assign,body,hy,roundIn_of_wpIn trivial ?_⟩
      have hfr:({ tmps:=((ps.toArray.zip (encs x).toArray).foldl (fun (t:Array Value) (p:Nat×Value)=>match p with | (p,v)=>t.setIfInBounds p v) (fr n f).tmps),defers:=[] }:Act)=fr n (updR (updP f (ps.zip (encs x))) sp undef):=by
        rw[← M4]
        congr 1
        rw[← Mg]
        simp
      refine (congrArg (fun a=>Code.wpIn _ _ P assign _ a W) hfr).mpr ?_
      refine wpIn_mono (hround (w.heap.size+1) pre x W hsz hi hlen).out ?_
      rintro e a2 W2 hq
      cases e with
      | normal =>
        obtain⟨f₁,rfl,hxa,hbd⟩:=hq
        have hl:=(hxa.old _ hlt).trans hl
        have hk:=(hxa.old _ (Ja hk)).trans hk
        have hlt:w.heap.size+1<W2.heap.size:=Nat.lt_of_lt_of_le hlt hxa.size
        have hsz:w.heap.size≤W2.heap.size:=Nat.le_trans hsz hxa.size
        have hb0:Lp w.heap.size W2 (W2.putObj (w.heap.size+1) (.loop { rec .ready none with state := .busy })):=Lp.put hl (lty hl) (by omega)
        refine⟨_,run_beginRound hl (by rw[hrec]),?_⟩
        have hl2:(W2.putObj (w.heap.size+1) (.loop { rec .ready none with state := .busy })).heap[w.heap.size+1]? = some (.loop { rec .ready none with state := .busy }):=World.putObj_heap_same hlt
        have hk2:Dfr (W2.putObj (w.heap.size+1) (.loop { rec .ready none with state := .busy })) w.heap.size:=(World.putObj_heap_other (by omega)).trans hk
        refine wpIn_mono (hbd _ hb0).out ?_
        have fin:∀ (jump:Option Code) (W3:World),(∀ k,ty (W2.putObj (w.heap.size+1) (.loop { rec .ready none with state := .busy })) k=none→k<(W2.putObj (w.heap.size+1) (.loop { rec .ready none with state := .busy })).heap.size→W3.heap[k]? = (W2.putObj (w.heap.size+1) (.loop { rec .ready none with state := .busy })).heap[k]?) →
            (Instr.endRound (w.heap.size+1) jump).run P W3 = .ok (.bool jump.isNone) (W3.putObj (w.heap.size+1) (.loop (rec (if jump.isNone then .ready else .done) jump))) ∧
            Lp w.heap.size W3 (W3.putObj (w.heap.size+1) (.loop (rec (if jump.isNone then .ready else .done) jump))) ∧
            (W3.putObj (w.heap.size+1) (.loop (rec (if jump.isNone then .ready else .done) jump))).heap[w.heap.size+1]? = some (.loop (rec (if jump.isNone then .ready else .done) jump)) ∧
            Dfr (W3.putObj (w.heap.size+1) (.loop (rec (if jump.isNone then .ready else .done) jump))) w.heap.size:=fun jump W3 hk3=>by
          have hl3:=(hk3 _ (lty hl2) (Array.getElem?_eq_some_iff.1 hl2).1).trans hl2
          have:=run_endRound (P:=P) jump hl3
          rw[hrec] at this ⊢
          exact⟨this,Lp.put hl3 (lty hl3) (by omega),World.putObj_heap_same (Array.getElem?_eq_some_iff.1 hl3).1,(World.putObj_heap_other (by omega)).trans ((hk3 _ (I9 hk2) (Ja hk2)).trans hk2)⟩
        rintro e a3 W3 hp
        cases e with
        | normal =>
          obtain⟨hr3,hk3,hi3⟩:=hp
          obtain⟨hr,hlp,hl4,hk4⟩:=fin none W3 hk3
          refine⟨_,_,hr,.inl ⟨rfl,⟨⟨hIl _ _ _ hi3 hlp,?_⟩,hl4,hk4⟩,hEt _ _ _ (hEt _ _ _ (hEt _ _ _ (hEe _ _ hxa) (hEl _ _ hb0)) hr3) (hEl _ _ hlp)⟩⟩
          have h1:=hEs _ _ hr3
          have h2:=hb0.size
          have h3:=hlp.size
          omega
        | ret =>
          obtain⟨hk3,hi3⟩:=hp
          obtain⟨hr,hlp,hl4,hk4⟩:=fin (some .ret) W3 hk3
          exact⟨_,_,hr,.inr ⟨rfl,.ret,hXl _ _ _ _ hi3 hlp,hl4,hk4⟩⟩
        | exit id =>
          obtain⟨hk3,hi3⟩:=hp
          obtain⟨hr,hlp,hl4,hk4⟩:=fin (some (.exit id)) W3 hk3
          exact⟨_,_,hr,.inr ⟨rfl,.exit id,hXl _ _ _ _ hi3 hlp,hl4,hk4⟩⟩
        | goto t=>exact hp.elim
        | panic ch=>exact hp.elim
        | outgrown=>exact hp.elim
      | _=>exact hq.elim
    · -- behind the iterator
      rintro e W2 ⟨⟨v,rfl⟩,(⟨xs,hS,⟨hi,_⟩,hl,hk⟩ | ⟨pre,hSp,c,hi,hl,hk⟩)⟩
      · have hr := run_endLoop (P := P) hl (by rw [hrec]; simp)
        have hlp:Lp w.heap.size W2 (W2.putObj (w.heap.size+1) (.loop { rec .ready none with state := .exhausted })):=Lp.put hl (lty hl) (by omega)
        refine⟨none,_,?_,hdone w.heap.size xs _ (Nat.le_refl _) hS (hIl _ _ _ hi hlp) ((World.putObj_heap_other (by omega)).trans hk) rfl⟩
        rw[hrec] at hr ⊢;exact hr
      · have hr := run_endLoop (P := P) hl (by rw [hrec]; simp)
        have hlp:Lp w.heap.size W2 (W2.putObj (w.heap.size+1) (.loop { rec .done (some c) with state := .exhausted })):=Lp.put hl (lty hl) (by omega)
        refine⟨some c,_,?_,wpIn_wide.2 (hstop w.heap.size c pre _ (Nat.le_refl _) hSp (hXl _ _ _ _ hi hlp) ((World.putObj_heap_other (by omega)).trans hk)).out⟩
        rw[hrec] at hr ⊢;exact hr
theorem Aer {α:Type} {g:Operand} {ps:List Nat} {assign body:Code} {gf:FuncId} {lb:List Value} {encs:α→List Value} {E:World→World→Prop} {S Sp:List α→Prop} {X:List α→α→World→Prop} {Rl:World→World→Prop} {fn:Func}
    (Ds:List Nat) (I:List α→World→Prop) (Ix:Code→List α→World→Prop) (hEe:∀ A B,Ext A B→E A B) (hsp:f sp=encDs Ds)
    (hg : ev n f g = .func (.func gf) #[] lb.toArray) (hfn : P.funcs[gf]? = some fn) (hn : (fn.name == "runtime.NumGoroutine") = false) (hb : fn.body.isNone = false)
    (hEs:∀ A B,E A B→A.heap.size≤B.heap.size) (hEl:∀ A B,Lp w.heap.size A B→E A B) (hEt:∀ A B C,E A B→E B C→E A C) (hseq:SeqOk P gf lb encs E S Sp X Rl w) (hXx:∀ s x A B,X s x A→Lp w.heap.size A B→X s x B) (hRe:∀ A B,Ext A B→Rl A B) (hRl:∀ A B,Rl A B→A.heap.size≤B.heap.size∧∀ k,ty A k=none→k<A.heap.size→B.heap[k]? = A.heap[k]?)
    (hps:∀ x,(encs x).length=ps.length)
    (hIe:∀ s A B,I s A→Rl A B→I s B) (hIl:∀ s A B,I s A→Lp w.heap.size A B→I s B) (hXe:∀ c s A B,Ix c s A→Rl A B→Ix c s B) (hXl:∀ c s A B,Ix c s A→Lp w.heap.size A B→Ix c s B)
    (h0:I [] w)
    (hround:∀ l pre x W,w.heap.size≤W.heap.size→I pre W→X pre x W→Wf (some l) P assign (Exit.then (fun a W2=>∃ f₁:Nat→Value,a=fr n f₁∧Ext W W2∧∀ W3,Lp w.heap.size W2 W3→Wf (some l) P body (Nm E I Ix (pre++[x]) W3) (fr n f₁) W3) noQ) (fr n (updR (updP f (ps.zip (encs x))) sp undef)) W)
    (hdone:∀ D xs W,w.heap.size≤D→S xs→I xs W→Dfr W D→Q .normal (fr n (updR f sp (encDs (D :: Ds)))) W)
    (hstop:∀ D c pre W,w.heap.size≤D→Sp pre→Ix c pre W→Dfr W D→Wp P c Q (fr n (updR f sp (encDs (D :: Ds)))) W) :
    Wp P (Code.rangeFunc g ps.toArray assign body) Q (fr n f) w :=
  Tq I Ix hEe hg hfn hn hb hEs hEl hEt hseq hRe hRl hXx hps hIe hIl hXe hXl h0 hround
    (fun D xs W h1 h2 h3 h4 _=>by rw[Tc n f D Ds hsp];exact hdone D xs W h1 h2 h3 h4) (fun D c pre W h1 h2 h3 h4=>by rw[Tc n f D Ds hsp];exact hstop D c pre W h1 h2 h3 h4)
end
theorem Mp.rnd {κ ν:Type} {kk:κ→Value} {d:VK ν} {B0 r:Nat} {E:List TypeId} {w w':World} {μ:κ→Option ν} (h:Mp kk d 0 B0 w r μ) (m:Rnd E w w') (ht:tMap∉E) (hd:d.E=[]):Mp kk d 0 B0 w' r μ :=
  h.keep (fun hl=>m.old r tMap h.tyOf ht) (fun j hj ho=>ho.elim (fun h=>by omega) fun ⟨u,hu,_⟩=>by rw[hd] at hu;simp at hu)
theorem Rg.rnd {κ ν:Type} [DecidableEq κ] {kk:κ→Value} {d:VK ν} {B0 r it:Nat} {E:List TypeId} {w w':World} {μ:κ→Option ν} {vs:List κ} (h:Rg kk d 0 B0 w r it μ vs) (m:Rnd E w w') (ht:tMap∉E∧tIter∉E) (hd:d.E=[]):Rg kk d 0 B0 w' r it μ vs:=by
  have hM:=h.mp 0 (Nat.zero_le _)
  obtain⟨es,clock,l,since,seen,c0,hm,hT,h1,h2⟩:=h.ex
  have hi:ty w it=some tIter:=by unfold Eng.ty;rw[h1]
  exact h.keep (fun hl=>m.old r tMap hM.tyOf ht.1) (fun hl=>m.old it tIter hi ht.2) (fun j hj ho=>ho.elim (fun h=>by omega) fun ⟨u,hu,_⟩=>by rw[hd] at hu;simp at hu)
theorem Yd (B:Nat):∀ A C:World,Mod B tIter A C→A.heap.size≤C.heap.size∧∀ k,ty A k=none→k<A.heap.size→C.heap[k]? = A.heap[k]? := fun _ _ h=>⟨h.size,fun k hk hl=>h.old k hl (.inr (by rw[hk];simp))⟩
def encH (x:Hash):List Value:=[.agg (hv x)]
theorem Add {e B:Nat} {w:World} {g:Nat} {p:Option Addr} {n c:Nat} {x:By} (hB:Blk w g #[.slice p n c] e) (h:Sl kByte 5 B w p n c x):Sl (kSl kByte 5) e B w (some ⟨g,0,none⟩) 1 1 [x]:=by
  refine⟨rfl,Nat.le_refl _,by omega,[[.slice p n c]],⟨⟨p,n,c,rfl,h⟩,trivial⟩,⟨⟨fun _=>rfl,fun j v hv=>?_⟩,fun _ => .inr hB.ty⟩⟩
  cases j with
  | zero=>simp at hv;subst hv;exact hB.cell rfl
  | succ j=>simp at hv
def sub (w:World) (Z:Nat):Nat→Prop:=fun j=>w.heap.size≤j∧j<Z
theorem Cst.sub {S:Nat→Prop} {w w':World} {g gd:Nat} {C:CS} (h:Cst S w' g gd C) (hS:∀ j,S j→w.heap.size≤j):Cst (sub w w'.heap.size) w' g gd C:=h.mono fun j hj hs=>⟨hS j hs,hj⟩
theorem X4 {B Z n c:Nat} {w w':World} {p:Option Addr} {e:TypeId} {xs:By} {g:Nat} (h:Sl kByte e B w' p n c xs) (hp:p=some ⟨g,0,none⟩) (hg:Z≤g):Out (sub w Z) w' p n c xs :=
  Out.ofSl h fun _ hs=>by subst hp;have:=hs.2;show False;have h2:ab (some (⟨g,0,none⟩:Addr))<Z:=hs.2;exact absurd h2 (by show ¬ g<Z;omega)
end Go.Proofs.Eng
end
section
namespace Go.Proofs.Eng
open Go.RowKit
open Extern.Stop (cell)
def kLo:Kind By where
  sz:=1
  E:=[]
  K:=fun B w x cs=>∃ p n c,cs=[.slice p n c]∧Lo B w p n c x
  len:=by rintro _ _ _ _ ⟨p,n,c,rfl,_⟩;rfl
  one:=by
    rintro _ _ _ _ ⟨p,n,c,rfl,_⟩ v hv
    simp only[List.mem_singleton] at hv
    subst hv;rfl
  keep:=fun hs ⟨p,n,c,h1,h2⟩=>⟨p,n,c,h1,h2.keep hs⟩
  mono:=fun hB ⟨p,n,c,h1,h2⟩=>⟨p,n,c,h1,h2.mono hB⟩
theorem Cd:0<kLo.sz:=Nat.one_pos
theorem Lo.sl5 {B n c:Nat} {w:World} {p:Option Addr} {xs:By} (h:Lo B w p n c xs):Sl kByte 5 B w p n c xs :=
  ⟨h.len,h.cap,h.fit,_,C8 _ w xs,by rw[Bp];exact⟨h.row,fun hne => .inl (h.low (by intro e;rw[e] at hne;exact hne rfl))⟩⟩
theorem Sl.loAt {e B:Nat} {w:World} {p:Option Addr} {n c:Nat} {l:List By} (h:Sl kLo e B w p n c l) (i:Nat) (hi:i<n):∃ q m c1,w.cell? ⟨ab p,ao p+i,none⟩=some (.slice q m c1)∧Lo B w q m c1 (l.getD i []):=by
  obtain⟨cs,⟨q,m,c1,rfl,hs⟩,hr⟩:=h.get [] i hi
  have:=hr 0 _ rfl
  have e1:kLo.sz=1:=rfl
  rw[e1] at this
  exact⟨q,m,c1,by simpa using this,hs⟩
theorem Kind.All.impK {α:Type} (d d':Kind α) {B:Nat} {w:World} (hk:∀ x c,d.K B w x c→d'.K B w x c):∀ {xs:List α} {cs:List (List Value)},d.All B w xs cs→d'.All B w xs cs
  | [],[],_=>trivial
  | _ :: _,_ :: _,h=>⟨hk _ _ h.1,Kind.All.impK d d' hk h.2⟩
  | [],_ :: _,h=>h.elim
  | _ :: _,[],h=>h.elim
theorem Sl.loSl {e B:Nat} {w:World} {p:Option Addr} {n c:Nat} {l:List By} (h:Sl kLo e B w p n c l):Sl (kSl kByte 5) e B w p n c l:=by
  obtain⟨css,ha,hr⟩:=h.row
  exact⟨h.len,h.cap,h.fit,css,Kind.All.impK kLo (kSl kByte 5) (fun x cs ⟨q,m,c1,h1,h2⟩=>⟨q,m,c1,h1,h2.sl5⟩) ha,hr⟩
theorem Afd {e n c:Nat} {w:World} {p:Option Addr} {l:List By} (h:Sl (kSl kByte 5) e w.heap.size w p n c l):Sl kLo e w.heap.size w p n c l:=by
  obtain⟨css,ha,hr⟩:=h.row
  refine⟨h.len,h.cap,h.fit,css,Kind.All.impK (kSl kByte 5) kLo (fun x cs ⟨q,m,c1,h1,h2⟩=>⟨q,m,c1,h1,?_⟩) ha,hr⟩
  have hr2:=h2.pureRow.row
  rw[Bp] at hr2
  exact⟨h2.len,h2.cap,h2.fit,hr2,fun hne=>hr2.lt (by intro e;exact hne (List.map_eq_nil_iff.1 e))⟩
theorem Wz {e n c:Nat} {w:World} {p:Option Addr} {xs:By} (h:Sl kByte e w.heap.size w p n c xs):Lo w.heap.size w p n c xs:=by
  have hr2:=h.pureRow.row
  rw[Bp] at hr2
  exact⟨h.len,h.cap,h.fit,hr2,fun hne=>hr2.lt (by intro e;exact hne (List.map_eq_nil_iff.1 e))⟩
theorem Lo.nil (B:Nat) (w:World):Lo B w none 0 0 []:=⟨rfl,Nat.le_refl _,by omega,Row.nil _ _,fun h=>absurd rfl h⟩
theorem Lo.ext {B n c:Nat} {w w':World} {p:Option Addr} {xs:By} (h:Lo B w p n c xs) (x:Ext w w'):Lo B w' p n c xs:=h.keep (x.same B [])
structure CAct where
  k:UInt8
  picks:By
  index:By
  n:Int
  done:Bool
  keep:By
instance : Inhabited CAct := ⟨⟨0, [], [], 0, false, []⟩⟩
def kCA:Kind CAct where
  sz:=6
  E:=[]
  K:=fun B w x cs=>∃ p n c p2 n2 c2 p3 n3 c3,cs=[.int .u8 x.k.toNat,.slice p n c,.slice p2 n2 c2,.int .i64 x.n,.bool x.done,.slice p3 n3 c3]∧Lo B w p n c x.picks∧Lo B w p2 n2 c2 x.index∧Lo B w p3 n3 c3 x.keep∧-9223372036854775808≤x.n∧x.n≤9223372036854775807
  len:=by rintro _ _ _ _ ⟨p,n,c,p2,n2,c2,p3,n3,c3,rfl,_⟩;rfl
  one:=by
    rintro _ _ _ _ ⟨p,n,c,p2,n2,c2,p3,n3,c3,rfl,_⟩ v hv
    simp only[List.mem_cons,List.not_mem_nil,or_false] at hv
    rcases hv with rfl | rfl | rfl | rfl | rfl | rfl <;> rfl
  keep:=fun hs ⟨p,n,c,p2,n2,c2,p3,n3,c3,h1,h2,h3,h4,h5⟩=>⟨p,n,c,p2,n2,c2,p3,n3,c3,h1,h2.keep hs,h3.keep hs,h4.keep hs,h5⟩
  mono:=fun hB ⟨p,n,c,p2,n2,c2,p3,n3,c3,h1,h2,h3,h4,h5⟩=>⟨p,n,c,p2,n2,c2,p3,n3,c3,h1,h2.mono hB,h3.mono hB,h4.mono hB,h5⟩
theorem Yc:0<kCA.sz:=by decide
theorem Sl.caAt {e B:Nat} {w:World} {p:Option Addr} {n c:Nat} {l:List CAct} (h:Sl kCA e B w p n c l) (i:Nat) (hi:i<n):∃ p1 n1 c1 p2 n2 c2 p3 n3 c3,w.rangeAt (ab p) (ao p+i * 6) [.int .u8 (l.getD i default).k.toNat,.slice p1 n1 c1,.slice p2 n2 c2,.int .i64 (l.getD i default).n,.bool (l.getD i default).done,.slice p3 n3 c3] ∧
    Lo B w p1 n1 c1 (l.getD i default).picks∧Lo B w p2 n2 c2 (l.getD i default).index∧Lo B w p3 n3 c3 (l.getD i default).keep∧-9223372036854775808≤(l.getD i default).n∧(l.getD i default).n≤9223372036854775807:=by
  obtain⟨cs,⟨p1,n1,c1,p2,n2,c2,p3,n3,c3,rfl,hs⟩,hr⟩:=h.get default i hi
  exact⟨p1,n1,c1,p2,n2,c2,p3,n3,c3,hr,hs⟩
def msum (l:List By):Nat:=(l.map fun x=>min x.length 4001).sum
theorem Rf {l:List By} {k:Nat} (h:k<l.length):msum (l.take (k+1))=msum (l.take k)+min (l.getD k []).length 4001:=by
  rw[Fg h];unfold msum;rw[List.map_append,List.sum_append];simp
theorem S3:∀ {l:List By},msum l≤4000→(∀ x∈l,x.length≤4000)∧(l.map List.length).sum≤msum l
  | [],_=>⟨(fun x hx=>by cases hx),Nat.le_refl _⟩
  | x :: l, h => by
    have e:msum (x :: l)=min x.length 4001+msum l:=by unfold msum;rw[List.map_cons,List.sum_cons]
    have ih:=S3 (l:=l) (by omega)
    refine⟨fun y hy=>?_,?_⟩
    · rcases List.mem_cons.1 hy with rfl | hy
      · omega
      · exact ih.1 y hy
    · rw[List.map_cons,List.sum_cons,e];have:=ih.2;omega
theorem U2 (l:List By):msum l≤l.length * 4001:=by
  induction l with
  | nil=>simp[msum]
  | cons x l ih => have e : msum (x :: l) = min x.length 4001 + msum l := by unfold msum; rw [List.map_cons, List.sum_cons]
                   rw[e,List.length_cons];omega
theorem Li {w w':World} {B g:Nat} (hN:New w w' g #[] (23)) (Z:Nat) (hZ:Z≤w.heap.size):Own kLo 23 B Z w' (some ⟨g,0,none⟩) 0 0 [] :=
  Own.made (cs:=#[]) kLo 23 B Z hN [] [] 0 0 rfl trivial hZ (Nat.le_refl _) (by omega) rfl rfl
theorem Adx {w w':World} {g n c B:Nat} {p:Option Addr} {x:By} (hN:New w w' g #[.slice p n c] (23)) (h:Lo B w' p n c x) (hB:B≤w.heap.size):Sl kLo 23 B w' (some ⟨g,0,none⟩) 1 1 [x] :=
  (Own.made (cs:=#[.slice p n c]) kLo 23 B B hN [x] [[.slice p n c]] 1 1 rfl ⟨⟨_,_,_,rfl,h⟩,trivial⟩ hB (by omega) (by omega) (by rfl) (by rfl)).sl
end Go.Proofs.Eng
end
section
namespace Go.Proofs.Eng
open Go.ChangeShapes Go.WideShapes Go.ChangeAt Go.RowKit
section
variable {H : Type} {enc : TypeId × Value → H} {P : Program} {W : World}
theorem Aba {t e1 e2 e3:TypeId} {f0 f1 f2 f3 f4 f5:Field} (ht:P.underlying t=some (.struct #[f0,f1,f2,f3,f4,f5])) (h0:P.underlying f0.type=some (.int .u8)) (h1:P.underlying f1.type=some (.slice e1)) (h2:P.underlying f2.type=some (.slice e2)) (h3:P.underlying f3.type=some (.int .i64)) (h4:P.underlying f4.type=some .bool) (h5:P.underlying f5.type=some (.slice e3))
    (o0:f0.offset=0) (o1:f1.offset=1) (o2:f2.offset=2) (o3:f3.offset=3) (o4:f4.offset=4) (o5:f5.offset=5) (c0:P.cellsOf f0.type=1) (c1:P.cellsOf f1.type=1) (c2:P.cellsOf f2.type=1) (c3:P.cellsOf f3.type=1) (c4:P.cellsOf f4.type=1) (c5:P.cellsOf f5.type=1) (ct:P.cellsOf t=6)
    (k1:P.cellsOf e1=kByte.sz) (k2:P.cellsOf e2=kByte.sz) (k3:P.cellsOf e3=kByte.sz) (hO1:Opens enc P W kByte e1) (hO2:Opens enc P W kByte e2) (hO3:Opens enc P W kByte e3):Opens enc P W kCA t:=by
  intro fuel cs x h
  obtain⟨xs,n,rfl,rfl,hlen,hxl,hx⟩:=DataW.trod_struct ht h
  rw[ct] at hlen
  match cs,hlen with
  | [b0, b1, b2, b3, b4, b5], _ =>
    have hx0:=hx 0 f0 rfl
    have hx1:=hx 1 f1 rfl
    have hx2:=hx 2 f2 rfl
    have hx3:=hx 3 f3 rfl
    have hx4:=hx 4 f4 rfl
    have hx5:=hx 5 f5 rfl
    rw[o0,c0] at hx0
    rw[o1,c1] at hx1
    rw[o2,c2] at hx2
    rw[o3,c3] at hx3
    rw[o4,c4] at hx4
    rw[o5,c5] at hx5
    have hxl:xs.length=6:=hxl
    match xs,hxl with
    | [y0, y1, y2, y3, y4, y5], _ =>
      obtain⟨k,j0,_,hkw⟩:=DataW.trod_int h0 hx0
      have q0:b0 = .int .u8 k:=by simpa using j0
      have hb8:0≤k∧k≤255:=by simpa [Lit.wf,IntKind.min,IntKind.max,IntKind.signed,IntKind.bits] using hkw
      obtain⟨p1,m1,n1,d1,j1,w1,_,_⟩:=Np h1 k1 hO1 hx1
      have q1:b1 = .slice p1 m1 n1:=by simpa using j1
      obtain⟨p2,m2,n2,d2,j2,w2,_,_⟩:=Np h2 k2 hO2 hx2
      have q2:b2 = .slice p2 m2 n2:=by simpa using j2
      obtain⟨i,j3,_,w3⟩:=DataW.trod_int h3 hx3
      have q3:b3 = .int .i64 i:=by simpa using j3
      have hb64:-9223372036854775808≤i∧i≤9223372036854775807:=by simpa [Lit.wf,IntKind.min,IntKind.max,IntKind.signed,IntKind.bits] using w3
      obtain⟨b,j4,_⟩:=DataW.trod_bool h4 hx4
      have q4:b4 = .bool b:=by simpa using j4
      obtain⟨p3,m3,n3,d3,j5,w5,_,_⟩:=Np h5 k3 hO3 hx5
      have q5:b5 = .slice p3 m3 n3:=by simpa using j5
      clear j0 j1 j2 j3 j4 j5
      subst q0 q1 q2 q3 q4 q5
      refine⟨⟨UInt8.ofNat k.toNat,d1,d2,i,b,d3⟩,⟨p1,m1,n1,p2,m2,n2,p3,m3,n3,?_,Wz w1,Wz w2,Wz w5,hb64⟩⟩
      have:((UInt8.ofNat k.toNat).toNat:Int)=k:=by simp;omega
      rw[this]
end
end Go.Proofs.Eng
end
section
set_option maxRecDepth 100000
set_option maxHeartbeats 4000000
namespace Go.Proofs.Eng
open Go.RowKit
open Extern.Stop (cell)
theorem mixed:Tryz.prog.follows .mixedOrders=true:=by kernel_rfl
theorem eg64:Tryz.prog.eqGuardType Tryz.prog.depth 64=false:=by kernel_rfl
theorem fb135:Tryz.f135.body.isNone=false:=by kernel_rfl
theorem fb88:Tryz.f88.body.isNone=false:=by kernel_rfl
theorem fb89:Tryz.f89.body.isNone=false:=by kernel_rfl
theorem fb91:Tryz.f91.body.isNone=false:=by kernel_rfl
theorem fb92:Tryz.f92.body.isNone=false:=by kernel_rfl
theorem fn135 : ngB Tryz.f135 = false := by kernel_rfl
theorem fn88 : ngB Tryz.f88 = false := by kernel_rfl
theorem fn89 : ngB Tryz.f89 = false := by kernel_rfl
theorem fn91 : ngB Tryz.f91 = false := by kernel_rfl
theorem fn92 : ngB Tryz.f92 = false := by kernel_rfl
theorem inf5:(Tryz.prog.info? 5).map (fun i=>(i.zero,i.size,i.bytes))=some (some (.int .u8 0),1,1):=by kernel_rfl
theorem inf64:(Tryz.prog.info? 64).map (fun i=>(i.zero,i.size,i.bytes))=some (some (.agg #[.int .u8 0,.int .u8 0,.int .u8 0,.int .u8 0,.int .u8 0,.int .u8 0,.int .u8 0,.int .u8 0,.int .u8 0,.int .u8 0,.int .u8 0,.int .u8 0,.int .u8 0,.int .u8 0,.int .u8 0,.int .u8 0,.int .u8 0,.int .u8 0,.int .u8 0,.int .u8 0,.int .u8 0,.int .u8 0,.int .u8 0,.int .u8 0,.int .u8 0,.int .u8 0,.int .u8 0,.int .u8 0,.int .u8 0,.int .u8 0,.int .u8 0,.int .u8 0]),32,32):=by kernel_rfl
theorem sz5:(Tryz.prog.info? 5).map (·.size)=some 1:=by kernel_rfl
theorem sz64:(Tryz.prog.info? 64).map (·.size)=some 32:=by kernel_rfl
theorem u180:Tryz.prog.underlying 180=some (.int .u64):=by kernel_rfl
theorem u23:Tryz.prog.underlying 23=some (.slice 5):=by kernel_rfl
theorem u5:Tryz.prog.underlying 5=some (.int .u8):=by kernel_rfl
theorem u54:Tryz.prog.underlying 54=some (.slice 64):=by kernel_rfl
theorem u64:Tryz.prog.underlying 64=some (.array 32 5):=by kernel_rfl
theorem u86:Tryz.prog.underlying 86=some (.int .u64):=by kernel_rfl
theorem u9:Tryz.prog.underlying 9=some (.string):=by kernel_rfl
theorem ua64:(Tryz.prog.underlying 64).map TypeDesc.isRow=some true:=by kernel_rfl
theorem un5:(Tryz.prog.underlying 5).map TypeDesc.isRow=some false:=by kernel_rfl
theorem us180:(Tryz.prog.underlying 180).isSome=true:=by kernel_rfl
theorem us3:(Tryz.prog.underlying 3).isSome=true:=by kernel_rfl
theorem us5:(Tryz.prog.underlying 5).isSome=true:=by kernel_rfl
end Go.Proofs.Eng
end
section
set_option maxRecDepth 100000
set_option maxHeartbeats 4000000
namespace Go.Proofs.Eng
open Go.RowKit
open Extern.Stop (cell)
theorem Pb (N:Nat) (hN:N<18446744073709551616) (w:World) :
    Ret Tryz.prog 145 [.int .u64 (N:Int)] w (fun v w'=>(∃ p l c,v = .slice p l c∧Own kByte 5 0 w.heap.size w' p l c (lebU N))∧Ext w w'):=by
 have hX:=Ext.refl w
 refine eN 20 Tryz.func145 ?_
 refine Ab (Aa ?_)
 refine pA (Ac (t_n (Ab (Aa ?_))))
 refine Abc u23 inf5 rfl rfl (by omega) (by omega) (by omega) (by omega) ?_
 intro w1 g4 hN4
 have hE1:=hN4.ext
 have hX:=hX.ext hE1
 have hO:Own kByte 5 0 w.heap.size w1 (some ⟨g4,0,none⟩) 0 10 []:=Own.made kByte 5 0 _ hN4 [] [] 0 10 rfl trivial (by have:=hX.size;have:=hN4.g_eq;have:=hN4.ext.size;omega) (by omega) (by omega) (by rw[size_madeCells];rfl) (by simp)
 refine pA (Ac (t_n (Ab (Am ?_))))
 refine Bg (ι:=Nat×List UInt8×Option Addr×Nat×Nat) [0,3,5,6,7,8,9,10,11,12,13,14] (fun (m,acc,p,l,c)=>[(0,.int .u64 (m:Int)),(3,.slice p l c)]) (fun (m,acc,p,l,c) w'=>Ext w w'∧(Own kByte 5 0 w.heap.size w' p l c acc∧acc++lebU m=lebU N∧m<18446744073709551616)) (fun (m,acc,p,l,c)=>m) ((N,[],some ⟨g4,0,none⟩,0,10)) ⟨rfl,rfl,trivial⟩ ⟨hX,⟨hO,by simp,hN⟩⟩ ?_
 rintro⟨m,acc,p,l,c⟩ GL0 w2 ⟨hE2,hO,hacc,hm⟩
 have hX:=hE2
 refine Ab (Ab (Aa ?_))
 refine pM ?_
 refine p1 (T0 rfl rfl) ?_
 refine Ac (t_n ?_)
 refine As rfl (fun hc6=>?_) (fun hc6=>?_)
 ·refine Ai (t_n (Ab (Am (Aa ?_))))
  refine pM (pM ?_)
  refine p1 (Hb u5 us180 rfl) ?_
  refine p1 ((Yu rfl rfl).cast (congrArg _ (or128 m))) ?_
  refine Au u23 inf5 rfl (by decide) (fun base hb=>Cj (by rfl) base hb) ?_
  intro w3 g13 hN13
  have hE3:=hN13.ext
  have hX:=hX.ext hE3
  have hO:=hO.ext hE3
  have hS:Blk w3 g13 #[cell (UInt8.ofNat (m % 128+128))] 5:=hN13.blk
  have hlen:acc.length=l:=hO.len
  have hl10:=Ed hN
  rw[← hacc,List.length_append] at hl10
  have hB0:=hX.size
  refine Bv (d:=kByte) ([UInt8.ofNat (m % 128+128)]) u23 inf5 rfl Bw rfl rfl hO (Uf u23 hS) rfl (C8 _ _ _) (Bp _) (by omega) (by omega) (by omega) (by omega) (by decide) ?_
  intro p14 c14 w4 hO hM4
  have hX:=hX.mod hM4 (Nat.le_refl _)
  refine pA (Ac (b_n (t_n (Aa ?_))))
  refine pM ?_
  refine p1 ((Ib rfl rfl (by omega)).cast (congrArg _ (shr7 m))) ?_
  refine pA (Ac ?_)
  refine t_n (At.mk ((m / 128,acc++[UInt8.ofNat (m % 128+128)],p14,l+1,c14)) (by repeat (first | exact Agr.refl _ _ | exact Agr.hav _ _ _ | refine Agr.upd rfl ?_ | refine Agr.updR rfl ?_ | refine Agr.updL ?_ _ rfl | refine Agr.hav' rfl ?_)) ⟨rfl,rfl,trivial⟩ ?_)
  exact⟨⟨hX,⟨hO,by rw[← hacc,H4 (n:=m) (by omega)];simp,by omega⟩⟩,by(dsimp only;omega)⟩
 refine Ba (t_e (t_e (Bu (t_n (Ab (Aa ?_))))))
 refine pM (pM ?_)
 refine p1 ((Cs u5 us180 rfl (Aeb (by omega) (by omega))).cast (congrArg _ (Mz (n:=m) (by omega)).symm)) ?_
 refine Au u23 inf5 rfl (by decide) (fun base hb=>Cj (by rfl) base hb) ?_
 intro w5 g18 hN18
 have hE5:=hN18.ext
 have hX:=hX.ext hE5
 have hO:=hO.ext hE5
 have hS:Blk w5 g18 #[cell (UInt8.ofNat m)] 5:=hN18.blk
 have hlen:acc.length=l:=hO.len
 have hl10:=Ed hN
 rw[← hacc,List.length_append] at hl10
 have hB0:=hX.size
 refine Bv (d:=kByte) ([UInt8.ofNat m]) u23 inf5 rfl Bw rfl rfl hO (Uf u23 hS) rfl (C8 _ _ _) (Bp _) (by omega) (by omega) (by omega) (by omega) (by decide) ?_
 intro p19 c19 w6 hO hM6
 have hX:=hX.mod hM6 (Nat.le_refl _)
 refine pA (Ac (t_n (Ak ?_)))
 refine eR1 ?_
 rw[Ft (n:=m) (by omega)] at hacc
 exact⟨⟨_,_,_,rfl,by rw[← hacc];exact hO⟩,hX⟩
end Go.Proofs.Eng
end
section
set_option maxRecDepth 100000
set_option maxHeartbeats 4000000
namespace Go.Proofs.Eng
open Go.RowKit
open Extern.Stop (cell)
theorem M2 (xs:List UInt8) (B:Nat) (p:Option Addr) (n c:Nat) (w:World) (hl:Sl kByte 5 B w p n c xs) :
    Ret Tryz.prog 182 [.slice p n c] w (fun v w'=>v = .tuple #[.int .u64 ((getU xs).1:Int),.int .i64 ((getU xs).2.1:Int),.int .i64 (getU xs).2.2]∧Ext w w'):=by
 have hX:=Ext.refl w
 refine eN 43 Tryz.func182 ?_
 refine Ab (Aa ?_)
 refine pA (pA (pA (Ac (t_n (Ab (Ab (Aa ?_)))))))
 refine pM ?_
 refine p1 (Aj u23 rfl) ?_
 refine pM (Ac (t_n (Am ?_)))
 have hWL0:=Ext.refl w
 have hlen:=hl.len
 have hfit:=hl.fit
 have hcap:=hl.cap
 refine Bg (ι:=Nat×Nat) [2,3,4,5,6,9,10,11,12,13,14,15,16,17,18,19,20,21,22,23,24,25,26,27,28,29,30,31,32,33,34,35,36,37,38,39,40,41,42] (fun (i,m)=>[(2,.int .u64 (m:Int)),(9,.int .i64 (i:Int))]) (fun (i,m) w'=>Ext w w'∧(i≤n∧i≤9∧m<2 ^ (7 * i)∧getUF i m (xs.drop i)=getU xs)) (fun (i,m)=>n - i) ((0,0)) ⟨rfl,rfl,trivial⟩ ⟨Ext.refl _,⟨by omega,by omega,by simp,rfl⟩⟩ ?_
 rintro⟨i,m⟩ GL0 w1 ⟨hE1,hi,hi9,hm,hL⟩
 have hX:=hX.ext hE1
 have hWL0:=hE1
 refine Ab (Aa ?_)
 refine p1 (Bx rfl rfl) ?_
 refine Ac (t_n (Ab ?_))
 refine As rfl (fun hc10=>?_) (fun hc10=>?_)
 ·try simp only[dA,dB,dC,dD,dE,dF,dG,Int.not_lt,Int.not_le] at hc10
  refine Ai (t_n (Ab (Am (Ab (Aa ?_)))))
  refine pM ?_
  refine p1 (C5 u23 sz5 rfl rfl ((hl.ext hX).adr Bw (by omega)) (by omega)) ?_
  refine p1 (Ae un5 rfl ((hl.ext hX).byteAt _ (by omega))) ?_
  refine pA (pA (Ac (t_n (Ab (Ab ?_)))))
  have hWr4:=Ext.refl w1
  refine F6 (ι:=Unit) [14,15,16,17,18,19,20,21,22,23,24,25,26,27] (fun _=>[(27,.bool (decide ((i=9∧1<(xs.getD i 0).toNat)∨(0<i∧(xs.getD i 0).toNat=0))))]) (fun _ w'=>Ext w1 w') ?_ ?_
  ·skip
   refine Aa ?_
   refine pM ?_
   refine p1 (Bn rfl rfl) ?_
   refine p1b (Al (by conv=>lhs;whnf)) (fun hb4_2=>?_) (fun hb4_2=>?_)
   ·try simp only[dA,dB,dC,dD,dE,dF,dG,Int.not_lt,Int.not_le] at hb4_2
    refine gM 16 ?_
    refine g1 16 rfl rfl (C0 rfl rfl) ?_
    refine p1 (Ap rfl (by conv=>lhs;whnf)) ?_
    refine p1b (Al (by conv=>lhs;whnf)) (fun hb4_6=>?_) (fun hb4_6=>?_)
    ·try simp only[dA,dB,dC,dD,dE,dF,dG,Int.not_lt,Int.not_le] at hb4_6
     refine gF 20 (gF 20 (gF 20 (gF 23 (gF 23 (gF 20 ?_)))))
     refine p1 (Ap rfl (by conv=>lhs;whnf)) ?_
     refine Ac ?_
     refine t_n (aK () ⟨congrArg Value.bool (by exact(decide_eq_true (by omega)).symm),trivial⟩ hWr4)
    try simp only[dA,dB,dC,dD,dE,dF,dG,Int.not_lt,Int.not_le] at hb4_6
    refine gM 20 ?_
    refine g1 20 rfl rfl (C0 rfl rfl) ?_
    refine g1b 20 rfl rfl (Al (by conv=>lhs;whnf)) (fun hb4_9=>?_) (fun hb4_9=>?_)
    ·try simp only[dA,dB,dC,dD,dE,dF,dG,Int.not_lt,Int.not_le] at hb4_9
     refine gM 23 ?_
     refine g1 23 rfl rfl (Bn rfl rfl) ?_
     refine g1 20 rfl rfl (Ap rfl (by conv=>lhs;whnf)) ?_
     refine p1 (Aq rfl (by conv=>lhs;whnf)) ?_
     refine Ac ?_
     refine t_n (aK () ⟨congrArg Value.bool (by exact decide_eq_decide.2 (by omega)),trivial⟩ hWr4)
    try simp only[dA,dB,dC,dD,dE,dF,dG,Int.not_lt,Int.not_le] at hb4_9
    refine gF 23 (gF 23 ?_)
    refine g1 20 rfl rfl (Aq rfl (by conv=>lhs;whnf)) ?_
    refine p1 (Aq rfl (by conv=>lhs;whnf)) ?_
    refine Ac ?_
    refine t_n (aK () ⟨congrArg Value.bool (by exact(decide_eq_false (by omega)).symm),trivial⟩ hWr4)
   try simp only[dA,dB,dC,dD,dE,dF,dG,Int.not_lt,Int.not_le] at hb4_2
   refine gF 16 (gF 16 ?_)
   refine p1 (Aq rfl (by conv=>lhs;whnf)) ?_
   refine pM (gM 20 ?_)
   refine g1 20 rfl rfl (C0 rfl rfl) ?_
   refine g1b 20 rfl rfl (Al (by conv=>lhs;whnf)) (fun hb4_9=>?_) (fun hb4_9=>?_)
   ·try simp only[dA,dB,dC,dD,dE,dF,dG,Int.not_lt,Int.not_le] at hb4_9
    refine gM 23 ?_
    refine g1 23 rfl rfl (Bn rfl rfl) ?_
    refine g1 20 rfl rfl (Ap rfl (by conv=>lhs;whnf)) ?_
    refine p1 (Aq rfl (by conv=>lhs;whnf)) ?_
    refine Ac ?_
    refine t_n (aK () ⟨congrArg Value.bool (by exact decide_eq_decide.2 (by omega)),trivial⟩ hWr4)
   try simp only[dA,dB,dC,dD,dE,dF,dG,Int.not_lt,Int.not_le] at hb4_9
   refine gF 23 (gF 23 ?_)
   refine g1 20 rfl rfl (Aq rfl (by conv=>lhs;whnf)) ?_
   refine p1 (Aq rfl (by conv=>lhs;whnf)) ?_
   refine Ac ?_
   refine t_n (aK () ⟨congrArg Value.bool (by exact(decide_eq_false (by omega)).symm),trivial⟩ hWr4)
  rintro _ Gr4 w2 hE2
  have hX:=hX.ext hE2
  have hWL0:=hWL0.ext hE2
  refine t_n ?_
  refine As rfl (fun hc27=>?_) (fun hc27=>?_)
  ·try simp only[dA,dB,dC,dD,dE,dF,dG,Int.not_lt,Int.not_le] at hc27
   have hp:getU xs=(0,0,4):=by rw[← hL,Ml (by omega)];unfold getUF;rw[if_pos hc27]
   refine Ab (Aa ?_)
   refine pA (pA (pA (Ac (t_n (Ak (t_r (b_r (t_r (t_r (b_r (t_r ?_)))))))))))
   refine eR3 ?_
   exact⟨by(rw[hp];try rfl),hX⟩
  try simp only[dA,dB,dC,dD,dE,dF,dG,Int.not_lt,Int.not_le] at hc27
  have h9:i=9→(xs.getD i 0).toNat % 128≤1:=by omega
  have hfit2:=Vd hm hi9 (Nat.mod_lt (xs.getD i 0).toNat (by omega:0<128)) h9
  refine Ai (t_n (Ab (Aa ?_)))
  refine pM (pM ?_)
  refine p1 ((Aah rfl rfl).cast (congrArg _ (Z9 (xs.getD i 0)))) ?_
  refine p1 (Cs u180 us5 rfl (Eo (by omega) (by omega))) ?_
  refine pM ?_
  refine p1 (N6 rfl rfl (Ag (by omega) (by omega))) ?_
  refine p1 (Cs u86 us3 rfl (Eo (by omega) (by omega))) ?_
  refine p1 ((Qm rfl rfl (by omega)).cast (congrArg _ (shl7 (i:=i) hi9 (Nat.mod_lt _ (by omega)) h9))) ?_
  refine p1 ((Yu rfl rfl).cast (congrArg _ (Ae7 hm hfit2))) ?_
  refine pA (Ac (t_n (Ab (Aa ?_))))
  refine pM ?_
  refine p1 (Bx rfl rfl) ?_
  refine Ac (t_n ?_)
  refine As rfl (fun hc38=>?_) (fun hc38=>?_)
  ·try simp only[dA,dB,dC,dD,dE,dF,dG,Int.not_lt,Int.not_le] at hc38
   have hp:getU xs=(m+(xs.getD i 0).toNat % 128 * 2 ^ (7 * i),i+1,0):=by rw[← hL,Ml (by omega)];unfold getUF;rw[if_neg hc27,if_pos (by omega)]
   refine Ab (Aa ?_)
   refine pM (pM ?_)
   refine p1 (Aw rfl rfl (Ag (by omega) (by omega))) ?_
   refine pA (pA (pA (Ac (t_n (Ak (b_r (t_r (t_r (b_r (t_r ?_))))))))))
   refine eR3 ?_
   exact⟨by(rw[hp];try rfl),hX⟩
  try simp only[dA,dB,dC,dD,dE,dF,dG,Int.not_lt,Int.not_le] at hc38
  have hp2:getUF (i+1) (m+(xs.getD i 0).toNat % 128 * 2 ^ (7 * i)) (xs.drop (i+1))=getU xs:=by rw[← hL,Ml (by omega:i<xs.length)];conv=>rhs;unfold getUF;rw[if_neg hc27,if_neg (by omega)]
  refine Ai (b_n (t_n (Aa ?_)))
  refine p1 (Aw rfl rfl (Ag (by omega) (by omega))) ?_
  refine pM (Ac ?_)
  refine t_n (At.mk ((i+1,m+(xs.getD i 0).toNat % 128 * 2 ^ (7 * i))) (by repeat (first | exact Agr.refl _ _ | exact Agr.hav _ _ _ | refine Agr.upd rfl ?_ | refine Agr.updR rfl ?_ | refine Agr.updL ?_ _ rfl | refine Agr.hav' rfl ?_)) ⟨rfl,rfl,trivial⟩ ?_)
  exact⟨⟨hWL0,⟨by omega,by omega,Pm hm (Nat.mod_lt _ (by omega)),hp2⟩⟩,by(dsimp only;omega)⟩
 try simp only[dA,dB,dC,dD,dE,dF,dG,Int.not_lt,Int.not_le] at hc10
 have hp:getU xs=(0,0,3):=by rw[← hL,List.drop_of_length_le (by omega)];rfl
 refine Ba (t_e (t_e (Bu (t_n (Ab (Aa ?_))))))
 refine pA (pA (pA (Ac (t_n (Ak ?_)))))
 refine eR3 ?_
 exact⟨by(rw[hp];try rfl),hX⟩
end Go.Proofs.Eng
end
section
set_option maxRecDepth 100000
set_option maxHeartbeats 4000000
namespace Go.Proofs.Eng
open Go.RowKit
open Extern.Stop (cell)
theorem fb161:Tryz.f161.body.isNone=false:=by kernel_rfl
theorem fb204:Tryz.f204.body.isNone=false:=by kernel_rfl
theorem fb39:Tryz.f39.body.isNone=false:=by kernel_rfl
theorem fn161 : ngB Tryz.f161 = false := by kernel_rfl
theorem fn204 : ngB Tryz.f204 = false := by kernel_rfl
theorem fn39 : ngB Tryz.f39 = false := by kernel_rfl
theorem u164:Tryz.prog.underlying 164=some (.map 64 4):=by kernel_rfl
theorem u4:Tryz.prog.underlying 4=some (.bool):=by kernel_rfl
theorem zr4:(Tryz.prog.info? 4).map (·.zero)=some (some (.bool false)):=by kernel_rfl
theorem zr64:(Tryz.prog.info? 64).map (·.zero)=some (some (.agg #[.int .u8 0,.int .u8 0,.int .u8 0,.int .u8 0,.int .u8 0,.int .u8 0,.int .u8 0,.int .u8 0,.int .u8 0,.int .u8 0,.int .u8 0,.int .u8 0,.int .u8 0,.int .u8 0,.int .u8 0,.int .u8 0,.int .u8 0,.int .u8 0,.int .u8 0,.int .u8 0,.int .u8 0,.int .u8 0,.int .u8 0,.int .u8 0,.int .u8 0,.int .u8 0,.int .u8 0,.int .u8 0,.int .u8 0,.int .u8 0,.int .u8 0,.int .u8 0])):=by kernel_rfl
end Go.Proofs.Eng
end
section
set_option maxRecDepth 100000
set_option maxHeartbeats 4000000
namespace Go.Proofs.Eng
open Go.RowKit
open Extern.Stop (cell)
theorem fb194:Tryz.f194.body.isNone=false:=by kernel_rfl
theorem fn194 : ngB Tryz.f194 = false := by kernel_rfl
theorem sz174:(Tryz.prog.info? 174).map (·.size)=some 1:=by kernel_rfl
theorem sz23:(Tryz.prog.info? 23).map (·.size)=some 1:=by kernel_rfl
theorem u174:Tryz.prog.underlying 174=some (.int .u32):=by kernel_rfl
theorem u22:Tryz.prog.underlying 22=some (.slice 23):=by kernel_rfl
theorem u274:Tryz.prog.underlying 274=some (.array 16 174):=by kernel_rfl
theorem un174:(Tryz.prog.underlying 174).map TypeDesc.isRow=some false:=by kernel_rfl
theorem un23:(Tryz.prog.underlying 23).map TypeDesc.isRow=some false:=by kernel_rfl
theorem us174:(Tryz.prog.underlying 174).isSome=true:=by kernel_rfl
end Go.Proofs.Eng
end
section
set_option maxRecDepth 100000
set_option maxHeartbeats 4000000
namespace Go.Proofs.Eng
open Go.RowKit
open Extern.Stop (cell)
theorem Zz (xs:List UInt8) (B:Nat) (p:Option Addr) (n c:Nat) (w:World) (hl:Sl kByte 5 B w p n c xs) (hq:Qt w) :
    Ret Tryz.prog 194 [.slice p n c] w (fun v w'=>v = .int .u32 ((crcF xs:Nat):Int)∧Ext w w'):=by
 have hX:=Ext.refl w
 refine eN 33 Tryz.func194 ?_
 refine Ab (Aa ?_)
 refine pA (Ac (t_n (Ab (Aa ?_))))
 refine pA (Ac (t_n (Ab (Ab (Aa ?_)))))
 refine pM ?_
 refine p1 (Aj u23 rfl) ?_
 refine pM (Ac (t_n (Am ?_)))
 have hWL0:=Ext.refl w
 have hlen:=hl.len
 have hfit:=hl.fit
 have hcap:=hl.cap
 refine Bg (ι:=Nat×Nat) [3,5,8,9,10,11,12,13,14,15,16,17,18,19,20,21,22,23,24,25,26,27,28,29,30] (fun (k,s)=>[(3,.int .u32 (s:Int)),(8,.int .i64 (k:Int))]) (fun (k,s) w'=>Ext w w'∧(k≤n∧s<4294967296∧s=(xs.take k).foldl byteC 4294967295)) (fun (k,s)=>n - k) ((0,4294967295)) ⟨rfl,rfl,trivial⟩ ⟨Ext.refl _,⟨by omega,by decide,rfl⟩⟩ ?_
 rintro⟨k,s⟩ GL0 w1 ⟨hE1,hk,hs,hL⟩
 have hX:=hX.ext hE1
 have hWL0:=hE1
 refine Ab (Aa ?_)
 refine p1 (Bx rfl rfl) ?_
 refine Ac (t_n (Ab ?_))
 refine As rfl (fun hc9=>?_) (fun hc9=>?_)
 ·have hx8:=(xs.getD k 0).toNat_lt
  have hs1:(s ^^^ (xs.getD k 0).toNat)<4294967296:=Aet hs (by omega)
  refine Ai (t_n (Ab (Am (Ab (Aa ?_)))))
  refine p1 (C5 u23 sz5 rfl rfl ((hl.ext hX).adr Bw (by omega)) (by omega)) ?_
  refine p1 (Ae un5 rfl ((hl.ext hX).byteAt _ (by omega))) ?_
  refine pA (Ac (t_n (Ab (Aa ?_))))
  refine pM (pM ?_)
  refine p1 (Cs u174 us5 rfl (I2 (by omega) (by omega))) ?_
  refine p1 ((G3 rfl rfl).cast (congrArg _ (R8 hs (by omega)))) ?_
  refine pA (Ac (t_n (Ab (Aa ?_))))
  refine pM ?_
  refine p1 ((Ib rfl rfl (by omega)).cast (congrArg _ (shr4 (s ^^^ (xs.getD k 0).toNat)))) ?_
  refine pM ?_
  refine p1 ((Ob rfl rfl).cast (congrArg _ (and15 (s ^^^ (xs.getD k 0).toNat) hs1))) ?_
  refine p1 (B5 (i:=(s ^^^ (xs.getD k 0).toNat) % 16) u274 sz174 rfl rfl (by omega)) ?_
  refine p1 (Ae un174 rfl (hq.ext hX ((s ^^^ (xs.getD k 0).toNat) % 16) (by omega))) ?_
  refine p1 ((G3 rfl rfl).cast (congrArg _ (look4 hs1))) ?_
  refine pA (Ac (t_n (Aa ?_)))
  refine pM ?_
  refine p1 ((Ib rfl rfl (by omega)).cast (congrArg _ (shr4 (step4 (s ^^^ (xs.getD k 0).toNat))))) ?_
  refine pM ?_
  refine p1 ((Ob rfl rfl).cast (congrArg _ (and15 (step4 (s ^^^ (xs.getD k 0).toNat)) (K3 hs1)))) ?_
  refine p1 (B5 (i:=(step4 (s ^^^ (xs.getD k 0).toNat)) % 16) u274 sz174 rfl rfl (by omega)) ?_
  refine p1 (Ae un174 rfl (hq.ext hX ((step4 (s ^^^ (xs.getD k 0).toNat)) % 16) (by omega))) ?_
  refine p1 ((G3 rfl rfl).cast (congrArg _ (look4 (K3 hs1)))) ?_
  refine pA (Ac (b_n (t_n (Aa ?_))))
  refine p1 (Aw rfl rfl (Ag (by omega) (by omega))) ?_
  refine pM (Ac ?_)
  refine t_n (At.mk ((k+1,byteC s (xs.getD k 0))) (by repeat (first | exact Agr.refl _ _ | exact Agr.hav _ _ _ | refine Agr.upd rfl ?_ | refine Agr.updR rfl ?_ | refine Agr.updL ?_ _ rfl | refine Agr.hav' rfl ?_)) ⟨rfl,rfl,trivial⟩ ?_)
  exact⟨⟨hWL0,⟨by omega,Acp hs _,by rw[Xc (by omega),← hL]⟩⟩,by(dsimp only;omega)⟩
 have hp:crcF xs=4294967295 ^^^ s:=by rw[hL,List.take_of_length_le (by omega)];rfl
 refine Ba (t_e (t_e (Bu (t_n (Ab (Aa ?_))))))
 refine pM ?_
 refine p1 (Xp rfl |>.cast (congrArg _ (cplP hs))) ?_
 refine pA (Ac (t_n (Ak ?_)))
 refine eR1 ?_
 exact⟨by rw[hp],hX⟩
theorem Abs {w w':World} {g s:Nat} (hN:New w w' g #[.int .u8 (UInt8.ofNat s).toNat,.int .u8 (UInt8.ofNat (s / 256)).toNat,.int .u8 (UInt8.ofNat (s / 65536)).toNat,.int .u8 (UInt8.ofNat (s / 16777216)).toNat] 5) {B0:Nat} (hB:B0≤w.heap.size) :
    Own kByte 5 0 B0 w' (some ⟨g,0,none⟩) 4 4 (le4 s) :=
  Own.made kByte 5 0 B0 hN (le4 s) ((le4 s).map fun b=>[cell b]) 4 4 rfl (C8 _ _ _) hB (by omega) (by omega) (by rfl) (by rfl)
theorem Ry (xs:List UInt8) (B:Nat) (p:Option Addr) (n c:Nat) (w:World) (hl:Sl kByte 5 B w p n c xs) (hq:Qt w) :
    Ret Tryz.prog 148 [.slice p n c] w (fun v w'=>(∃ q c',v = .slice q 4 c'∧Own kByte 5 0 w.heap.size w' q 4 c' (sumB xs))∧Ext w w'):=by
 have hX:=Ext.refl w
 refine eN 18 Tryz.func148 ?_
 refine Ab (Aa ?_)
 refine pA (Ac (t_n (Ab (Aa ?_))))
 refine pM ?_
 refine Ah Tryz.func194 fn194 fb194 (Zz xs _ _ _ _ _ (hl.ext hX) (hq.ext hX)) rfl ?_
 rintro v1 w1 ⟨rfl,hE1⟩
 have hX:=hX.ext hE1
 refine pA (Ac (t_n (Ab (Aa ?_))))
 refine pM ?_
 refine p1 ((Hb u5 us174 rfl).cast (congrArg _ (low8 (crcF xs)))) ?_
 refine pM ?_
 refine p1 ((Ib rfl rfl (by omega)).cast (congrArg _ (shr8 (crcF xs)))) ?_
 refine p1 ((Hb u5 us174 rfl).cast (congrArg _ (low8 ((crcF xs) / 256)))) ?_
 refine pM ?_
 refine p1 ((Ib rfl rfl (by omega)).cast (congrArg _ (shr16 (crcF xs)))) ?_
 refine p1 ((Hb u5 us174 rfl).cast (congrArg _ (low8 ((crcF xs) / 65536)))) ?_
 refine pM ?_
 refine p1 ((Ib rfl rfl (by omega)).cast (congrArg _ (shr24 (crcF xs)))) ?_
 refine p1 ((Hb u5 us174 rfl).cast (congrArg _ (low8 ((crcF xs) / 16777216)))) ?_
 have hXs:=hX.size
 refine Au u23 inf5 rfl (by decide) (fun base hb=>fill4 (by rfl) (by rfl) (by rfl) (by rfl) base hb) ?_
 intro w2 g17 hN17
 have hE2:=hN17.ext
 have hX:=hX.ext hE2
 have hO:=Abs hN17 (B0:=w.heap.size) hXs
 refine pA (Ac (t_n (Ak ?_)))
 refine eR1 ?_
 exact⟨⟨_,_,rfl,hO⟩,hX⟩
theorem H6 (xss:List (List UInt8)) (B:Nat) (p:Option Addr) (n c:Nat) (w:World) (hl:Sl (kSl kByte 5) 23 B w p n c xss) (hs:xss.flatten.length≤140737490000000) :
    Ret Tryz.prog 147 [.slice p n c] w (fun v w'=>(∃ q m c',v = .slice q m c'∧Own kByte 5 0 w.heap.size w' q m c' xss.flatten)∧Ext w w'):=by
 have hX:=Ext.refl w
 refine eN 17 Tryz.func147 ?_
 refine Ab (Aa ?_)
 refine pA (Ac (t_n (Ab (Aa ?_))))
 refine pA (Ac (t_n (Ab (Ab (Aa ?_)))))
 refine pM ?_
 refine p1 (Aj u22 rfl) ?_
 refine pM (Ac (t_n (Am ?_)))
 have hO:Own kByte 5 0 w.heap.size w none 0 0 []:=Own.nil _ _ _ _ _
 have hlen:=hl.len
 have hfit:=hl.fit
 have hcap:=hl.cap
 refine Bg (ι:=Nat×Option Addr×Nat×Nat) [3,5,8,9,10,11,12,13,14,15] (fun (k,q,m,d)=>[(3,.slice q m d),(8,.int .i64 (k:Int))]) (fun (k,q,m,d) w'=>Ext w w'∧(k≤n∧Own kByte 5 0 w.heap.size w' q m d (xss.take k).flatten)) (fun (k,q,m,d)=>n - k) ((0,none,0,0)) ⟨rfl,rfl,trivial⟩ ⟨hX,⟨by omega,hO⟩⟩ ?_
 rintro⟨k,q,m,d⟩ GL0 w1 ⟨hE1,hk,hO⟩
 have hX:=hE1
 refine Ab (Aa ?_)
 refine p1 (Bx rfl rfl) ?_
 refine Ac (t_n (Ab ?_))
 refine As rfl (fun hc9=>?_) (fun hc9=>?_)
 ·obtain⟨r,i,j,hcell,hrow⟩:=(hl.ext hX).slAt k (by omega)
  refine Ai (t_n (Ab (Am (Ab (Aa ?_)))))
  refine p1 (C5 u22 sz23 rfl rfl ((hl.ext hX).adr J5 (by omega)) (by omega)) ?_
  refine p1 (Ae un23 rfl hcell) ?_
  refine pA (Ac (t_n (Aa ?_)))
  refine pM (pM ?_)
  have hol:=hO.len
  have hrl:=hrow.len
  have hft:=He (xss:=xss) (k:=k) (by omega)
  have hB0:=hX.size
  refine Bv (d:=kByte) (xss.getD k []) u23 inf5 rfl Bw rfl rfl hO (Aay u23 hrow) hrow.len (C8 _ _ _) (Bp _) (by omega) (by omega) (by omega) (by omega) (by decide) ?_
  intro p14 c14 w2 hO hM2
  have hX:=hX.mod hM2 (Nat.le_refl _)
  refine pA (Ac (b_n (t_n (Aa ?_))))
  refine p1 (Aw rfl rfl (Ag (by omega) (by omega))) ?_
  refine pM (Ac ?_)
  refine t_n (aK ((k+1,p14,m+i,c14)) ⟨rfl,rfl,trivial⟩ ?_)
  exact⟨⟨hX,⟨by omega,by rw[E9 (by omega)];exact hO⟩⟩,by(dsimp only;omega)⟩
 have hp:xss.flatten=(xss.take k).flatten:=by rw[List.take_of_length_le (by omega)]
 refine Ba (t_e (t_e (Bu (t_n (Ab (Aa ?_))))))
 refine pM (pA (Ac (t_n (Ak ?_))))
 refine eR1 ?_
 exact⟨⟨_,_,_,rfl,by rw[hp];exact hO⟩,hX⟩
end Go.Proofs.Eng
end
section
set_option maxRecDepth 100000
set_option maxHeartbeats 4000000
namespace Go.Proofs.Eng
open Go.RowKit
open Extern.Stop (cell)
theorem fb104:Tryz.f104.body.isNone=false:=by kernel_rfl
theorem fb145:Tryz.f145.body.isNone=false:=by kernel_rfl
theorem fb147:Tryz.f147.body.isNone=false:=by kernel_rfl
theorem fb148:Tryz.f148.body.isNone=false:=by kernel_rfl
theorem fn104 : ngB Tryz.f104 = false := by kernel_rfl
theorem fn145 : ngB Tryz.f145 = false := by kernel_rfl
theorem fn147 : ngB Tryz.f147 = false := by kernel_rfl
theorem fn148 : ngB Tryz.f148 = false := by kernel_rfl
theorem inf23:(Tryz.prog.info? 23).map (fun i=>(i.zero,i.size,i.bytes))=some (some (.slice none 0 0),1,24):=by kernel_rfl
end Go.Proofs.Eng
end
section
set_option maxRecDepth 100000
set_option maxHeartbeats 4000000
namespace Go.Proofs.Eng
open Go.RowKit
open Extern.Stop (cell)
theorem Pq (xs:List UInt8) (B:Nat) (p:Option Addr) (n c:Nat) (w:World) (hl:Sl kByte 5 B w p n c xs) (hq:Qt w) (kd:UInt8) (hk:kd≠0) :
    Ret Tryz.prog 104 [.int .u8 (kd.toNat:Int),.slice p n c] w (fun v w'=>(∃ q m c' e,v = .tuple #[.slice q m c',.int .i64 e]∧((e=0∧n≤1048576∧Own kByte 5 0 w.heap.size w' q m c' (sealF kd xs))∨(e=5∧1048576<n)))∧Ext w w'):=by
 have hX:=Ext.refl w
 refine eN 28 Tryz.func104 ?_
 refine Ab (Aa ?_)
 refine pA (pA (Ac (t_n (Ab (Am (Ab (Aa ?_)))))))
 refine pM ?_
 refine p1 ((Bn rfl rfl).cast (congrArg _ (decide_eq_false (fun h=>hk (Kj.1 h))))) ?_
 refine pA (Ac (t_n ?_))
 refine c_f rfl ?_
 refine Ab ?_
 have hlen:=hl.len
 have hfit:=hl.fit
 have hcap:=hl.cap
 refine Aa ?_
 refine pM ?_
 refine p1 (Aj u23 rfl) ?_
 refine p1 (C0 rfl rfl) ?_
 refine pA (Ac (t_n ?_))
 refine As rfl (fun hc10=>?_) (fun hc10=>?_)
 ·refine Ab (Aa ?_)
  refine pA (pA (Ac (t_n (Ak (b_r (t_r ?_))))))
  refine eR2 ?_
  exact⟨⟨_,_,_,_,rfl,.inr ⟨rfl,by omega⟩⟩,hX⟩
 refine Ai (b_n (t_n (Ab ?_)))
 have hXs:=hX.size
 refine Aa ?_
 refine pM ?_
 refine Au u23 inf5 rfl (by decide) (fun base hb=>Cj (by rfl) base hb) ?_
 intro w1 g15 hN15
 have hE1:=hN15.ext
 have hX:=hX.ext hE1
 have hO1:=O5 (b:=kd) hN15 hXs
 refine pM ?_
 refine p1 (Aj u23 rfl) ?_
 refine p1 (Cs u180 us3 rfl (Eo (by omega) (by omega))) ?_
 refine Ah Tryz.func145 fn145 fb145 (Pb n (by omega) _) rfl ?_
 rintro v2 w2 ⟨⟨q19,l19,c19,rfl,hU⟩,hE2⟩
 have hX:=hX.ext hE2
 have hO1:=hO1.ext hE2
 refine pM ?_
 refine Au u22 inf23 rfl (by decide) (fun base hb=>fill3 (by rfl) (by rfl) (by rfl) base hb) ?_
 intro w3 g21 hN21
 have hE3:=hN21.ext
 have hX:=hX.ext hE3
 have hO1:=hO1.ext hE3
 have hU:=hU.ext hE3
 have hJ:=Ug hN21 (hO1.sl.mono (Nat.zero_le B)) (hU.sl.mono (Nat.zero_le B)) (hl.ext hX)
 have e3:=flat3 kd xs n hl.len
 have hl10:=Ed (n:=n) (by omega)
 have hbl:=Ka kd xs
 rw[hlen] at hbl
 refine Ah Tryz.func147 fn147 fb147 (H6 _ _ _ _ _ _ hJ (by rw[e3];omega)) rfl ?_
 rintro v4 w4 ⟨⟨q22,m22,c22,rfl,hA⟩,hE4⟩
 have hX:=hX.ext hE4
 have hU:=hU.ext hE4
 have hJ:=hJ.ext hE4
 rw[e3] at hA
 have hXs22:=hX.size
 refine pA (Ac (t_n (Ab (Aa ?_))))
 refine pM (pM ?_)
 refine Ah Tryz.func148 fn148 fb148 (Ry _ _ _ _ _ _ hA.sl (hq.ext hX)) rfl ?_
 rintro v5 w5 ⟨⟨q25,c25,rfl,hU⟩,hE5⟩
 have hX:=hX.ext hE5
 have hA:=hA.ext hE5
 refine Au u22 inf23 rfl (by decide) (fun base hb=>fill2 (by rfl) (by rfl) base hb) ?_
 intro w6 g26 hN26
 have hE6:=hN26.ext
 have hX:=hX.ext hE6
 have hA:=hA.ext hE6
 have hU:=hU.ext hE6
 have hJ:=Aaz hN26 hA.sl hU.sl
 have e2:=flat2 (bodyF kd xs)
 have hXs26:=hX.size
 refine Ah Tryz.func147 fn147 fb147 (H6 _ _ _ _ _ _ hJ (by rw[e2,List.length_append,Og];omega)) rfl ?_
 rintro v7 w7 ⟨⟨q27,m27,c27,rfl,hO⟩,hE7⟩
 have hX:=hX.ext hE7
 rw[e2] at hO
 have hO:=hO.lower hXs26
 refine pA (pA (Ac (t_n (Ak ?_))))
 refine eR2 ?_
 exact⟨⟨_,_,_,_,rfl,.inl ⟨rfl,by omega,hO⟩⟩,hX⟩
theorem Mv (xss:List (List UInt8)) (B:Nat) (p:Option Addr) (n c:Nat) (w:World) (hl:Sl (kSl kByte 5) 23 B w p n c xss) (hs:(xss.flatMap (sealF 1)).length≤140737490000000) (hq:Qt w) :
    Ret Tryz.prog 54 [.slice p n c] w (fun v w'=>(∃ q m c',v = .tuple #[.slice q m c',.int .i64 (putF xss).2]∧Own kByte 5 0 w.heap.size w' q m c' (putF xss).1)∧Ext w w'):=by
 have hX:=Ext.refl w
 refine eN 28 Tryz.func54 ?_
 refine Ab (Aa ?_)
 refine pA (pA (Ac (t_n (Ab (Aa ?_)))))
 refine pA (Ac (t_n (Ab (Ab (Aa ?_)))))
 refine pM ?_
 refine p1 (Aj u22 rfl) ?_
 refine pM (Ac (t_n (Am ?_)))
 have hO:Own kByte 5 0 w.heap.size w none 0 0 []:=Own.nil _ _ _ _ _
 have hlen:=hl.len
 have hfit:=hl.fit
 have hcap:=hl.cap
 refine Bg (ι:=Nat×Option Addr×Nat×Nat) [2,3,4,6,7,8,11,12,13,14,15,16,17,18,19,20,21,22,23,24,25,26] (fun (k,q,m,d)=>[(4,.slice q m d),(11,.int .i64 (k:Int))]) (fun (k,q,m,d) w'=>Ext w w'∧(k≤n∧(∀ i,i<k→(xss.getD i []).length≤1048576)∧Own kByte 5 0 w.heap.size w' q m d ((xss.take k).flatMap (sealF 1)))) (fun (k,q,m,d)=>n - k) ((0,none,0,0)) ⟨rfl,rfl,trivial⟩ ⟨hX,⟨by omega,fun i hi=>by omega,hO⟩⟩ ?_
 rintro⟨k,q,m,d⟩ GL0 w1 ⟨hE1,hk,hok,hO⟩
 have hX:=hE1
 refine Ab (Aa ?_)
 refine p1 (Bx rfl rfl) ?_
 refine Ac (t_n (Ab ?_))
 refine As rfl (fun hc12=>?_) (fun hc12=>?_)
 ·obtain⟨r,i,j,hcell,hrow⟩:=(hl.ext hX).slAt k (by omega)
  refine Ai (t_n (Ab (Am (Ab (Aa ?_)))))
  refine p1 (C5 u22 sz23 rfl rfl ((hl.ext hX).adr J5 (by omega)) (by omega)) ?_
  refine p1 (Ae un23 rfl hcell) ?_
  refine pA (Ac (t_n (Ab (Aa ?_))))
  refine pM ?_
  refine Ah Tryz.func104 fn104 fb104 (Pq _ _ _ _ _ _ hrow (hq.ext hX) 1 (by decide)) rfl ?_
  rintro v2 w2 ⟨⟨qs,ms,cs,es,rfl,hS⟩,hE2⟩
  have hX:=hX.ext hE2
  have hO:=hO.ext hE2
  have hrl:=hrow.len
  have hB0:=hX.size
  refine pM ?_
  refine p1 (Ao rfl rfl) ?_
  refine p1 (Ao rfl rfl) ?_
  refine pA (pA (Ac (t_n (Ab (Ab (Aa ?_))))))
  refine pM ?_
  refine p1 (A2 rfl rfl) ?_
  refine Ac (t_n ?_)
  refine As rfl (fun hc21=>?_) (fun hc21=>?_)
  ·have hp:putF xss=([],5):=Aa6 (i:=k) (by omega) (by rcases hS with ⟨h,_⟩ | ⟨_,h⟩;(· exact absurd h hc21);(· omega))
   have he5:es=5:=by rcases hS with ⟨h,_⟩ | ⟨h,_⟩;(· exact absurd h hc21);(· exact h)
   subst he5
   refine Ab (Aa ?_)
   refine pM (pA (pA (Ac (t_n (Ak (t_r (b_r (t_r (t_r (b_r (t_r ?_)))))))))))
   refine eR2 ?_
   exact⟨⟨_,_,_,by rw[hp],by rw[hp];exact Own.nil _ _ _ _ _⟩,hX⟩
  have hz:es=0:=Classical.byContradiction hc21
  have hsm:i≤1048576:=by rcases hS with ⟨_,h,_⟩ | ⟨h,_⟩;(· exact h);(· omega)
  have hS:=(hS.resolve_right (fun h=>by omega)).2.2
  refine Ai (t_n (Aa ?_))
  refine pM (pM ?_)
  have hol:=hO.len
  have hsl:=hS.len
  have hft:=Mj (f:=sealF 1) (xss:=xss) (k:=k) (z:=[]) (by omega)
  have hB0:=hX.size
  refine Bv (d:=kByte) (sealF 1 (xss.getD k [])) u23 inf5 rfl Bw rfl rfl hO (Aay u23 hS.sl) hS.len (C8 _ _ _) (Bp _) (by omega) (by omega) (by omega) (by omega) (by decide) ?_
  intro p25 c25 w3 hO hM3
  have hX:=hX.mod hM3 (Nat.le_refl _)
  refine pA (Ac (b_n (t_n (Aa ?_))))
  refine p1 (Aw rfl rfl (Ag (by omega) (by omega))) ?_
  refine pM (Ac ?_)
  refine t_n (aK ((k+1,p25,m+ms,c25)) ⟨rfl,rfl,trivial⟩ ?_)
  exact⟨⟨hX,⟨by omega,fun j hj=>if h:j<k then hok j h else by rw[show j=k from by omega];omega,by rw[G9 (z:=[]) (by omega)];exact hO⟩⟩,by(dsimp only;omega)⟩
 have hp:putF xss=((xss.take k).flatMap (sealF 1),0):=by rw[Adj (fun i hi=>hok i (by omega)),List.take_of_length_le (by omega)]
 refine Ba (t_e (t_e (Bu (t_n (Ab (Aa ?_))))))
 refine pM (pA (pA (Ac (t_n (Ak ?_)))))
 refine eR2 ?_
 exact⟨⟨_,_,_,by rw[hp],by rw[hp];exact hO⟩,hX⟩
end Go.Proofs.Eng
end
section
set_option maxRecDepth 100000
set_option maxHeartbeats 4000000
namespace Go.Proofs.Eng
open Go.RowKit
open Extern.Stop (cell)
theorem Ad9:Bc Tryz.prog 232 0=some (31,0):=by kernel_rfl
theorem pl187:Da Tryz.prog 187=some (.agg #[.int .u8 0,.slice none 0 0],[(0,1),(1,1)]):=by kernel_rfl
theorem pl232:Da Tryz.prog 232=some (.agg #[.int .i64 0],[(0,1)]):=by kernel_rfl
theorem sz187:(Tryz.prog.info? 187).map (·.size)=some 2:=by kernel_rfl
theorem sz232:(Tryz.prog.info? 232).map (·.size)=some 1:=by kernel_rfl
theorem sz3:(Tryz.prog.info? 3).map (·.size)=some 1:=by kernel_rfl
theorem sz31:(Tryz.prog.info? 31).map (·.size)=some 1:=by kernel_rfl
theorem ua232:(Tryz.prog.underlying 232).map TypeDesc.isRow=some true:=by kernel_rfl
theorem un31:(Tryz.prog.underlying 31).map TypeDesc.isRow=some false:=by kernel_rfl
theorem zr232:(Tryz.prog.info? 232).map (·.zero)=some (some (.agg #[.int .i64 0])):=by kernel_rfl
end Go.Proofs.Eng
end
section
set_option maxRecDepth 100000
set_option maxHeartbeats 4000000
namespace Go.Proofs.Eng
open Go.RowKit
open Extern.Stop (cell)
theorem fb180:Tryz.f180.body.isNone=false:=by kernel_rfl
theorem fb181:Tryz.f181.body.isNone=false:=by kernel_rfl
theorem fb182:Tryz.f182.body.isNone=false:=by kernel_rfl
theorem fn180 : ngB Tryz.f180 = false := by kernel_rfl
theorem fn181 : ngB Tryz.f181 = false := by kernel_rfl
theorem fn182 : ngB Tryz.f182 = false := by kernel_rfl
theorem u3:Tryz.prog.underlying 3=some (.int .i64):=by kernel_rfl
theorem ua187:(Tryz.prog.underlying 187).map TypeDesc.isRow=some true:=by kernel_rfl
theorem un3:(Tryz.prog.underlying 3).map TypeDesc.isRow=some false:=by kernel_rfl
theorem zr187:(Tryz.prog.info? 187).map (·.zero)=some (some (.agg #[.int .u8 0,.slice none 0 0])):=by kernel_rfl
theorem zr3:(Tryz.prog.info? 3).map (·.zero)=some (some (.int .i64 0)):=by kernel_rfl
theorem zr31:(Tryz.prog.info? 31).map (·.zero)=some (some (.int .i64 0)):=by kernel_rfl
end Go.Proofs.Eng
end
section
set_option maxRecDepth 100000
set_option maxHeartbeats 4000000
namespace Go.Proofs.Eng
open Go.RowKit
open Extern.Stop (cell)
theorem fb132:Tryz.f132.body.isNone=false:=by kernel_rfl
theorem fb133:Tryz.f133.body.isNone=false:=by kernel_rfl
theorem fb87:Tryz.f87.body.isNone=false:=by kernel_rfl
theorem fn132 : ngB Tryz.f132 = false := by kernel_rfl
theorem fn133 : ngB Tryz.f133 = false := by kernel_rfl
theorem fn87 : ngB Tryz.f87 = false := by kernel_rfl
theorem Yh:Bc Tryz.prog 187 0=some (5,0):=by kernel_rfl
theorem Nt:Bc Tryz.prog 187 1=some (23,1):=by kernel_rfl
theorem sz22:(Tryz.prog.info? 22).map (·.size)=some 1:=by kernel_rfl
theorem un22:(Tryz.prog.underlying 22).map TypeDesc.isRow=some false:=by kernel_rfl
theorem zr22:(Tryz.prog.info? 22).map (·.zero)=some (some (.slice none 0 0)):=by kernel_rfl
end Go.Proofs.Eng
end
section
set_option maxRecDepth 100000
set_option maxHeartbeats 4000000
namespace Go.Proofs.Eng
open Go.RowKit
open Extern.Stop (cell)
theorem fb49:Tryz.f49.body.isNone=false:=by kernel_rfl
theorem fb85:Tryz.f85.body.isNone=false:=by kernel_rfl
theorem fb86:Tryz.f86.body.isNone=false:=by kernel_rfl
theorem fb96:Tryz.f96.body.isNone=false:=by kernel_rfl
theorem fn49 : ngB Tryz.f49 = false := by kernel_rfl
theorem fn85 : ngB Tryz.f85 = false := by kernel_rfl
theorem fn86 : ngB Tryz.f86 = false := by kernel_rfl
theorem fn96 : ngB Tryz.f96 = false := by kernel_rfl
end Go.Proofs.Eng
end
section
set_option maxRecDepth 100000
set_option maxHeartbeats 4000000
namespace Go.Proofs.Eng
open Go.RowKit
open Extern.Stop (cell)
theorem sz175:(Tryz.prog.info? 175).map (·.size)=some 8:=by kernel_rfl
theorem u175:Tryz.prog.underlying 175=some (.array 8 174):=by kernel_rfl
theorem u213:Tryz.prog.underlying 213=some (.array 64 174):=by kernel_rfl
theorem ua175:(Tryz.prog.underlying 175).map TypeDesc.isRow=some true:=by kernel_rfl
theorem zr175:(Tryz.prog.info? 175).map (·.zero)=some (some (.agg #[.int .u32 0,.int .u32 0,.int .u32 0,.int .u32 0,.int .u32 0,.int .u32 0,.int .u32 0,.int .u32 0])):=by kernel_rfl
theorem zr213:(Tryz.prog.info? 213).map (·.zero)=some (some (.agg #[.int .u32 0,.int .u32 0,.int .u32 0,.int .u32 0,.int .u32 0,.int .u32 0,.int .u32 0,.int .u32 0,.int .u32 0,.int .u32 0,.int .u32 0,.int .u32 0,.int .u32 0,.int .u32 0,.int .u32 0,.int .u32 0,.int .u32 0,.int .u32 0,.int .u32 0,.int .u32 0,.int .u32 0,.int .u32 0,.int .u32 0,.int .u32 0,.int .u32 0,.int .u32 0,.int .u32 0,.int .u32 0,.int .u32 0,.int .u32 0,.int .u32 0,.int .u32 0,.int .u32 0,.int .u32 0,.int .u32 0,.int .u32 0,.int .u32 0,.int .u32 0,.int .u32 0,.int .u32 0,.int .u32 0,.int .u32 0,.int .u32 0,.int .u32 0,.int .u32 0,.int .u32 0,.int .u32 0,.int .u32 0,.int .u32 0,.int .u32 0,.int .u32 0,.int .u32 0,.int .u32 0,.int .u32 0,.int .u32 0,.int .u32 0,.int .u32 0,.int .u32 0,.int .u32 0,.int .u32 0,.int .u32 0,.int .u32 0,.int .u32 0,.int .u32 0])):=by kernel_rfl
end Go.Proofs.Eng
end
section
set_option maxRecDepth 100000
set_option maxHeartbeats 4000000
namespace Go.Proofs.Eng
open Go.RowKit
open Extern.Stop (cell)
theorem fb162:Tryz.f162.body.isNone=false:=by kernel_rfl
theorem fn162 : ngB Tryz.f162 = false := by kernel_rfl
theorem u176:Tryz.prog.underlying 176=some (.array 64 5):=by kernel_rfl
end Go.Proofs.Eng
end
section
set_option maxRecDepth 100000
set_option maxHeartbeats 4000000
namespace Go.Proofs.Eng
open Go.RowKit
open Extern.Stop (cell)
theorem fb126:Tryz.f126.body.isNone=false:=by kernel_rfl
theorem fb81:Tryz.f81.body.isNone=false:=by kernel_rfl
theorem fb82:Tryz.f82.body.isNone=false:=by kernel_rfl
theorem fb83:Tryz.f83.body.isNone=false:=by kernel_rfl
theorem fn126 : ngB Tryz.f126 = false := by kernel_rfl
theorem fn81 : ngB Tryz.f81 = false := by kernel_rfl
theorem fn82 : ngB Tryz.f82 = false := by kernel_rfl
theorem fn83 : ngB Tryz.f83 = false := by kernel_rfl
theorem Tf:Bc Tryz.prog 178 0=some (175,0):=by kernel_rfl
theorem Yi:Bc Tryz.prog 178 1=some (176,8):=by kernel_rfl
theorem J7:Bc Tryz.prog 178 2=some (3,72):=by kernel_rfl
theorem Te:Bc Tryz.prog 178 3=some (3,73):=by kernel_rfl
theorem pl178:Da Tryz.prog 178=some (.agg #[.int .u32 0,.int .u32 0,.int .u32 0,.int .u32 0,.int .u32 0,.int .u32 0,.int .u32 0,.int .u32 0,.int .u8 0,.int .u8 0,.int .u8 0,.int .u8 0,.int .u8 0,.int .u8 0,.int .u8 0,.int .u8 0,.int .u8 0,.int .u8 0,.int .u8 0,.int .u8 0,.int .u8 0,.int .u8 0,.int .u8 0,.int .u8 0,.int .u8 0,.int .u8 0,.int .u8 0,.int .u8 0,.int .u8 0,.int .u8 0,.int .u8 0,.int .u8 0,.int .u8 0,.int .u8 0,.int .u8 0,.int .u8 0,.int .u8 0,.int .u8 0,.int .u8 0,.int .u8 0,.int .u8 0,.int .u8 0,.int .u8 0,.int .u8 0,.int .u8 0,.int .u8 0,.int .u8 0,.int .u8 0,.int .u8 0,.int .u8 0,.int .u8 0,.int .u8 0,.int .u8 0,.int .u8 0,.int .u8 0,.int .u8 0,.int .u8 0,.int .u8 0,.int .u8 0,.int .u8 0,.int .u8 0,.int .u8 0,.int .u8 0,.int .u8 0,.int .u8 0,.int .u8 0,.int .u8 0,.int .u8 0,.int .u8 0,.int .u8 0,.int .u8 0,.int .u8 0,.int .i64 0,.int .i64 0],[(0,8),(8,64),(72,1),(73,1)]):=by kernel_rfl
theorem sz176:(Tryz.prog.info? 176).map (·.size)=some 64:=by kernel_rfl
theorem sz178:(Tryz.prog.info? 178).map (·.size)=some 74:=by kernel_rfl
theorem u132:Tryz.prog.underlying 132=some (.pointer 178):=by kernel_rfl
theorem u181:Tryz.prog.underlying 181=some (.array 8 5):=by kernel_rfl
theorem ua176:(Tryz.prog.underlying 176).map TypeDesc.isRow=some true:=by kernel_rfl
theorem ua178:(Tryz.prog.underlying 178).map TypeDesc.isRow=some true:=by kernel_rfl
theorem zr178:(Tryz.prog.info? 178).map (·.zero)=some (some (.agg #[.int .u32 0,.int .u32 0,.int .u32 0,.int .u32 0,.int .u32 0,.int .u32 0,.int .u32 0,.int .u32 0,.int .u8 0,.int .u8 0,.int .u8 0,.int .u8 0,.int .u8 0,.int .u8 0,.int .u8 0,.int .u8 0,.int .u8 0,.int .u8 0,.int .u8 0,.int .u8 0,.int .u8 0,.int .u8 0,.int .u8 0,.int .u8 0,.int .u8 0,.int .u8 0,.int .u8 0,.int .u8 0,.int .u8 0,.int .u8 0,.int .u8 0,.int .u8 0,.int .u8 0,.int .u8 0,.int .u8 0,.int .u8 0,.int .u8 0,.int .u8 0,.int .u8 0,.int .u8 0,.int .u8 0,.int .u8 0,.int .u8 0,.int .u8 0,.int .u8 0,.int .u8 0,.int .u8 0,.int .u8 0,.int .u8 0,.int .u8 0,.int .u8 0,.int .u8 0,.int .u8 0,.int .u8 0,.int .u8 0,.int .u8 0,.int .u8 0,.int .u8 0,.int .u8 0,.int .u8 0,.int .u8 0,.int .u8 0,.int .u8 0,.int .u8 0,.int .u8 0,.int .u8 0,.int .u8 0,.int .u8 0,.int .u8 0,.int .u8 0,.int .u8 0,.int .u8 0,.int .i64 0,.int .i64 0])):=by kernel_rfl
theorem zr181:(Tryz.prog.info? 181).map (·.zero)=some (some (.agg #[.int .u8 0,.int .u8 0,.int .u8 0,.int .u8 0,.int .u8 0,.int .u8 0,.int .u8 0,.int .u8 0])):=by kernel_rfl
end Go.Proofs.Eng
end
section
set_option maxRecDepth 100000
set_option maxHeartbeats 4000000
namespace Go.Proofs.Eng
open Go.RowKit
open Extern.Stop (cell)
theorem fb191:Tryz.f191.body.isNone=false:=by kernel_rfl
theorem fn191 : ngB Tryz.f191 = false := by kernel_rfl
theorem J6:Bc Tryz.prog 243 0=some (23,0):=by kernel_rfl
theorem Ln:Bc Tryz.prog 243 1=some (31,1):=by kernel_rfl
theorem pl243:Da Tryz.prog 243=some (.agg #[.slice none 0 0,.int .i64 0],[(0,1),(1,1)]):=by kernel_rfl
theorem u192:Tryz.prog.underlying 192=some (.pointer 243):=by kernel_rfl
end Go.Proofs.Eng
end
section
set_option maxRecDepth 100000
set_option maxHeartbeats 4000000
namespace Go.Proofs.Eng
open Go.RowKit
open Extern.Stop (cell)
theorem fb106:Tryz.f106.body.isNone=false:=by kernel_rfl
theorem fn106 : ngB Tryz.f106 = false := by kernel_rfl
theorem Ct:Bc Tryz.prog 102 2=some (100,2):=by kernel_rfl
theorem Yj:Bc Tryz.prog 102 3=some (3,3):=by kernel_rfl
theorem Gb:Bc Tryz.prog 102 4=some (3,4):=by kernel_rfl
theorem Tj:Bc Tryz.prog 102 5=some (4,5):=by kernel_rfl
theorem H7:Bc Tryz.prog 102 6=some (4,6):=by kernel_rfl
theorem sz100:(Tryz.prog.info? 100).map (·.size)=some 1:=by kernel_rfl
theorem sz113:(Tryz.prog.info? 113).map (·.size)=some 2:=by kernel_rfl
theorem sz4:(Tryz.prog.info? 4).map (·.size)=some 1:=by kernel_rfl
theorem sz9:(Tryz.prog.info? 9).map (·.size)=some 1:=by kernel_rfl
theorem u100:Tryz.prog.underlying 100=some (.map 9 113):=by kernel_rfl
theorem u34:Tryz.prog.underlying 34=some (.pointer 102):=by kernel_rfl
theorem u74:Tryz.prog.underlying 74=some (.slice 9):=by kernel_rfl
theorem un100:(Tryz.prog.underlying 100).map TypeDesc.isRow=some false:=by kernel_rfl
theorem un4:(Tryz.prog.underlying 4).map TypeDesc.isRow=some false:=by kernel_rfl
theorem un9:(Tryz.prog.underlying 9).map TypeDesc.isRow=some false:=by kernel_rfl
theorem zr113:(Tryz.prog.info? 113).map (·.zero)=some (some (.agg #[.slice none 0 0,.int .i64 0])):=by kernel_rfl
end Go.Proofs.Eng
end
section
set_option maxRecDepth 100000
set_option maxHeartbeats 4000000
namespace Go.Proofs.Eng
open Go.RowKit
open Extern.Stop (cell)
theorem Eq:Bc Tryz.prog 102 1=some (3,1):=by kernel_rfl
theorem Dw:Bc Tryz.prog 113 0=some (23,0):=by kernel_rfl
theorem Th:Bc Tryz.prog 113 1=some (3,1):=by kernel_rfl
theorem pl113:Da Tryz.prog 113=some (.agg #[.slice none 0 0,.int .i64 0],[(0,1),(1,1)]):=by kernel_rfl
theorem ua113:(Tryz.prog.underlying 113).map TypeDesc.isRow=some true:=by kernel_rfl
theorem un34:(Tryz.prog.underlying 34).map TypeDesc.isRow=some false:=by kernel_rfl
end Go.Proofs.Eng
end
section
set_option maxRecDepth 100000
set_option maxHeartbeats 4000000
namespace Go.Proofs.Eng
open Go.RowKit
open Extern.Stop (cell)
theorem fb141:Tryz.f141.body.isNone=false:=by kernel_rfl
theorem fb142:Tryz.f142.body.isNone=false:=by kernel_rfl
theorem fb146:Tryz.f146.body.isNone=false:=by kernel_rfl
theorem fb60:Tryz.f60.body.isNone=false:=by kernel_rfl
theorem fb61:Tryz.f61.body.isNone=false:=by kernel_rfl
theorem fb62:Tryz.f62.body.isNone=false:=by kernel_rfl
theorem fb63:Tryz.f63.body.isNone=false:=by kernel_rfl
theorem fb64:Tryz.f64.body.isNone=false:=by kernel_rfl
theorem fb65:Tryz.f65.body.isNone=false:=by kernel_rfl
theorem fn141 : ngB Tryz.f141 = false := by kernel_rfl
theorem fn142 : ngB Tryz.f142 = false := by kernel_rfl
theorem fn146 : ngB Tryz.f146 = false := by kernel_rfl
theorem fn60 : ngB Tryz.f60 = false := by kernel_rfl
theorem fn61 : ngB Tryz.f61 = false := by kernel_rfl
theorem fn62 : ngB Tryz.f62 = false := by kernel_rfl
theorem fn63 : ngB Tryz.f63 = false := by kernel_rfl
theorem fn64 : ngB Tryz.f64 = false := by kernel_rfl
theorem fn65 : ngB Tryz.f65 = false := by kernel_rfl
theorem Aea:Bc Tryz.prog 102 0=some (3,0):=by kernel_rfl
theorem inf9:(Tryz.prog.info? 9).map (fun i=>(i.zero,i.size,i.bytes))=some (some (.string ByteArray.empty),1,16):=by kernel_rfl
end Go.Proofs.Eng
end
section
set_option maxRecDepth 100000
set_option maxHeartbeats 4000000
namespace Go.Proofs.Eng
open Go.RowKit
open Extern.Stop (cell)
theorem fb58:Tryz.f58.body.isNone=false:=by kernel_rfl
theorem fb84:Tryz.f84.body.isNone=false:=by kernel_rfl
theorem fn58 : ngB Tryz.f58 = false := by kernel_rfl
theorem fn84 : ngB Tryz.f84 = false := by kernel_rfl
theorem pl102:Da Tryz.prog 102=some (.agg #[.int .i64 0,.int .i64 0,.map none,.int .i64 0,.int .i64 0,.bool false,.bool false],[(0,1),(1,1),(2,1),(3,1),(4,1),(5,1),(6,1)]):=by kernel_rfl
end Go.Proofs.Eng
end
section
set_option maxRecDepth 100000
set_option maxHeartbeats 4000000
namespace Go.Proofs.Eng
open Go.RowKit
open Extern.Stop (cell)
theorem fb35:Tryz.f35.body.isNone=false:=by kernel_rfl
theorem fn35 : ngB Tryz.f35 = false := by kernel_rfl
end Go.Proofs.Eng
end
section
set_option maxRecDepth 100000
set_option maxHeartbeats 4000000
namespace Go.Proofs.Eng
open Go.RowKit
open Extern.Stop (cell)
theorem fb193:Tryz.f193.body.isNone=false:=by kernel_rfl
theorem fn193 : ngB Tryz.f193 = false := by kernel_rfl
end Go.Proofs.Eng
end
section
set_option maxRecDepth 100000
set_option maxHeartbeats 4000000
namespace Go.Proofs.Eng
open Go.RowKit
open Extern.Stop (cell)
theorem Hm (m:Nat) (w:World) (hs:m≤225179981368000) :
    Ret Tryz.prog 193 [.slice none 0 0,.int .i64 (m:Int)] w (fun v w'=>(∃ p c',v = .slice p 0 c'∧Own kByte 5 0 w.heap.size w' p 0 c' [])∧Ext w w'):=by
 have hX:=Ext.refl w
 refine eN 27 Tryz.func193 ?_
 refine Ab (Aa ?_)
 refine pA (Ac (t_n (Ab (Ab (Aa ?_)))))
 refine pM ?_
 refine p1 ((Bx rfl rfl).cast (congrArg _ (decide_eq_false (by omega)))) ?_
 refine Ac (t_n ?_)
 refine c_f rfl ?_
 refine Ai (t_n (Ab (Ab (Aa ?_))))
 refine pM (pM ?_)
 refine p1 (Mt u23 rfl) ?_
 refine pM ?_
 refine p1 (Aj u23 rfl) ?_
 refine p1 (Cz rfl rfl (Ag (by omega) (by omega))) ?_
 refine p1 ((Cz rfl rfl (Ag (by omega) (by omega))).cast (congrArg (Value.int .i64) (show _=(m:Int) by omega))) ?_
 refine pA (Ac (t_n (Ab (Aa ?_))))
 refine pM ?_
 refine p1 (C0 rfl rfl) ?_
 refine Ac (t_n ?_)
 refine As rfl (fun hc16=>?_) (fun hc16=>?_)
 ·refine Aa ?_
  refine pM (pM ?_)
  refine p1 (Mt u23 rfl) ?_
  refine p1 (D8 u23 sz5 rfl rfl (Nat.le_refl _)) ?_
  refine pM ?_
  have hXs:=hX.size
  refine Zh (kByte) (m:=m) u23 u3 inf5 rfl Bw rfl rfl (by omega) (by omega) (by omega) ?_
  intro p22 c22 w1 hK22 hge22 hE1
  have hX:=hX.ext hE1
  have hO:=hK22 0 w.heap.size (hXs)
  refine pM ?_
  refine p1 (Aj u23 rfl) ?_
  refine p1 (D8 u23 sz5 rfl rfl (Nat.zero_le _)) ?_
  refine pA (Ac (t_n (Ab (Aa ?_))))
  refine pM (pA (Ac (t_n (Ak ?_))))
  refine eR1 ?_
  exact⟨⟨_,_,rfl,hO⟩,hX⟩
 refine Ai (t_n (Ab (Aa ?_)))
 refine pM (pA (Ac (t_n (Ak ?_))))
 refine eR1 ?_
 exact⟨⟨_,_,rfl,Own.nil _ _ _ _ _⟩,hX⟩
theorem Kk {B:Nat} (xss:List _) (p:Option Addr) (n c:Nat) (w:World) (hl:Sl (kSl kByte 5) 23 B w p n c xss) (hs:xss.flatten.length≤225179981368000) :
    Ret Tryz.prog 144 [.slice p n c] w (fun v w'=>(∃ q m c',v = .slice q m c'∧Own kByte 5 0 w.heap.size w' q m c' xss.flatten)∧Ext w w'):=by
 have hX:=Ext.refl w
 refine eN 36 Tryz.func144 ?_
 refine Ab (Aa ?_)
 refine pA (Ac (t_n (Ab (Aa ?_))))
 refine pA (Ac (t_n (Ab (Ab (Aa ?_)))))
 refine pM ?_
 refine p1 (Aj u22 rfl) ?_
 refine pM (Ac (t_n (Am ?_)))
 have hWL0:=Ext.refl w
 have hlen:=hl.len
 have hfit:=hl.fit
 have hcap:=hl.cap
 refine Bg (ι:=Nat) [3,5,11,12,13,14,15,16,17,18,19,20,21,22] (fun k=>[(3,.int .i64 (((xss.take k).flatten.length:Nat):Int)),(11,.int .i64 (k:Int))]) (fun k w'=>Ext w w'∧(k≤n)) (fun k=>n - k) (0) ⟨rfl,rfl,trivial⟩ ⟨Ext.refl _,by omega⟩ ?_
 rintro k GL0 w1 ⟨hE1,hL⟩
 have hX:=hX.ext hE1
 have hWL0:=hE1
 refine Ab (Aa ?_)
 refine p1 (Bx rfl rfl) ?_
 refine Ac (t_n (Ab ?_))
 refine As rfl (fun hc12=>?_) (fun hc12=>?_)
 ·refine Ai (t_n (Ab (Am (Ab ?_))))
  obtain⟨q1,m1,c1,hcell1,hS1⟩:=(hl.ext hX).slAt k (by omega)
  have hS1l:=hS1.len
  have hadd:=He (xss:=xss) (k:=k) (by omega)
  have hsuc:=congrArg List.length (E9 (xss:=xss) (k:=k) (by omega))
  rw[List.length_append] at hsuc
  refine Aa ?_
  refine p1 (C5 u22 sz23 rfl rfl ((hl.ext hX).adr J5 (by omega)) (by omega)) ?_
  refine p1 (Ae un23 rfl hcell1) ?_
  refine pA (Ac (t_n (Ab (Aa ?_))))
  refine pM (pM ?_)
  refine p1 (Aj u23 rfl) ?_
  refine p1 ((Aw rfl rfl (Ag (by omega) (by omega))).cast (congrArg (Value.int .i64) (show _=(((xss.take (k+1)).flatten.length:Nat):Int) by omega))) ?_
  refine pA (Ac (t_n (Ab (Aa ?_))))
  refine pM ?_
  refine p1 ((Bx rfl rfl).cast (congrArg _ (decide_eq_false (by omega)))) ?_
  refine Ac (t_n ?_)
  refine c_f rfl ?_
  refine Ai (b_n (t_n (Aa ?_)))
  refine p1 (Aw rfl rfl (Ag (by omega) (by omega))) ?_
  refine pM (Ac ?_)
  refine t_n (aK (k+1) ⟨rfl,rfl,trivial⟩ ?_)
  exact⟨⟨hWL0,by omega⟩,by((show _<_);omega)⟩
 refine Ba (t_e (t_e (Bu (t_n (Ab ?_)))))
 have hle9:=Lr xss k
 have hXs:=hX.size
 refine Aa ?_
 refine pM ?_
 refine Ah Tryz.func193 fn193 fb193 (Hm ((xss.take k).flatten.length:Nat) _ (by omega)) rfl ?_
 rintro v2 w2 ⟨⟨pG,cG,rfl,hO⟩,hE2⟩
 have hX:=hX.ext hE2
 have hO:=hO.lower hXs
 refine pA (Ac (t_n (Ab (Ab (Aa ?_)))))
 refine pM ?_
 refine p1 (Aj u22 rfl) ?_
 refine pM (Ac (t_n (Am ?_)))
 refine Bg (ι:=Nat×Option Addr×Nat×Nat) [6,8,27,28,29,30,31,32,33,34] (fun (k2,q,m,c2)=>[(6,.slice q m c2),(27,.int .i64 (k2:Int))]) (fun (k2,q,m,c2) w'=>Ext w w'∧(Own kByte 5 0 w.heap.size w' q m c2 (xss.take k2).flatten∧k2≤n)) (fun (k2,q,m,c2)=>n - k2) ((0,pG,0,cG)) ⟨rfl,rfl,trivial⟩ ⟨hX,⟨by simpa using hO,by omega⟩⟩ ?_
 rintro⟨k2,q,m,c2⟩ GL2 w3 ⟨hE3,hO,hk2⟩
 have hX:=hE3
 refine Ab (Aa ?_)
 refine p1 (Bx rfl rfl) ?_
 refine Ac (t_n (Ab ?_))
 refine As rfl (fun hc28=>?_) (fun hc28=>?_)
 ·refine Ai (t_n (Ab (Am (Ab ?_))))
  obtain⟨q2,m2,c3,hcell2,hS2⟩:=(hl.ext hX).slAt k2 (by omega)
  have hS2l:=hS2.len
  have hOl:=hO.len
  have hadd2:=He (xss:=xss) (k:=k2) (by omega)
  refine Aa ?_
  refine p1 (C5 u22 sz23 rfl rfl ((hl.ext hX).adr J5 (by omega)) (by omega)) ?_
  refine p1 (Ae un23 rfl hcell2) ?_
  refine pA (Ac (t_n (Aa ?_)))
  refine pM (pM ?_)
  have hq1:=hX.size
  refine Bv (d:=kByte) (xss.getD k2 []) u23 inf5 rfl Bw rfl rfl hO (C6 u23 hS2 (by decide)) hS2.len (C8 _ _ _) (rfl) (by omega) (by omega) (by omega) (by omega) (by decide) ?_
  intro p33 c33 w4 hO hM4
  have hX:=hX.mod hM4 (Nat.le_refl _)
  refine pA (Ac (b_n (t_n (Aa ?_))))
  refine p1 (Aw rfl rfl (Ag (by omega) (by omega))) ?_
  refine pM (Ac ?_)
  refine t_n (aK ((k2+1,p33,m+m2,c33)) ⟨rfl,rfl,trivial⟩ ?_)
  exact⟨⟨hX,⟨by rw[E9 (by omega)];exact hO,by omega⟩⟩,by(dsimp only;omega)⟩
 have hkn:k2=n:=by omega
 rw[hkn,List.take_of_length_le (by omega)] at hO
 refine Ba (t_e (t_e (Bu (t_n (Ab (Aa ?_))))))
 refine pM (pA (Ac (t_n (Ak ?_))))
 refine eR1 ?_
 exact⟨⟨_,_,_,rfl,hO⟩,hX⟩
end Go.Proofs.Eng
end
section
set_option maxRecDepth 100000
set_option maxHeartbeats 4000000
namespace Go.Proofs.Eng
open Go.RowKit
open Extern.Stop (cell)
theorem fb144:Tryz.f144.body.isNone=false:=by kernel_rfl
theorem fn144 : ngB Tryz.f144 = false := by kernel_rfl
theorem Ps:Bc Tryz.prog 99 0=some (3,0):=by kernel_rfl
theorem I1:Bc Tryz.prog 99 1=some (3,1):=by kernel_rfl
theorem Td:Bc Tryz.prog 99 2=some (23,2):=by kernel_rfl
end Go.Proofs.Eng
end
section
set_option maxRecDepth 100000
set_option maxHeartbeats 4000000
namespace Go.Proofs.Eng
open Go.RowKit
open Extern.Stop (cell)
theorem Le (seg size:Int) (xs:List UInt8) (B:Nat) (p:Option Addr) (n c:Nat) (w:World) (hl:Sl kByte 5 B w p n c xs) (hq:Qt w) :
    Ret Tryz.prog 97 [.agg #[.int .i64 seg,.int .i64 size,.slice p n c]] w (fun v w'=>(∃ q m c' e,v = .tuple #[.slice q m c',.int .i64 e]∧e=errM seg size xs∧((e=0∧(∃ s z:Nat,seg=(s:Int)∧size=(z:Int)∧(Mf.mk s z xs).Ok∧Own kByte 5 0 w.heap.size w' q m c' (manB ⟨s,z,xs⟩)))∨(e≠0∧¬ (∃ s z:Nat,seg=(s:Int)∧size=(z:Int)∧(Mf.mk s z xs).Ok))))∧Ext w w'):=by
 have hX:=Ext.refl w
 refine eN 43 Tryz.func97 ?_
 refine Ab (Aa ?_)
 refine Em (by conv=>lhs;whnf) ?_
 intro w1 g1 hN1
 have hE1:=hN1.ext
 have hX:=hX.ext hE1
 have hB1:=hN1.blk
 refine pA ?_
 refine pA ?_
 refine Ac (t_n (Ab (Am (Ab ?_))))
 have hWr1:=Ext.refl w1
 refine F6 (ι:=Unit) [4,5,6,7,8,9,10,11,12,13,14,15,16,17,18,19,20,21,22] (fun _=>[(4,.bool (decide (seg<1∨999999<seg∨size<0∨16777216<size)))]) (fun _ w'=>Ext w1 w') ?_ ?_
 ·skip
  refine Aa ?_
  refine p1 (Ad Ps sz3 rfl) ?_
  refine p1 (Ae un3 rfl (hB1.cell (rfl))) ?_
  refine p1b (Bx rfl rfl) (fun hb1_2=>?_) (fun hb1_2=>?_)
  ·try simp only[dA,dB,dC,dD,dE,dF,dG,Int.not_lt,Int.not_le] at hb1_2
   refine pM ?_
   refine gF 8 ?_
   refine gF 8 ?_
   refine gF 8 ?_
   refine p1 (Ap rfl (by conv=>lhs;whnf)) ?_
   refine pM ?_
   refine gF 13 ?_
   refine gF 13 ?_
   refine gF 13 ?_
   refine p1 (Ap rfl (by conv=>lhs;whnf)) ?_
   refine pM ?_
   refine gF 18 ?_
   refine gF 18 ?_
   refine gF 18 ?_
   refine p1 (Ap rfl (by conv=>lhs;whnf)) ?_
   refine pA ?_
   refine Ac ?_
   refine t_n (aK () ⟨congrArg Value.bool (by exact(decide_eq_true (by omega)).symm),trivial⟩ hWr1)
  try simp only[dA,dB,dC,dD,dE,dF,dG,Int.not_lt,Int.not_le] at hb1_2
  refine pM ?_
  refine Eng.g1 8 rfl rfl (Ad Ps sz3 rfl) ?_
  refine Eng.g1 8 rfl rfl (Ae un3 rfl (hB1.cell (rfl))) ?_
  refine g1b 8 rfl rfl (C0 rfl rfl) (fun hb1_6=>?_) (fun hb1_6=>?_)
  ·try simp only[dA,dB,dC,dD,dE,dF,dG,Int.not_lt,Int.not_le] at hb1_6
   refine p1 (Aq rfl (by conv=>lhs;whnf)) ?_
   refine pM ?_
   refine gF 13 ?_
   refine gF 13 ?_
   refine gF 13 ?_
   refine p1 (Ap rfl (by conv=>lhs;whnf)) ?_
   refine pM ?_
   refine gF 18 ?_
   refine gF 18 ?_
   refine gF 18 ?_
   refine p1 (Ap rfl (by conv=>lhs;whnf)) ?_
   refine pA ?_
   refine Ac ?_
   refine t_n (aK () ⟨congrArg Value.bool (by exact(decide_eq_true (by omega)).symm),trivial⟩ hWr1)
  try simp only[dA,dB,dC,dD,dE,dF,dG,Int.not_lt,Int.not_le] at hb1_6
  refine p1 (Aq rfl (by conv=>lhs;whnf)) ?_
  refine pM ?_
  refine Eng.g1 13 rfl rfl (Ad I1 sz3 rfl) ?_
  refine Eng.g1 13 rfl rfl (Ae un3 rfl (hB1.cell (rfl))) ?_
  refine g1b 13 rfl rfl (Bx rfl rfl) (fun hb1_11=>?_) (fun hb1_11=>?_)
  ·try simp only[dA,dB,dC,dD,dE,dF,dG,Int.not_lt,Int.not_le] at hb1_11
   refine p1 (Aq rfl (by conv=>lhs;whnf)) ?_
   refine pM ?_
   refine gF 18 ?_
   refine gF 18 ?_
   refine gF 18 ?_
   refine p1 (Ap rfl (by conv=>lhs;whnf)) ?_
   refine pA ?_
   refine Ac ?_
   refine t_n (aK () ⟨congrArg Value.bool (by exact(decide_eq_true (by omega)).symm),trivial⟩ hWr1)
  try simp only[dA,dB,dC,dD,dE,dF,dG,Int.not_lt,Int.not_le] at hb1_11
  refine p1 (Aq rfl (by conv=>lhs;whnf)) ?_
  refine pM ?_
  refine Eng.g1 18 rfl rfl (Ad I1 sz3 rfl) ?_
  refine Eng.g1 18 rfl rfl (Ae un3 rfl (hB1.cell (rfl))) ?_
  refine g1b 18 rfl rfl (C0 rfl rfl) (fun hb1_16=>?_) (fun hb1_16=>?_)
  ·try simp only[dA,dB,dC,dD,dE,dF,dG,Int.not_lt,Int.not_le] at hb1_16
   refine p1 (Aq rfl (by conv=>lhs;whnf)) ?_
   refine pA ?_
   refine Ac ?_
   refine t_n (aK () ⟨congrArg Value.bool (by exact(decide_eq_true (by omega)).symm),trivial⟩ hWr1)
  try simp only[dA,dB,dC,dD,dE,dF,dG,Int.not_lt,Int.not_le] at hb1_16
  refine p1 (Aq rfl (by conv=>lhs;whnf)) ?_
  refine pA ?_
  refine Ac ?_
  refine t_n (aK () ⟨congrArg Value.bool (by exact(decide_eq_false (by omega)).symm),trivial⟩ hWr1)
 rintro _ Gr1 w2 hE2
 have hX:=hX.ext hE2
 have hB1:=hB1.ext hE2
 refine t_n ?_
 refine As rfl (fun hc4=>?_) (fun hc4=>?_)
 ·try simp only[dA,dB,dC,dD,dE,dF,dG,Int.not_lt,Int.not_le] at hc4
  refine Ab (Aa ?_)
  refine pA ?_
  refine pA ?_
  refine Ac (t_n (Ak (b_r (t_r ?_))))
  refine eR2 ?_
  exact⟨⟨_,_,_,_,rfl,by unfold errM;(rw[if_pos (by omega)]),.inr ⟨by decide,fun ⟨s,z,h1,h2,h3⟩=>by have:=h3.lo;have:=h3.hi;have:=h3.sz;have:=h3.ix;simp only at *;omega⟩⟩,hX⟩
 try simp only[dA,dB,dC,dD,dE,dF,dG,Int.not_lt,Int.not_le] at hc4
 refine Ab ?_
 have hlen:=hl.len
 have hfit:=hl.fit
 have hcap:=hl.cap
 refine Aa ?_
 refine p1 (Ad Td sz23 rfl) ?_
 refine p1 (Ae un23 rfl (hB1.cell (rfl))) ?_
 refine p1 (Aj u23 rfl) ?_
 refine p1 (C0 rfl rfl) ?_
 refine pA ?_
 refine Ac (t_n ?_)
 refine As rfl (fun hc23=>?_) (fun hc23=>?_)
 ·try simp only[dA,dB,dC,dD,dE,dF,dG,Int.not_lt,Int.not_le] at hc23
  refine Ab (Aa ?_)
  refine pA ?_
  refine pA ?_
  refine Ac (t_n (Ak (b_r (t_r ?_))))
  refine eR2 ?_
  exact⟨⟨_,_,_,_,rfl,by unfold errM;(rw[if_neg (by omega),if_pos (by omega)]),.inr ⟨by decide,fun ⟨s,z,h1,h2,h3⟩=>by have:=h3.lo;have:=h3.hi;have:=h3.sz;have:=h3.ix;simp only at *;omega⟩⟩,hX⟩
 try simp only[dA,dB,dC,dD,dE,dF,dG,Int.not_lt,Int.not_le] at hc23
 obtain⟨s,rfl⟩:∃ s:Nat,seg=(s:Int):=⟨seg.toNat,by omega⟩
 obtain⟨z,rfl⟩:∃ z:Nat,size=(z:Int):=⟨size.toNat,by omega⟩
 have hok:(Mf.mk s z xs).Ok:=⟨by show 1≤s;omega,by show s≤999999;omega,by show z≤16777216;omega,by show xs.length≤524288;omega⟩
 have hmb:=Im hok
 refine Ai (b_n (t_n (Ab ?_)))
 refine B7 (fun w1 w2=>Ext w1 w2) mixed ?_
 intro w3 hE3
 have hX:=hX.ext hE3
 have hB1:=hB1.ext hE3
 have hSr5:(fun w1 w2=>Ext w1 w2) w3 w3:=Ext.refl w3
 refine hT 0 rfl hSr5 (fun wS hSS=>by(exact(Ad Ps sz3 rfl))) ?_
 refine hT 1 rfl hSr5 (fun wS hSS=>by(have hB1:=hB1.ext hSS;exact(Ae un3 rfl (hB1.cell (rfl))))) ?_
 refine hT 2 rfl hSr5 (fun wS hSS=>by(exact(Cs u180 us3 rfl (Eo (by omega) (by omega))))) ?_
 refine hT 4 rfl hSr5 (fun wS hSS=>by(exact(Ad I1 sz3 rfl))) ?_
 refine hT 5 rfl hSr5 (fun wS hSS=>by(have hB1:=hB1.ext hSS;exact(Ae un3 rfl (hB1.cell (rfl))))) ?_
 refine hT 6 rfl hSr5 (fun wS hSS=>by(exact(Cs u180 us3 rfl (Eo (by omega) (by omega))))) ?_
 refine hT 8 rfl hSr5 (fun wS hSS=>by(exact(Ad Td sz23 rfl))) ?_
 refine hT 9 rfl hSr5 (fun wS hSS=>by(have hB1:=hB1.ext hSS;exact(Ae un23 rfl (hB1.cell (rfl))))) ?_
 refine h1L 3 (fun Q3 hQ3=>?_)
 refine Ah Tryz.func145 fn145 fb145 (Pb s (by omega) _) rfl ?_
 rintro v4 w4 ⟨⟨q31,l31,c31,rfl,hU⟩,hE4⟩
 have hX:=hX.ext hE4
 have hB1:=hB1.ext hE4
 have hSr5:=hSr5.ext hE4
 refine An hQ3 ⟨hSr5,?_⟩
 refine h1L 7 (fun Q7 hQ7=>?_)
 refine Ah Tryz.func145 fn145 fb145 (Pb z (by omega) _) rfl ?_
 rintro v5 w5 ⟨⟨q35,l35,c35,rfl,hV⟩,hE5⟩
 have hX:=hX.ext hE5
 have hB1:=hB1.ext hE5
 have hSr5:=hSr5.ext hE5
 have hU:=hU.ext hE5
 refine An hQ7 ⟨hSr5,?_⟩
 refine h1L 10 (fun Q10 hQ10=>?_)
 refine Au u22 inf23 rfl (by decide) (fun base hb=>fill3 (by rfl) (by rfl) (by rfl) base hb) ?_
 intro w6 g38 hN38
 have hE6:=hN38.ext
 have hX:=hX.ext hE6
 have hB1:=hB1.ext hE6
 have hSr5:=hSr5.ext hE6
 have hU:=hU.ext hE6
 have hV:=hV.ext hE6
 have hJ:=Ug hN38 (hU.sl.mono (Nat.zero_le B)) (hV.sl.mono (Nat.zero_le B)) (hl.ext hX)
 have e3:[lebU s,lebU z,xs].flatten=Dj ⟨s,z,xs⟩:=by simp[Dj]
 refine An hQ10 ⟨hSr5,?_⟩
 refine h1L 11 (fun Q11 hQ11=>?_)
 refine Ah Tryz.func144 fn144 fb144 (Kk _ _ _ _ _ hJ (by rw[e3];omega)) rfl ?_
 rintro v7 w7 ⟨⟨q39,m39,c39,rfl,hO⟩,hE7⟩
 have hX:=hX.ext hE7
 have hB1:=hB1.ext hE7
 have hSr5:=hSr5.ext hE7
 have hU:=hU.ext hE7
 have hV:=hV.ext hE7
 have hJ:=hJ.ext hE7
 rw[e3] at hO
 have hol:=hO.len
 have hXs:=hX.size
 refine An hQ11 ⟨hSr5,?_⟩
 refine h1L 12 (fun Q12 hQ12=>?_)
 refine Ah Tryz.func104 fn104 fb104 (Pq _ _ _ _ _ _ hO.sl (hq.ext hX) 3 (by decide)) rfl ?_
 rintro v8 w8 ⟨⟨qs,ms,cs,es,rfl,hS⟩,hE8⟩
 have hX:=hX.ext hE8
 have hB1:=hB1.ext hE8
 have hSr5:=hSr5.ext hE8
 have hO:=hO.ext hE8
 obtain⟨rfl,_,hS⟩:=hS.resolve_right (fun h=>by omega)
 have hS:=hS.lower hXs
 refine An hQ12 ⟨hSr5,?_⟩
 refine hT 13 rfl hSr5 (fun wS hSS=>by(exact(Ao rfl rfl))) ?_
 refine hT 14 rfl hSr5 (fun wS hSS=>by(exact(Ao rfl rfl))) ?_
 refine hT 15 rfl hSr5 (fun wS hSS=>by(exact(Ax (by conv=>lhs;whnf)))) ?_
 refine hT 16 rfl hSr5 (fun wS hSS=>by(exact(Ax (by conv=>lhs;whnf)))) ?_
 refine Bm (by kernel_rfl) ?_
 refine t_n (Ak ?_)
 refine eR2 ?_
 exact⟨⟨_,_,_,_,rfl,(Nu.2 hok).symm,.inl ⟨rfl,s,z,rfl,rfl,hok,hS⟩⟩,hX⟩
end Go.Proofs.Eng
end
section
set_option maxRecDepth 100000
set_option maxHeartbeats 4000000
namespace Go.Proofs.Eng
open Go.RowKit
open Extern.Stop (cell)
def Rdr (w:World) (g:Nat) (R:List UInt8) (err:Int):Prop:=∃ q m c,Blk w g #[.slice q m c,.int .i64 err] 243∧Sl kByte 5 0 w q m c R
theorem Rdr.ext {w w':World} {g:Nat} {R:List UInt8} {err:Int} (h:Rdr w g R err) (x:Ext w w'):Rdr w' g R err:=by
  obtain⟨q,m,c,h1,h2⟩:=h
  exact⟨q,m,c,h1.ext x,h2.ext x⟩
theorem Rdr.mod {w w':World} {g:Nat} {R:List UInt8} {err:Int} (h:Rdr w g R err) {B:Nat} {t:TypeId} (m:Mod B t w w') (_:0≤B) (ht:t∉[243,5]):Rdr w' g R err:=by
  obtain⟨q,m',c,h1,h2⟩:=h
  exact⟨q,m',c,h1.mod m (fun e=>ht (by simp[e])),h2.mod m (Nat.zero_le _) (fun e=>ht (by simp[kByte,Kind.pure] at e;simp[e]))⟩
theorem Abp (xs:List UInt8) (B:Nat) (p:Option Addr) (n c:Nat) (w:World) (hl:Sl kByte 5 B w p n c xs) (hs:n≤140737490000000) :
    Ret Tryz.prog 136 [.slice p n c] w (fun v w'=>(∃ g,v = .pointer (some ⟨g,0,none⟩)∧w.heap.size≤g∧Rdr w' g xs 0)∧Ext w w'):=by
 have hX:=Ext.refl w
 refine eN 14 Tryz.func136 ?_
 refine Ab (Aa ?_)
 refine pA (Ac (t_n (Ab (Aa ?_))))
 refine pM ?_
 have hO0:Own kByte 5 0 w.heap.size w none 0 0 []:=Own.nil _ _ _ _ _
 have hB0:=hX.size
 have hl2:=hl.ext hX
 refine Bv (d:=kByte) (xs) u23 inf5 rfl Bw rfl rfl hO0 (C6 u23 hl2 (by decide)) hl.len (C8 _ _ _) (rfl) (by omega) (by omega) (by omega) (by omega) (by decide) ?_
 intro p5 c5 w1 hO hM1
 have hX:=hX.mod hM1 (Nat.le_refl _)
 rw[List.nil_append,Nat.zero_add] at hO
 refine pA (Ac (t_n (Ab (Aa ?_))))
 refine pM (pM ?_)
 refine p1 (Aj u23 rfl) ?_
 refine pM ?_
 refine p1 (Aj u23 rfl) ?_
 refine p1 (Tw u23 sz5 rfl rfl rfl (Nat.le_refl _) (by have:=hO.small;omega)) ?_
 refine p1 (Mu pl243 (by conv=>lhs;whnf) rfl) ?_
 have hX2:=hX.size
 have hsm:=hO.small
 refine Em (by conv=>lhs;whnf) ?_
 intro w2 g13 hN13
 have hE2:=hN13.ext
 have hX:=hX.ext hE2
 have hO:=hO.ext hE2
 have hB13:=hN13.blk
 refine pA (Ac (t_n (Ak ?_)))
 refine eR1 ?_
 exact⟨⟨_,rfl,by have:=hN13.g_eq;omega,_,_,_,hB13,by have h9:=hO.sl;exact⟨h9.len,Nat.le_refl _,by omega,h9.row⟩⟩,hX⟩
theorem Wk (R:List UInt8) (g:Nat) (err:Int) (w:World) (hR:Rdr w g R err) :
    Ret Tryz.prog 139 [.pointer (some ⟨g,0,none⟩)] w (fun v w'=>v = .int .i64 err∧Ext w w'):=by
 obtain⟨q,m,c,hB,hS⟩:=hR
 have hX:=Ext.refl w
 refine eN 9 Tryz.func139 ?_
 refine Ab (Aa ?_)
 refine pA (Ac (t_n (Ab (Ab (Aa ?_)))))
 refine pM ?_
 refine p1 ((Bb u192 rfl rfl).cast (congrArg _ (decide_eq_false (by simp)))) ?_
 refine Ac (t_n ?_)
 refine c_f rfl ?_
 refine Ai (t_n (Ab (Aa ?_)))
 refine pM ?_
 refine p1 (Af rfl) ?_
 refine p1 (Ad Ln sz31 rfl) ?_
 refine p1 (Ae un31 rfl (hB.cell (rfl))) ?_
 refine pA (Ac (t_n (Ak ?_)))
 refine eR1 ?_
 exact⟨rfl,hX⟩
theorem Uo (R:List UInt8) (g:Nat) (err:Int) (w:World) (hR:Rdr w g R err) :
    Ret Tryz.prog 138 [.pointer (some ⟨g,0,none⟩)] w (fun v w'=>v = .int .i64 (R.length:Int)∧Ext w w'):=by
 obtain⟨q,m,c,hB,hS⟩:=hR
 have hX:=Ext.refl w
 refine eN 10 Tryz.func138 ?_
 refine Ab (Aa ?_)
 refine pA (Ac (t_n (Ab (Ab (Aa ?_)))))
 refine pM ?_
 refine p1 ((Bb u192 rfl rfl).cast (congrArg _ (decide_eq_false (by simp)))) ?_
 refine Ac (t_n ?_)
 refine c_f rfl ?_
 refine Ai (t_n (Ab (Aa ?_)))
 refine pM ?_
 refine p1 (Af rfl) ?_
 refine p1 (Ad J6 sz23 rfl) ?_
 refine p1 (Ae un23 rfl (hB.cell (rfl))) ?_
 refine p1 (Aj u23 rfl) ?_
 refine pA (Ac (t_n (Ak ?_)))
 refine eR1 ?_
 exact⟨by rw[hS.len],hX⟩
theorem My (R:List UInt8) (g:Nat) (err:Int) (w:World) (hR:Rdr w g R err) (e:Int) (used:Nat) (hu:used≤R.length) :
    Ret Tryz.prog 191 [.pointer (some ⟨g,0,none⟩),.int .i64 (used:Int),.int .i64 e] w (fun v w'=>v = .bool (decide ((if err=0 then e else err)=0))∧Rdr w' g (if (if err=0 then e else err)=0 then R.drop used else R) (if err=0 then e else err)∧Mod g 243 w w'):=by
 obtain⟨q,m,c,hB,hS⟩:=hR
 have hX:=Mod.refl g 243 w
 refine eN 30 Tryz.func191 ?_
 refine Ab (Aa ?_)
 refine pA (Ac (t_n (Ab (Ab ?_))))
 have hlen:=hS.len
 refine Aa ?_
 refine pM ?_
 refine p1 (Af rfl) ?_
 refine p1 (Ad Ln sz31 rfl) ?_
 refine p1 (Ae un31 rfl (hB.cell (rfl))) ?_
 refine p1 (Bn rfl rfl) ?_
 refine Ac (t_n ?_)
 refine As rfl (fun hc11=>?_) (fun hc11=>?_)
 ·have h2:(if err=0 then e else err)=e:=if_pos hc11
  refine Aa ?_
  refine pM (pM ?_)
  refine p1 (Af rfl) ?_
  refine p1 (Ad Ln sz31 rfl) ?_
  refine Ar rfl (by conv=>lhs;whnf) rfl rfl sz31 hB (by simp) ?_
  intro w1 hP1
  have hX:=hX.putB hP1 (Nat.le_refl _)
  have hB:=hP1.blk
  try simp only[List.setIfInBounds_toArray,List.set_cons_zero,List.set_cons_succ] at hB
  have hS:=hS.mod (hP1.mod 0 (Nat.zero_le _)) (Nat.zero_le _) (by decide)
  refine Ac (t_n (Ab (Ab (Aa ?_))))
  refine pM ?_
  refine p1 (Af rfl) ?_
  refine p1 (Ad Ln sz31 rfl) ?_
  refine p1 (Ae un31 rfl (hB.cell (rfl))) ?_
  refine p1 (A2 rfl rfl) ?_
  refine Ac (t_n ?_)
  refine As rfl (fun hc20=>?_) (fun hc20=>?_)
  ·refine Ab (Aa ?_)
   refine pA (Ac (t_n (Ak (t_r ?_))))
   refine eR1 ?_
   rw[h2]
   exact⟨congrArg Value.bool (decide_eq_false (by omega)).symm,by rw[if_neg (by omega)];exact⟨_,_,_,hB,hS⟩,hX⟩
  refine Ai (t_n (Ab (Aa ?_)))
  refine pM (pM ?_)
  refine p1 (Af rfl) ?_
  refine p1 (Ad J6 sz23 rfl) ?_
  refine p1 (Ae un23 rfl (hB.cell (rfl))) ?_
  refine pM ?_
  refine p1 (Es u23 sz5 rfl rfl (by omega)) ?_
  refine p1 (Af rfl) ?_
  refine p1 (Ad J6 sz23 rfl) ?_
  refine Ar rfl (by conv=>lhs;whnf) rfl rfl sz23 hB (by simp) ?_
  intro w2 hP2
  have hX:=hX.putB hP2 (Nat.le_refl _)
  have hB:=hP2.blk
  try simp only[List.setIfInBounds_toArray,List.set_cons_zero,List.set_cons_succ] at hB
  have hS:=hS.mod (hP2.mod 0 (Nat.zero_le _)) (Nat.zero_le _) (by decide)
  refine Ac (t_n (Ab (Aa ?_)))
  refine pA (Ac (t_n (Ak ?_)))
  refine eR1 ?_
  rw[h2]
  exact⟨congrArg Value.bool (decide_eq_true (by omega)).symm,by rw[if_pos (by omega)];exact⟨_,_,_,hB,hS.dropI used (by omega)⟩,hX⟩
 have h2:(if err=0 then e else err)=err:=if_neg hc11
 refine Ai (t_n (Ab (Ab (Aa ?_))))
 refine pM ?_
 refine p1 (Af rfl) ?_
 refine p1 (Ad Ln sz31 rfl) ?_
 refine p1 (Ae un31 rfl (hB.cell (rfl))) ?_
 refine p1 (A2 rfl rfl) ?_
 refine Ac (t_n ?_)
 refine As rfl (fun hc20=>?_) (fun hc20=>?_)
 ·refine Ab (Aa ?_)
  refine pA (Ac (t_n (Ak (t_r ?_))))
  refine eR1 ?_
  rw[h2]
  exact⟨congrArg Value.bool (decide_eq_false (by omega)).symm,by rw[if_neg (by omega)];exact⟨_,_,_,hB,hS⟩,hX⟩
 refine Ai (t_n (Ab (Aa ?_)))
 refine pM (pM ?_)
 refine p1 (Af rfl) ?_
 refine p1 (Ad J6 sz23 rfl) ?_
 refine p1 (Ae un23 rfl (hB.cell (rfl))) ?_
 refine pM ?_
 refine p1 (Es u23 sz5 rfl rfl (by omega)) ?_
 refine p1 (Af rfl) ?_
 refine p1 (Ad J6 sz23 rfl) ?_
 refine Ar rfl (by conv=>lhs;whnf) rfl rfl sz23 hB (by simp) ?_
 intro w3 hP3
 have hX:=hX.putB hP3 (Nat.le_refl _)
 have hB:=hP3.blk
 try simp only[List.setIfInBounds_toArray,List.set_cons_zero,List.set_cons_succ] at hB
 have hS:=hS.mod (hP3.mod 0 (Nat.zero_le _)) (Nat.zero_le _) (by decide)
 refine Ac (t_n (Ab (Aa ?_)))
 refine pA (Ac (t_n (Ak ?_)))
 refine eR1 ?_
 rw[h2]
 exact⟨congrArg Value.bool (decide_eq_true (by omega)).symm,by rw[if_pos (by omega)];exact⟨_,_,_,hB,hS.dropI used (by omega)⟩,hX⟩
theorem La (R:List UInt8) (g:Nat) (err:Int) (w:World) (hR:Rdr w g R err) (mo:Nat) :
    Ret Tryz.prog 137 [.pointer (some ⟨g,0,none⟩),.int .u64 (mo:Int)] w (fun v w'=>∃ (N:Nat) (err':Int) (R':List UInt8),v = .int .u64 (N:Int)∧N≤mo∧Rdr w' g R' err'∧Took (pNum mo R) (err≠0) (err'≠0) N R R'∧Mod g 243 w w'):=by
 obtain⟨q,m,c,hB,hS⟩:=hR
 have hX:=Mod.refl g 243 w
 refine eN 32 Tryz.func137 ?_
 refine Ab (Aa ?_)
 refine pA (Ac (t_n (Ab (Ab (Aa ?_)))))
 refine pM ?_
 refine p1 ((Bb u192 rfl rfl).cast (congrArg _ (decide_eq_false (by simp)))) ?_
 refine Ac (t_n ?_)
 refine c_f rfl ?_
 refine Ai (t_n (Ab (Aa ?_)))
 refine pM ?_
 refine p1 (Af rfl) ?_
 refine p1 (Ad J6 sz23 rfl) ?_
 refine p1 (Ae un23 rfl (hB.cell (rfl))) ?_
 refine Ah Tryz.func182 fn182 fb182 (M2 R _ _ _ _ _ hS) rfl ?_
 rintro v1 w1 ⟨rfl,hE1⟩
 have hX:=hX.ext hE1
 have hB:=hB.ext hE1
 have hS:=hS.ext hE1
 refine pM ?_
 refine p1 (Ao rfl rfl) ?_
 refine p1 (Ao rfl rfl) ?_
 refine p1 (Ao rfl rfl) ?_
 refine pA (pA (pA (Ac (t_n (Ab (Ab (Aa ?_)))))))
 refine pM ?_
 refine Af8 6 [20,21,22,23,24,25] [(25,.bool (decide ((getU R).2.2=0∧(mo:Int)<((getU R).1:Int))))] ?_ ?_
 ·skip
  refine p1 (Bn rfl rfl) ?_
  refine p1b (Al (by conv=>lhs;whnf)) (fun hb4_2=>?_) (fun hb4_2=>?_)
  ·try simp only[dA,dB,dC,dD,dE,dF,dG,Int.not_lt,Int.not_le] at hb4_2
   refine gM 21 (gM 21 ?_)
   refine Eng.g1 21 rfl rfl (C0 rfl rfl) ?_
   refine p1 (Ap rfl (by conv=>lhs;whnf)) ?_
   exact U6 rfl (by repeat (first | exact Agr.refl _ _ | exact Agr.hav _ _ _ | refine Agr.upd rfl ?_ | refine Agr.updR rfl ?_ | refine Agr.updL ?_ _ rfl | refine Agr.hav' rfl ?_)) ⟨congrArg Value.bool (by exact decide_eq_decide.2 (by omega)),trivial⟩
  try simp only[dA,dB,dC,dD,dE,dF,dG,Int.not_lt,Int.not_le] at hb4_2
  refine gF 21 (gF 21 (gF 21 ?_))
  refine p1 (Aq rfl (by conv=>lhs;whnf)) ?_
  exact U6 rfl (by repeat (first | exact Agr.refl _ _ | exact Agr.hav _ _ _ | refine Agr.upd rfl ?_ | refine Agr.updR rfl ?_ | refine Agr.updL ?_ _ rfl | refine Agr.hav' rfl ?_)) ⟨congrArg Value.bool (by exact(decide_eq_false (by omega)).symm),trivial⟩
 intro Gr4_1
 refine Ac (t_n ?_)
 refine As rfl (fun hc25=>?_) (fun hc25=>?_)
 ·try simp only[dA,dB,dC,dD,dE,dF,dG,Int.not_lt,Int.not_le] at hc25
  obtain⟨e5,he5⟩:∃ x:Int,x=5:=⟨_,rfl⟩
  refine Aa ?_
  refine pA (Ac (t_n (Ab (Ab (Aa ?_)))))
  refine pM (pM (pM ?_))
  refine Ah Tryz.func191 fn191 fb191 (My R g err _ ⟨_,_,_,hB,hS⟩ _ _ (Rv R)) rfl ?_
  rintro v2 w2 ⟨rfl,hR2,hM2⟩
  have hX:=hX.mod hM2 (trivial)
  refine p1 (Hu rfl) ?_
  refine Ac (t_n ?_)
  refine As rfl (fun hc30=>?_) (fun hc30=>?_)
  ·try simp only[dA,dB,dC,dD,dE,dF,dG,Int.not_lt,Int.not_le] at hc30
   subst he5
   have hne:=hc30
   refine Ab (Aa ?_)
   refine pA (Ac (t_n (Ak (t_r ?_))))
   refine eR1 ?_
   (rw[if_neg hne] at hR2
    exact⟨0,_,_,rfl,by omega,hR2,T8 hne fun hn=>by
      unfold pNum;rw[if_pos (by omega)] at hne;exact if_neg (by omega),hX⟩)
  try simp only[dA,dB,dC,dD,dE,dF,dG,Int.not_lt,Int.not_le] at hc30
  subst he5
  have h0:=Classical.byContradiction hc30
  refine Ai (t_n (Ab (Aa ?_)))
  refine pM (pA (Ac (t_n (Ak ?_))))
  refine eR1 ?_
  (rw[if_pos h0] at hR2
   have he0:err=0:=Classical.byContradiction fun hn=>by rw[if_neg hn] at h0;exact hn h0
   rw[if_pos he0] at h0
   exact⟨_,_,_,rfl,by omega,hR2,X0 (by rw[if_pos he0];omega) (by omega) (by unfold pNum;exact if_pos (by omega)),hX⟩)
 try simp only[dA,dB,dC,dD,dE,dF,dG,Int.not_lt,Int.not_le] at hc25
 obtain⟨e5,he5⟩:∃ x:Int,x=(getU R).2.2:=⟨_,rfl⟩
 refine Ai (t_n (Ab (Ab (Aa ?_))))
 refine pM (pM (pM ?_))
 refine Ah Tryz.func191 fn191 fb191 (My R g err _ ⟨_,_,_,hB,hS⟩ _ _ (Rv R)) rfl ?_
 rintro v3 w3 ⟨rfl,hR2,hM3⟩
 have hX:=hX.mod hM3 (trivial)
 refine p1 (Hu rfl) ?_
 refine Ac (t_n ?_)
 refine As rfl (fun hc30=>?_) (fun hc30=>?_)
 ·try simp only[dA,dB,dC,dD,dE,dF,dG,Int.not_lt,Int.not_le] at hc30
  subst he5
  have hne:=hc30
  refine Ab (Aa ?_)
  refine pA (Ac (t_n (Ak (t_r ?_))))
  refine eR1 ?_
  (rw[if_neg hne] at hR2
   exact⟨0,_,_,rfl,by omega,hR2,T8 hne fun hn=>by
     unfold pNum;rw[if_pos (by omega)] at hne;exact if_neg (by omega),hX⟩)
 try simp only[dA,dB,dC,dD,dE,dF,dG,Int.not_lt,Int.not_le] at hc30
 subst he5
 have h0:=Classical.byContradiction hc30
 refine Ai (t_n (Ab (Aa ?_)))
 refine pM (pA (Ac (t_n (Ak ?_))))
 refine eR1 ?_
 (rw[if_pos h0] at hR2
  have he0:err=0:=Classical.byContradiction fun hn=>by rw[if_neg hn] at h0;exact hn h0
  rw[if_pos he0] at h0
  exact⟨_,_,_,rfl,by omega,hR2,X0 (by rw[if_pos he0];omega) (by omega) (by unfold pNum;exact if_pos (by omega)),hX⟩)
end Go.Proofs.Eng
end
section
set_option maxRecDepth 100000
set_option maxHeartbeats 4000000
namespace Go.Proofs.Eng
open Go.RowKit
open Extern.Stop (cell)
theorem Xf (s:ByteArray) (w:World) (hs:s.size≤9223372036854775807) :
    Ret Tryz.prog 106 [.string s] w (fun v w'=>v = .bool (A1 s)∧Ext w w'):=by
 have hX:=Ext.refl w
 refine eN 28 Tryz.func106 ?_
 refine Ab (Aa ?_)
 refine pA (Ac (t_n (Ab (Ab ?_))))
 have hWr1:=Ext.refl w
 refine F6 (ι:=Unit) [4,5,6,7,8,9,10,11] (fun _=>[(11,.bool (decide (s.size=0∨32<s.size)))]) (fun _ w'=>Ext w w') ?_ ?_
 ·skip
  refine Aa ?_
  refine pM ?_
  refine p1 (Je u9 rfl) ?_
  refine p1 (Bn rfl rfl) ?_
  refine p1b (Al (by conv=>lhs;whnf)) (fun hb1_3=>?_) (fun hb1_3=>?_)
  ·try simp only[dA,dB,dC,dD,dE,dF,dG,Int.not_lt,Int.not_le] at hb1_3
   refine gF 7 (gF 7 (gF 7 ?_))
   refine p1 (Ap rfl (by conv=>lhs;whnf)) ?_
   refine Ac ?_
   refine t_n (aK () ⟨congrArg Value.bool (by exact(decide_eq_true (by omega)).symm),trivial⟩ hWr1)
  try simp only[dA,dB,dC,dD,dE,dF,dG,Int.not_lt,Int.not_le] at hb1_3
  refine gM 7 ?_
  refine g1 7 rfl rfl (Je u9 rfl) ?_
  refine g1 7 rfl rfl (C0 rfl rfl) ?_
  refine p1 (Aq rfl (by conv=>lhs;whnf)) ?_
  refine Ac ?_
  refine t_n (aK () ⟨congrArg Value.bool (by exact decide_eq_decide.2 (by omega)),trivial⟩ hWr1)
 rintro _ Gr1 w1 hE1
 have hX:=hX.ext hE1
 refine t_n ?_
 refine As rfl (fun hc11=>?_) (fun hc11=>?_)
 ·try simp only[dA,dB,dC,dD,dE,dF,dG,Int.not_lt,Int.not_le] at hc11
  have hp:=Wu hc11
  refine Ab (Aa ?_)
  refine pA (Ac (t_n (Ak (t_r ?_))))
  refine eR1 ?_
  exact⟨by rw[hp],hX⟩
 try simp only[dA,dB,dC,dD,dE,dF,dG,Int.not_lt,Int.not_le] at hc11
 refine Ai (t_n (Ab (Ab (Aa ?_))))
 refine pM ?_
 refine p1 (Je u9 rfl) ?_
 refine pM (Ac (t_n (Am ?_)))
 have hWL0:=Ext.refl w1
 refine Bg (ι:=Nat) [2,3,14,15,16,17,18,19,20,21,22,23,24,25,26,27] (fun k=>[(14,.int .i64 (k:Int))]) (fun k w'=>Ext w1 w'∧(k≤s.size∧∀ i,i<k→33≤(btAt s i).toNat∧(btAt s i).toNat≤126)) (fun k=>s.size - k) (0) ⟨rfl,trivial⟩ ⟨Ext.refl _,⟨by omega,fun i hi=>by omega⟩⟩ ?_
 rintro k GL0 w2 ⟨hE2,hk,hL⟩
 have hX:=hX.ext hE2
 have hWL0:=hE2
 refine Ab (Aa ?_)
 refine p1 (Bx rfl rfl) ?_
 refine Ac (t_n (Ab ?_))
 refine As rfl (fun hc15=>?_) (fun hc15=>?_)
 ·try simp only[dA,dB,dC,dD,dE,dF,dG,Int.not_lt,Int.not_le] at hc15
  refine Ai (t_n (Ab (Am (Ab (Aa ?_)))))
  refine pM (pA (Ac (t_n (Ab ?_))))
  have hWr6:=Ext.refl w2
  refine F6 (ι:=Unit) [17,18,19,20,21,22,23,24,25,26] (fun _=>[(26,.bool (decide (((btAt s k).toNat:Int)<33∨126<((btAt s k).toNat:Int))))]) (fun _ w'=>Ext w2 w') ?_ ?_
  ·skip
   refine Aa ?_
   refine pM (pM ?_)
   refine p1 (Tz u9 rfl rfl (by omega)) ?_
   refine p1 (Bx rfl rfl) ?_
   refine p1b (Al (by conv=>lhs;whnf)) (fun hb6_4=>?_) (fun hb6_4=>?_)
   ·try simp only[dA,dB,dC,dD,dE,dF,dG,Int.not_lt,Int.not_le] at hb6_4
    refine gF 21 (gF 21 (gF 21 (gF 21 ?_)))
    refine p1 (Ap rfl (by conv=>lhs;whnf)) ?_
    refine Ac ?_
    refine t_n (aK () ⟨congrArg Value.bool (by exact(decide_eq_true (by omega)).symm),trivial⟩ hWr6)
   try simp only[dA,dB,dC,dD,dE,dF,dG,Int.not_lt,Int.not_le] at hb6_4
   refine gM 21 (gM 21 ?_)
   refine g1 21 rfl rfl (Tz u9 rfl rfl (by omega)) ?_
   refine g1 21 rfl rfl (C0 rfl rfl) ?_
   refine p1 (Aq rfl (by conv=>lhs;whnf)) ?_
   refine Ac ?_
   refine t_n (aK () ⟨congrArg Value.bool (by exact decide_eq_decide.2 (by omega)),trivial⟩ hWr6)
  rintro _ Gr6 w3 hE3
  have hX:=hX.ext hE3
  have hWL0:=hWL0.ext hE3
  refine t_n ?_
  refine As rfl (fun hc26=>?_) (fun hc26=>?_)
  ·try simp only[dA,dB,dC,dD,dE,dF,dG,Int.not_lt,Int.not_le] at hc26
   have hp:A1 s=false:=Zk (i:=k) (by omega) (by omega)
   refine Ab (Aa ?_)
   refine pA (Ac (t_n (Ak (b_r (t_r (t_r (b_r (t_r ?_))))))))
   refine eR1 ?_
   exact⟨by rw[hp],hX⟩
  try simp only[dA,dB,dC,dD,dE,dF,dG,Int.not_lt,Int.not_le] at hc26
  refine Ai (b_n (t_n (Aa ?_)))
  refine p1 (Aw rfl rfl (Ag (by omega) (by omega))) ?_
  refine pM (Ac ?_)
  refine t_n (aK (k+1) ⟨rfl,trivial⟩ ?_)
  exact⟨⟨hWL0,⟨by omega,fun i hi=>if h:i<k then hL i h else by rw[show i=k from by omega];omega⟩⟩,by((show _<_);omega)⟩
 try simp only[dA,dB,dC,dD,dE,dF,dG,Int.not_lt,Int.not_le] at hc15
 have hp:A1 s=true:=Wv (by omega) (fun i hi=>hL i (by omega))
 refine Ba (t_e (t_e (Bu (t_n (Ab (Aa ?_))))))
 refine pA (Ac (t_n (Ak ?_)))
 refine eR1 ?_
 exact⟨by rw[hp],hX⟩
theorem Ez (g:Nat) (S:Nat→Prop) (D:DS) (w:World) (hD:Dsk S w g D) (ns:List ByteArray) (B:Nat) (p:Option Addr) (n c:Nat) (hl:Sl kStr 9 B w p n c ns) (hs:∀ s∈ns,s.size≤9223372036854775807) :
    Ret Tryz.prog 60 [.pointer (some ⟨g,0,none⟩),.slice p n c] w (fun v w'=>v = .int .i64 (lookD D ns)∧Ext w w'):=by
 obtain⟨r,μ,hB,hM,hSg,hSr,hF⟩:=hD.ex
 have hX:=Ext.refl w
 refine eN 23 Tryz.func60 ?_
 refine Ab (Aa ?_)
 refine pA (Ac (t_n (Ab (Ab (Aa ?_)))))
 refine pM ?_
 refine p1 ((Bb u34 rfl rfl).cast (congrArg _ (decide_eq_false (by simp)))) ?_
 refine Ac (t_n ?_)
 refine c_f rfl ?_
 refine Ai (t_n (Ab (Ab (Aa ?_))))
 refine pM ?_
 refine p1 (Aj u74 rfl) ?_
 refine pM (Ac (t_n (Am ?_)))
 have hWL0:=Ext.refl w
 have hlen:=hl.len
 have hfit:=hl.fit
 have hcap:=hl.cap
 refine Bg (ι:=Nat) [4,6,11,12,13,14,15,16,17,18] (fun k=>[(11,.int .i64 (k:Int))]) (fun k w'=>Ext w w'∧(k≤n∧∀ i,i<k→A1 (ns.getD i ByteArray.empty)=true)) (fun k=>n - k) (0) ⟨rfl,trivial⟩ ⟨Ext.refl _,⟨by omega,fun i hi=>by omega⟩⟩ ?_
 rintro k GL0 w1 ⟨hE1,hk,hL⟩
 have hX:=hX.ext hE1
 have hB:=hB.ext hE1
 have hWL0:=hE1
 refine Ab (Aa ?_)
 refine p1 (Bx rfl rfl) ?_
 refine Ac (t_n (Ab ?_))
 refine As rfl (fun hc12=>?_) (fun hc12=>?_)
 ·refine Ai (t_n (Ab (Am (Ab (Aa ?_)))))
  refine p1 (C5 u74 sz9 rfl rfl ((hl.ext hX).adr Iq (by omega)) (by omega)) ?_
  refine p1 (Ae un9 rfl ((hl.ext hX).strAt _ (by omega))) ?_
  refine pA (Ac (t_n (Ab (Aa ?_))))
  refine pM ?_
  refine Ah Tryz.func106 fn106 fb106 (Xf _ _ (hs _ (Cn (z:=ByteArray.empty) (i:=k) (by omega) rfl))) rfl ?_
  rintro v2 w2 ⟨rfl,hE2⟩
  have hX:=hX.ext hE2
  have hWL0:=hWL0.ext hE2
  refine p1 (Fc rfl) ?_
  refine Ac (t_n ?_)
  refine Ia rfl (fun hc17=>?_) (fun hc17=>?_)
  ·have hp:lookD D ns=30:=by unfold lookD;rw[if_pos (Sy (k:=k) (by omega) (by simpa using hc17))]
   refine Ab (Aa ?_)
   refine pA (Ac (t_n (Ak (b_r (t_r (t_r (b_r (t_r ?_))))))))
   refine eR1 ?_
   exact⟨by rw[hp],hX⟩
  have h1:A1 (ns.getD k ByteArray.empty)=true:=by simpa using hc17
  refine Ai (b_n (t_n (Aa ?_)))
  refine p1 (Aw rfl rfl (Ag (by omega) (by omega))) ?_
  refine pM (Ac ?_)
  refine t_n (aK (k+1) ⟨rfl,trivial⟩ ?_)
  exact⟨⟨hWL0,⟨by omega,fun i hi=>if h:i<k then hL i h else by rw[show i=k from by omega];exact h1⟩⟩,by((show _<_);omega)⟩
 have hall:=Ql hL (by omega)
 refine Ba (t_e (t_e (Bu (t_n (Ab (Ab (Aa ?_)))))))
 refine pM ?_
 refine p1 (Af rfl) ?_
 refine p1 (Ad H7 sz4 rfl) ?_
 refine p1 (Ae un4 rfl (hB.cell (rfl))) ?_
 refine Ac (t_n ?_)
 refine Ia rfl (fun hc22=>?_) (fun hc22=>?_)
 ·have hp:lookD D ns=20:=by unfold lookD;rw[if_neg (by rw[hall];simp),if_pos hc22]
  refine Ab (Aa ?_)
  refine pA (Ac (t_n (Ak (t_r ?_))))
  refine eR1 ?_
  exact⟨by rw[hp],hX⟩
 have hp:lookD D ns=0:=by unfold lookD;rw[if_neg (by rw[hall];simp),if_neg (by rw[hc22];simp)]
 refine Ai (t_n (Ab (Aa ?_)))
 refine pA (Ac (t_n (Ak ?_)))
 refine eR1 ?_
 exact⟨by rw[hp],hX⟩
theorem Ev (g:Nat) (S:Nat→Prop) (D:DS) (w:World) (hD:Dsk S w g D) (k:ByteArray) :
    Ret Tryz.prog 61 [.pointer (some ⟨g,0,none⟩),.string k] w (fun v w'=>v = .bool (decide (ascF D.l k≠none))∧Ext w w'):=by
 obtain⟨r,μ,hB,hM,hSg,hSr,hF⟩:=hD.ex
 have hX:=Ext.refl w
 refine eN 17 Tryz.func61 ?_
 refine Ab (Aa ?_)
 refine pA (Ac (t_n (Ab (Aa ?_))))
 refine pM ?_
 refine p1 (Af rfl) ?_
 refine p1 (Ad Ct sz100 rfl) ?_
 refine p1 (Ae un100 rfl (hB.cell (rfl))) ?_
 refine pM ?_
 obtain⟨⟨p0,n0,c0,s0⟩,hr0⟩:∃ x:Raw,x=(μ k).getD raw0:=⟨_,rfl⟩
 obtain⟨hF0,hs0⟩:=hF.get k
 rw[← hr0] at hF0 hs0
 simp only at hF0 hs0
 refine p1 (((lookF u100 zr113 (Ce u9) hM k rfl rfl).2).cast (by rw[← hr0];rfl:_=Value.tuple #[.agg #[.slice p0 n0 c0,.int .i64 (s0:Int)],.bool (decide (μ k≠none))])) ?_
 refine pM ?_
 refine p1 (Ao rfl rfl) ?_
 refine p1 (Ao rfl rfl) ?_
 have hXs5:=hX.size
 refine A6 zr113 ?_
 intro w1 g5 hN5
 have hE1:=hN5.ext
 have hX:=hX.ext hE1
 have hB5:=hN5.blk
 refine Az rfl (by conv=>lhs;whnf) (by simp[Value.oneCell']) (by exact sz113) hB5 (by rfl) ?_
 intro w2 hP2
 have hX:=hX.put hP2 (by rw[hN5.g_eq];exact hXs5)
 have hB5:=hP2.blk
 refine pA (Ac (t_n (Ab (Aa ?_))))
 refine pM (pA (Ac (t_n (Ak ?_))))
 refine eR1 ?_
 exact⟨congrArg Value.bool (decide_eq_decide.2 (not_congr (hF.iff k))),hX⟩
theorem Gr (g : Nat) (S : Nat → Prop) (D : DS) (w : World) (hD : Dsk S w g D) (hok : DOk D) (hst : D.steps < 4611686018427387904) (hle : D.left ≤ 9223372036854775807) (fdo : Nat) (fn : Func) (hf : Tryz.prog.funcs[fdo]? = some fn) (hn : (fn.name == "runtime.NumGoroutine") = false) (hb : fn.body.isNone = false) (cs : List Value) (act : List Fl) (failing always : Bool)
    (hdo:∀ w1,Ext w w1→Ret Tryz.prog fdo cs w1 (fun v w'=>Dsk (grow S w1 w') w' g { D with l:=act }∧ModS S ED w1 w')) :
    Ret Tryz.prog 62 [.pointer (some ⟨g,0,none⟩),.func (.func fdo) #[] cs.toArray,.bool failing,.bool always] w (fun v w'=>v = .int .i64 (stepD D act failing always).2∧Dsk (grow S w w') w' g (stepD D act failing always).1∧ModS S ED w w'):=by
 obtain⟨r,μ,hB,hM,hSg,hSr,hF⟩:=hD.ex
 have hXe:=Ext.refl w
 have hleft:=hok.left
 have hSg2:grow S w w g := .inl hSg
 have hW1:=Nat.le_refl w.heap.size
 have hX:=ModS.refl S ED w
 refine eN 50 Tryz.func62 ?_
 refine Ab (Aa ?_)
 refine pA (Ac (t_n (Ab (Ab (Aa ?_)))))
 refine pM ?_
 refine p1 (Af rfl) ?_
 refine p1 (Ad Gb sz3 rfl) ?_
 refine p1 (Ae un3 rfl (hB.cell (rfl))) ?_
 refine p1 (A2 rfl rfl) ?_
 refine Ac (t_n ?_)
 refine As rfl (fun hc13=>?_) (fun hc13=>?_)
 ·have hL0:D.left≠0:=hc13
  refine Ab (Aa ?_)
  refine pM ?_
  have hX0:Ext w w:=hXe
  refine Jv (fs:=[]) (cs:=cs) rfl hf hn hb rfl rfl (hdo _ hX0) ?_
  rintro v1 w1 ⟨hD2,hM2⟩
  have hX:ModS S ED w w1:=(ModS.ofExt hX0).trans hM2 (fun _ _ h=>h)
  obtain⟨r,μ,hB,hM,hSg2,hSr,hF⟩:=hD2.ex
  have hB:Blk w1 g #[.int .i64 (D.most:Int),.int .i64 ((usedL act:Nat):Int),.map (some r),.int .i64 (D.steps:Int),.int .i64 D.left,.bool D.done,.bool D.down] tDisk:=hB
  have hF:Fls _ _ μ act:=hF
  skip
  refine Ac (t_n (Ab (Aa ?_)))
  refine pM (pM ?_)
  refine p1 (Af rfl) ?_
  refine p1 (Ad Gb sz3 rfl) ?_
  refine p1 (Ae un3 rfl (hB.cell (rfl))) ?_
  refine p1 (Cz rfl rfl (Ag (by omega) (by omega))) ?_
  refine p1 ((Ael rfl rfl).cast (congrArg (Value.int .i64) (by split <;> omega:_=max (-1) (D.left - 1)))) ?_
  refine p1 (Af rfl) ?_
  refine p1 (Ad Gb sz3 rfl) ?_
  refine Ar rfl (by conv=>lhs;whnf) rfl rfl sz3 hB (by simp) ?_
  intro w2 hP2
  have hX:=hX.put hP2 (⟨.inl hSg,by decide⟩)
  have hB:=hP2.blk
  try simp only[List.setIfInBounds_toArray,List.set_cons_zero,List.set_cons_succ] at hB
  have hM:=hM.mod (hP2.mod 0 (Nat.zero_le _)) (Nat.zero_le _) (by decide)
  have hF:=hF.one hP2.one (by decide)
  refine Ac (t_n (Ab (Aa ?_)))
  refine pM ?_
  refine p1 (Af rfl) ?_
  refine p1 (Ad Yj sz3 rfl) ?_
  refine p1 (Ae un3 rfl (hB.cell (rfl))) ?_
  refine p1 (Aw rfl rfl (Ag (by omega) (by omega))) ?_
  refine p1 (Af rfl) ?_
  refine p1 (Ad Yj sz3 rfl) ?_
  refine Ar rfl (by conv=>lhs;whnf) rfl rfl sz3 hB (by simp) ?_
  intro w3 hP3
  have hX:=hX.put hP3 (⟨.inl hSg,by decide⟩)
  have hB:=hP3.blk
  try simp only[List.setIfInBounds_toArray,List.set_cons_zero,List.set_cons_succ] at hB
  have hM:=hM.mod (hP3.mod 0 (Nat.zero_le _)) (Nat.zero_le _) (by decide)
  have hF:=hF.one hP3.one (by decide)
  refine Ac (t_n (Ab (Aa ?_)))
  refine pA (Ac (t_n (Ak (t_r ?_))))
  refine eR1 ?_
  (rw[K1 hL0]
   exact⟨rfl,Dsk.of hB hM hSg hSr hF (Pj (Nat.le_refl _)),hX⟩)
 have hL0:¬ D.left≠0:=hc13
 refine Ai (t_n (Ab (Ab (Aa ?_))))
 refine pM ?_
 refine p1b (Al (by conv=>lhs;whnf)) (fun hb6_1=>?_) (fun hb6_1=>?_)
 ·refine gM 33 ?_
  refine g1b 33 rfl rfl (Al (by conv=>lhs;whnf)) (fun hb6_3=>?_) (fun hb6_3=>?_)
  ·refine gF 35 (gF 35 (gF 35 (gF 35 ?_)))
   refine Eng.g1 33 rfl rfl (Ap rfl (by conv=>lhs;whnf)) ?_
   refine p1 (Ap rfl (by conv=>lhs;whnf)) ?_
   refine Ac (t_n ?_)
   refine c_t rfl ?_
   refine Aa ?_
   refine pM ?_
   have hX0:Ext w w:=hXe
   refine Jv (fs:=[]) (cs:=cs) rfl hf hn hb rfl rfl (hdo _ hX0) ?_
   rintro v4 w4 ⟨hD2,hM2⟩
   have hX:ModS S ED w w4:=(ModS.ofExt hX0).trans hM2 (fun _ _ h=>h)
   obtain⟨r,μ,hB,hM,hSg2,hSr,hF⟩:=hD2.ex
   have hB:Blk w4 g #[.int .i64 (D.most:Int),.int .i64 ((usedL act:Nat):Int),.map (some r),.int .i64 (D.steps:Int),.int .i64 D.left,.bool D.done,.bool D.down] tDisk:=hB
   have hF:Fls _ _ μ act:=hF
   skip
   refine Ac (t_n (Ab (Aa ?_)))
   refine pM (pM ?_)
   refine p1 (Af rfl) ?_
   refine p1 (Ad H7 sz4 rfl) ?_
   refine Ar rfl (by conv=>lhs;whnf) rfl rfl sz4 hB (by simp) ?_
   intro w5 hP5
   have hX:=hX.put hP5 (⟨.inl hSg,by decide⟩)
   have hB:=hP5.blk
   try simp only[List.setIfInBounds_toArray,List.set_cons_zero,List.set_cons_succ] at hB
   have hM:=hM.mod (hP5.mod 0 (Nat.zero_le _)) (Nat.zero_le _) (by decide)
   have hF:=hF.one hP5.one (by decide)
   refine p1 (Af rfl) ?_
   refine p1 (Ad Gb sz3 rfl) ?_
   refine Ar rfl (by conv=>lhs;whnf) rfl rfl sz3 hB (by simp) ?_
   intro w6 hP6
   have hX:=hX.put hP6 (⟨.inl hSg,by decide⟩)
   have hB:=hP6.blk
   try simp only[List.setIfInBounds_toArray,List.set_cons_zero,List.set_cons_succ] at hB
   have hM:=hM.mod (hP6.mod 0 (Nat.zero_le _)) (Nat.zero_le _) (by decide)
   have hF:=hF.one hP6.one (by decide)
   refine Ac (t_n (Ab (Aa ?_)))
   refine pA (Ac (t_n (Ak ?_)))
   refine eR1 ?_
   (rw[Jj hL0 (by(rw[hb6_1,hb6_3];rfl))]
    exact⟨rfl,Dsk.of hB hM hSg hSr hF (Pj (Nat.le_refl _)),hX⟩)
  refine gM 35 ?_
  refine Eng.g1 35 rfl rfl (Af rfl) ?_
  refine Eng.g1 35 rfl rfl (Ad Tj sz4 rfl) ?_
  refine Eng.g1 35 rfl rfl (Ae un4 rfl (hB.cell (rfl))) ?_
  refine Eng.g1 33 rfl rfl (Aq rfl (by conv=>lhs;whnf)) ?_
  refine p1 (Ap rfl (by conv=>lhs;whnf)) ?_
  refine Ac (t_n ?_)
  refine Ia rfl (fun hc41=>?_) (fun hc41=>?_)
  ·refine Aa ?_
   refine pM ?_
   have hX0:Ext w w:=hXe
   refine Jv (fs:=[]) (cs:=cs) rfl hf hn hb rfl rfl (hdo _ hX0) ?_
   rintro v7 w7 ⟨hD2,hM2⟩
   have hX:ModS S ED w w7:=(ModS.ofExt hX0).trans hM2 (fun _ _ h=>h)
   obtain⟨r,μ,hB,hM,hSg2,hSr,hF⟩:=hD2.ex
   have hB:Blk w7 g #[.int .i64 (D.most:Int),.int .i64 ((usedL act:Nat):Int),.map (some r),.int .i64 (D.steps:Int),.int .i64 D.left,.bool D.done,.bool D.down] tDisk:=hB
   have hF:Fls _ _ μ act:=hF
   skip
   refine Ac (t_n (Ab (Aa ?_)))
   refine pM (pM ?_)
   refine p1 (Af rfl) ?_
   refine p1 (Ad H7 sz4 rfl) ?_
   refine Ar rfl (by conv=>lhs;whnf) rfl rfl sz4 hB (by simp) ?_
   intro w8 hP8
   have hX:=hX.put hP8 (⟨.inl hSg,by decide⟩)
   have hB:=hP8.blk
   try simp only[List.setIfInBounds_toArray,List.set_cons_zero,List.set_cons_succ] at hB
   have hM:=hM.mod (hP8.mod 0 (Nat.zero_le _)) (Nat.zero_le _) (by decide)
   have hF:=hF.one hP8.one (by decide)
   refine p1 (Af rfl) ?_
   refine p1 (Ad Gb sz3 rfl) ?_
   refine Ar rfl (by conv=>lhs;whnf) rfl rfl sz3 hB (by simp) ?_
   intro w9 hP9
   have hX:=hX.put hP9 (⟨.inl hSg,by decide⟩)
   have hB:=hP9.blk
   try simp only[List.setIfInBounds_toArray,List.set_cons_zero,List.set_cons_succ] at hB
   have hM:=hM.mod (hP9.mod 0 (Nat.zero_le _)) (Nat.zero_le _) (by decide)
   have hF:=hF.one hP9.one (by decide)
   refine Ac (t_n (Ab (Aa ?_)))
   refine pA (Ac (t_n (Ak ?_)))
   refine eR1 ?_
   (rw[Jj hL0 (by simp_all)]
    exact⟨rfl,Dsk.of hB hM hSg hSr hF (Pj (Nat.le_refl _)),hX⟩)
  refine Ai (t_n (Ab (Aa ?_)))
  refine pM (pM ?_)
  refine p1 (Af rfl) ?_
  refine p1 (Ad H7 sz4 rfl) ?_
  refine Ar rfl (by conv=>lhs;whnf) rfl rfl sz4 hB (by simp) ?_
  intro w10 hP10
  have hX:=hX.put hP10 (⟨.inl hSg,by decide⟩)
  have hB:=hP10.blk
  try simp only[List.setIfInBounds_toArray,List.set_cons_zero,List.set_cons_succ] at hB
  have hM:=hM.mod (hP10.mod 0 (Nat.zero_le _)) (Nat.zero_le _) (by decide)
  have hF:=hF.one hP10.one (by decide)
  refine p1 (Af rfl) ?_
  refine p1 (Ad Gb sz3 rfl) ?_
  refine Ar rfl (by conv=>lhs;whnf) rfl rfl sz3 hB (by simp) ?_
  intro w11 hP11
  have hX:=hX.put hP11 (⟨.inl hSg,by decide⟩)
  have hB:=hP11.blk
  try simp only[List.setIfInBounds_toArray,List.set_cons_zero,List.set_cons_succ] at hB
  have hM:=hM.mod (hP11.mod 0 (Nat.zero_le _)) (Nat.zero_le _) (by decide)
  have hF:=hF.one hP11.one (by decide)
  refine Ac (t_n (Ab (Aa ?_)))
  refine pA (Ac (t_n (Ak ?_)))
  refine eR1 ?_
  (rw[K0 hL0 (by simp_all)]
   exact⟨rfl,Dsk.of hB hM hSg hSr hF Ei,hX⟩)
 refine gF 33 (gF 33 (gF 35 (gF 35 (gF 35 (gF 35 (gF 33 ?_))))))
 refine p1 (Aq rfl (by conv=>lhs;whnf)) ?_
 refine Ac (t_n ?_)
 refine c_f rfl ?_
 refine Ai (t_n (Ab (Aa ?_)))
 refine pM (pM ?_)
 refine p1 (Af rfl) ?_
 refine p1 (Ad H7 sz4 rfl) ?_
 refine Ar rfl (by conv=>lhs;whnf) rfl rfl sz4 hB (by simp) ?_
 intro w12 hP12
 have hX:=hX.put hP12 (⟨.inl hSg,by decide⟩)
 have hB:=hP12.blk
 try simp only[List.setIfInBounds_toArray,List.set_cons_zero,List.set_cons_succ] at hB
 have hM:=hM.mod (hP12.mod 0 (Nat.zero_le _)) (Nat.zero_le _) (by decide)
 have hF:=hF.one hP12.one (by decide)
 refine p1 (Af rfl) ?_
 refine p1 (Ad Gb sz3 rfl) ?_
 refine Ar rfl (by conv=>lhs;whnf) rfl rfl sz3 hB (by simp) ?_
 intro w13 hP13
 have hX:=hX.put hP13 (⟨.inl hSg,by decide⟩)
 have hB:=hP13.blk
 try simp only[List.setIfInBounds_toArray,List.set_cons_zero,List.set_cons_succ] at hB
 have hM:=hM.mod (hP13.mod 0 (Nat.zero_le _)) (Nat.zero_le _) (by decide)
 have hF:=hF.one hP13.one (by decide)
 refine Ac (t_n (Ab (Aa ?_)))
 refine pA (Ac (t_n (Ak ?_)))
 refine eR1 ?_
 (rw[K0 hL0 (by(rw[hb6_1];rfl))]
  exact⟨rfl,Dsk.of hB hM hSg hSr hF Ei,hX⟩)
end Go.Proofs.Eng
end
section
set_option maxRecDepth 100000
set_option maxHeartbeats 4000000
namespace Go.Proofs.Eng
open Go.RowKit
open Extern.Stop (cell)
theorem P0 (g:Nat) (S:Nat→Prop) (D:DS) (w:World) (hD:Dsk S w g D) (hok:DOk D) (k:ByteArray) (hk:ascA D.l k=none) (b0:Nat) (b1:Nat) (hb0:Blk w b0 #[.pointer (some ⟨g,0,none⟩)] 34) (hb1:Blk w b1 #[.string k] 9) :
    Ret Tryz.prog 63 [.pointer (some ⟨b0,0,none⟩),.pointer (some ⟨b1,0,none⟩)] w (fun v w'=>Dsk (grow S w w') w' g { D with l:=insA D.l k (some ([],0)) }∧ModS S ED w w'):=by
 obtain⟨r,μ,hB,hM,hSg,hSr,hF⟩:=hD.ex
 have hW1:=Nat.le_refl w.heap.size
 have hroom:=hok.room
 have hmost:=hok.most
 have hX:=ModS.refl S ED w
 refine eN 8 Tryz.func63 ?_
 refine Cp 6 mixed (by kernel_rfl) ?_
 intro w1 hE1
 have hX:=hX.ext hE1
 have hB:=hB.ext hE1
 have hM:=hM.ext hE1
 have hF:=hF.ext hE1
 have hb0:=hb0.ext hE1
 have hb1:=hb1.ext hE1
 refine s1 (Ae un34 rfl (hb0.cell (rfl))) ?_
 refine s1 (Af rfl) ?_
 refine s1 (Ad Ct sz100 rfl) ?_
 refine s1 (Ae un100 rfl (hB.cell (rfl))) ?_
 refine s1 (Ae un9 rfl (hb1.cell (rfl))) ?_
 refine s1 (Hg pl113 rfl) ?_
 refine Ca ?_
 have hMt2:=hM.tyOf
 refine Ej (a:=k) (b:=raw0) u100 (Ce u9) rfl rfl rfl hM rfl (Nat.zero_le _) (by decide) ?_
 intro w2 hM hMm2 hne2
 have hO2:=One.ofMod hMm2 hMt2 hne2
 have hX:=hX.one hO2 ⟨.inl hSr,by decide⟩
 have hB:=hB.one hO2 (by decide)
 have hF:=hF.one hO2 (by decide)
 have hF:=hF.put hok.rise k raw0 ([],0) rfl (FB.nil _ _) (fun _ _ _ _ => .inl rfl)
 refine Ac ?_
 refine end0n rfl ?_
 have hu:=Dz hok.rise k (some ([],0))
 rw[hk] at hu
 simp only[Option.map_some,Option.map_none,Option.getD_some,Option.getD_none,List.length_nil] at hu
 exact⟨Dsk.made hB (by omega) hM hSg hSr hF Ei,hX⟩
theorem Tm (g:Nat) (S:Nat→Prop) (D:DS) (w:World) (hD:Dsk S w g D) (hok:DOk D) (k:ByteArray) (hk:ascA D.l k≠none) (b0:Nat) (b1:Nat) (hb0:Blk w b0 #[.pointer (some ⟨g,0,none⟩)] 34) (hb1:Blk w b1 #[.string k] 9) :
    Ret Tryz.prog 65 [.pointer (some ⟨b0,0,none⟩),.pointer (some ⟨b1,0,none⟩)] w (fun v w'=>Dsk (grow S w w') w' g { D with l:=insA D.l k (some ((getF D k).1,(getF D k).1.length)) }∧ModS S ED w w'):=by
 obtain⟨r,μ,hB,hM,hSg,hSr,hF⟩:=hD.ex
 have hW1:=Nat.le_refl w.heap.size
 have hroom:=hok.room
 have hmost:=hok.most
 obtain⟨hk1,hk2⟩:=hF.there hk
 have hX:=ModS.refl S ED w
 refine eN 19 Tryz.func65 ?_
 refine Ab ?_
 refine B7 (fun w1 w2=>Ext w1 w2) mixed ?_
 intro w1 hE1
 have hX:=hX.ext hE1
 have hB:=hB.ext hE1
 have hM:=hM.ext hE1
 have hF:=hF.ext hE1
 have hb0:=hb0.ext hE1
 have hb1:=hb1.ext hE1
 have hSr0:(fun w1 w2=>Ext w1 w2) w1 w1:=Ext.refl w1
 refine hT 0 rfl hSr0 (fun wS hSS=>by(have hb0:=hb0.ext hSS;exact(Ae un34 rfl (hb0.cell (rfl))))) ?_
 refine hT 1 rfl hSr0 (fun wS hSS=>by(exact(Af rfl))) ?_
 refine hT 2 rfl hSr0 (fun wS hSS=>by(exact(Ad Ct sz100 rfl))) ?_
 refine hT 3 rfl hSr0 (fun wS hSS=>by(have hB:=hB.ext hSS;exact(Ae un100 rfl (hB.cell (rfl))))) ?_
 refine hT 4 rfl hSr0 (fun wS hSS=>by(have hb1:=hb1.ext hSS;exact(Ae un9 rfl (hb1.cell (rfl))))) ?_
 obtain⟨⟨p0,n0,c0,s0⟩,hr0⟩:∃ x:Raw,x=(μ k).getD raw0:=⟨_,rfl⟩
 obtain⟨hF0,hs0⟩:=hF.get k
 rw[← hr0] at hF0 hs0
 simp only at hF0 hs0
 refine hT 5 rfl hSr0 (fun wS hSS=>by(have hM:=hM.ext hSS;exact(((lookF u100 zr113 (Ce u9) hM k rfl rfl).1).cast (by rw[← hr0];rfl:_=Value.agg #[.slice p0 n0 c0,.int .i64 (s0:Int)])))) ?_
 refine h1L 6 (fun Q6 hQ6=>?_)
 have hXs:=hX.size
 refine A6 zr113 ?_
 intro w2 g2 hN2
 have hE2:=hN2.ext
 have hX:=hX.ext hE2
 have hB:=hB.ext hE2
 have hM:=hM.ext hE2
 have hF:=hF.ext hE2
 have hb0:=hb0.ext hE2
 have hb1:=hb1.ext hE2
 have hSr0:=hSr0.ext hE2
 have hB2:=hN2.blk
 refine An hQ6 ⟨hSr0,?_⟩
 refine h1L 7 (fun Q7 hQ7=>?_)
 have hg2:w.heap.size≤g2:=by rw[hN2.g_eq];exact hXs
 refine Az rfl (by conv=>lhs;whnf) (by simp[Value.oneCell']) (by exact sz113) hB2 (by rfl) ?_
 intro w3 hP3
 have hX:=hX.put hP3 (⟨.inr (by rw[hN2.g_eq];exact hXs),by decide⟩)
 have hB:=hB.one hP3.one (by decide)
 have hM:=hM.mod (hP3.mod 0 (Nat.zero_le _)) (Nat.zero_le _) (by decide)
 have hF:=hF.one hP3.one (by decide)
 have hb0:=hb0.one hP3.one (by decide)
 have hb1:=hb1.one hP3.one (by decide)
 have hSr0:=hSr0.put hP3 (by rw[hN2.g_eq];exact Nat.le_refl _)
 have hB2:=hP3.blk
 refine An hQ7 ⟨hSr0,?_⟩
 refine Bm (by kernel_rfl) ?_
 refine t_n (Ab (Aa ?_))
 refine p1 (Ad Dw sz23 rfl) ?_
 refine p1 (Ae un23 rfl (hB2.cell (rfl))) ?_
 refine p1 (Aj u23 rfl) ?_
 refine p1 (Ad Th sz3 rfl) ?_
 refine Ar rfl (by conv=>lhs;whnf) rfl rfl sz3 hB2 (by simp) ?_
 intro w4 hP4
 have hX:=hX.put hP4 (⟨.inr hg2,by decide⟩)
 have hB:=hB.one hP4.one (by decide)
 have hM:=hM.mod (hP4.mod 0 (Nat.zero_le _)) (Nat.zero_le _) (by decide)
 have hF:=hF.one hP4.one (by decide)
 have hb0:=hb0.one hP4.one (by decide)
 have hb1:=hb1.one hP4.one (by decide)
 have hB2:=hP4.blk
 try simp only[List.setIfInBounds_toArray,List.set_cons_zero,List.set_cons_succ] at hB2
 refine Ac (t_n ?_)
 refine Cp 6 mixed (by kernel_rfl) ?_
 intro w5 hE5
 have hX:=hX.ext hE5
 have hB:=hB.ext hE5
 have hM:=hM.ext hE5
 have hF:=hF.ext hE5
 have hb0:=hb0.ext hE5
 have hb1:=hb1.ext hE5
 have hB2:=hB2.ext hE5
 refine s1 (Ae un34 rfl (hb0.cell (rfl))) ?_
 refine s1 (Af rfl) ?_
 refine s1 (Ad Ct sz100 rfl) ?_
 refine s1 (Ae un100 rfl (hB.cell (rfl))) ?_
 refine s1 (Ae un9 rfl (hb1.cell (rfl))) ?_
 refine s1 (Bh ua113 rfl hB2 sz113) ?_
 refine Ca ?_
 have hMt6:=hM.tyOf
 refine Ej (a:=k) (b:=(p0,n0,c0,n0)) u100 (Ce u9) rfl rfl rfl hM rfl (Nat.zero_le _) (by decide) ?_
 intro w6 hM hMm6 hne6
 have hO6:=One.ofMod hMm6 hMt6 hne6
 have hX:=hX.one hO6 ⟨.inl hSr,by decide⟩
 have hB:=hB.one hO6 (by decide)
 have hF:=hF.one hO6 (by decide)
 have hF0:=(hF.get k).1
 rw[← hr0] at hF0
 simp only at hF0
 have hF:=hF.put hok.rise k (p0,n0,c0,n0) ((getF D k).1,(getF D k).1.length) hF0.len.symm hF0 (fun k' y hn hy=>by have h9:=R7 hF hk1 k' y hn hy;rw[← hr0] at h9;exact h9)
 refine Ac ?_
 refine end0n rfl ?_
 have hu:=Ea hok hk (some ((getF D k).1,(getF D k).1.length))
 unfold getF ascF at hu
 simp only[Option.map_some,Option.getD_some] at hu
 exact⟨Dsk.made hB (by unfold getF ascF;omega) hM hSg hSr hF Ei,hX⟩
theorem P1 (g:Nat) (S:Nat→Prop) (D:DS) (w:World) (hD:Dsk S w g D) (hok:DOk D) (k:ByteArray) (hk:ascA D.l k≠none) (e B:Nat) (p:Option Addr) (n c:Nat) (ys:List UInt8) (hl:Sl kByte e B w p n c ys) (hfit:(usedL D.l:Int)+n≤D.most) (b0:Nat) (b1:Nat) (b2:Nat) (hb0:Blk w b0 #[.pointer (some ⟨g,0,none⟩)] 34) (hb1:Blk w b1 #[.string k] 9) (hb2:Blk w b2 #[.slice p n c] 23) :
    Ret Tryz.prog 64 [.pointer (some ⟨b0,0,none⟩),.pointer (some ⟨b1,0,none⟩),.pointer (some ⟨b2,0,none⟩)] w (fun v w'=>Dsk (grow S w w') w' g { D with l:=insA D.l k (some ((getF D k).1++ys,(getF D k).2)) }∧ModS S ED w w'):=by
 obtain⟨r,μ,hB,hM,hSg,hSr,hF⟩:=hD.ex
 have hW1:=Nat.le_refl w.heap.size
 have hroom:=hok.room
 have hmost:=hok.most
 obtain⟨hk1,hk2⟩:=hF.there hk
 have hXe:=Ext.refl w
 have hX:=ModS.refl S ED w
 refine eN 30 Tryz.func64 ?_
 refine Ab ?_
 refine B7 (fun w1 w2=>Ext w1 w2) mixed ?_
 intro w1 hE1
 have hX:=hX.ext hE1
 have hB:=hB.ext hE1
 have hM:=hM.ext hE1
 have hF:=hF.ext hE1
 have hb0:=hb0.ext hE1
 have hb1:=hb1.ext hE1
 have hb2:=hb2.ext hE1
 have hXe:=hXe.ext hE1
 have hSr0:(fun w1 w2=>Ext w1 w2) w1 w1:=Ext.refl w1
 refine hT 0 rfl hSr0 (fun wS hSS=>by(have hb0:=hb0.ext hSS;exact(Ae un34 rfl (hb0.cell (rfl))))) ?_
 refine hT 1 rfl hSr0 (fun wS hSS=>by(exact(Af rfl))) ?_
 refine hT 2 rfl hSr0 (fun wS hSS=>by(exact(Ad Ct sz100 rfl))) ?_
 refine hT 3 rfl hSr0 (fun wS hSS=>by(have hB:=hB.ext hSS;exact(Ae un100 rfl (hB.cell (rfl))))) ?_
 refine hT 4 rfl hSr0 (fun wS hSS=>by(have hb1:=hb1.ext hSS;exact(Ae un9 rfl (hb1.cell (rfl))))) ?_
 obtain⟨⟨p0,n0,c0,s0⟩,hr0⟩:∃ x:Raw,x=(μ k).getD raw0:=⟨_,rfl⟩
 obtain⟨hF0,hs0⟩:=hF.get k
 rw[← hr0] at hF0 hs0
 simp only at hF0 hs0
 refine hT 5 rfl hSr0 (fun wS hSS=>by(have hM:=hM.ext hSS;exact(((lookF u100 zr113 (Ce u9) hM k rfl rfl).1).cast (by rw[← hr0];rfl:_=Value.agg #[.slice p0 n0 c0,.int .i64 (s0:Int)])))) ?_
 refine h1L 6 (fun Q6 hQ6=>?_)
 have hXs:=hX.size
 refine A6 zr113 ?_
 intro w2 g3 hN3
 have hE2:=hN3.ext
 have hX:=hX.ext hE2
 have hB:=hB.ext hE2
 have hM:=hM.ext hE2
 have hF:=hF.ext hE2
 have hb0:=hb0.ext hE2
 have hb1:=hb1.ext hE2
 have hb2:=hb2.ext hE2
 have hXe:=hXe.ext hE2
 have hSr0:=hSr0.ext hE2
 have hB3:=hN3.blk
 refine An hQ6 ⟨hSr0,?_⟩
 refine h1L 7 (fun Q7 hQ7=>?_)
 have hg3:w.heap.size≤g3:=by rw[hN3.g_eq];exact hXs
 refine Az rfl (by conv=>lhs;whnf) (by simp[Value.oneCell']) (by exact sz113) hB3 (by rfl) ?_
 intro w3 hP3
 have hX:=hX.put hP3 (⟨.inr hg3,by decide⟩)
 have hB:=hB.one hP3.one (by decide)
 have hM:=hM.mod (hP3.mod 0 (Nat.zero_le _)) (Nat.zero_le _) (by decide)
 have hF:=hF.one hP3.one (by decide)
 have hb0:=hb0.one hP3.one (by decide)
 have hb1:=hb1.one hP3.one (by decide)
 have hb2:=hb2.one hP3.one (by decide)
 have hXe:=hXe.put hP3 (by omega)
 have hSr0:=hSr0.put hP3 (by rw[hN3.g_eq];exact Nat.le_refl _)
 have hB3:=hP3.blk
 refine An hQ7 ⟨hSr0,?_⟩
 refine Bm (by kernel_rfl) ?_
 refine t_n (Ab (Aa ?_))
 refine p1 (Ad Dw sz23 rfl) ?_
 refine p1 (Ae un23 rfl (hB3.cell (rfl))) ?_
 refine p1 (Ae un23 rfl (hb2.cell (rfl))) ?_
 have hX0s:=hX.size
 have hF0:=(hF.get k).1
 rw[← hr0] at hF0
 simp only at hF0
 have hl1:=hl.ext hXe
 have hlen0:=hF0.len
 have hgl:=(Ga hok k).1
 have hge:(ascA D.l k).getD ([],0)=getF D k:=rfl
 rw[hge] at hF0 hlen0
 refine Jy ys u23 inf5 rfl rfl hF0 (by rw[← Bp];exact C6 u23 hl1 (by decide)) hl.len (by omega) ?_
 intro pz cz w4 hF1 hpp hO hFo
 have hap:=Z7 hF hk1 (p':=pz) (by rw[← hr0];exact hpp)
 have hB:=hB.oneR hO hF0 (by decide)
 have hB3:=hB3.oneR hO hF0 (by decide)
 have hb0:=hb0.oneR hO hF0 (by decide)
 have hb1:=hb1.oneR hO hF0 (by decide)
 have hb2:=hb2.oneR hO hF0 (by decide)
 have hM:=hM.oneR hO hF0 rfl
 have hF:=hF.app hk1 (by rw[← hr0];exact hO) (xs:=(getF D k).1) (by rw[← hr0,hk2,hge,hs0,hge]) (by rw[← hr0];exact hFo)
 have hX:=hX.oneR hO (.inl hF0) (by decide)
 have hF:=hF.mono (S':=fun j=>S j∨w.heap.size≤j) (fun _ _ h => .inl h)
 have hF1:=hF1.mono (S':=fun j=>S j∨w.heap.size≤j) (fun _ _ h=>h.imp id fun h=>by have:=hX0s;omega)
 skip
 refine p1 (Ad Dw sz23 rfl) ?_
 refine Ar rfl (by conv=>lhs;whnf) rfl rfl sz23 hB3 (by simp) ?_
 intro w5 hP5
 have hX:=hX.put hP5 (⟨.inr hg3,by decide⟩)
 have hB:=hB.one hP5.one (by decide)
 have hB3:=hP5.blk
 try simp only[List.setIfInBounds_toArray,List.set_cons_zero,List.set_cons_succ] at hB3
 have hb0:=hb0.one hP5.one (by decide)
 have hb1:=hb1.one hP5.one (by decide)
 have hb2:=hb2.one hP5.one (by decide)
 have hM:=hM.mod (hP5.mod 0 (Nat.zero_le _)) (Nat.zero_le _) (by decide)
 have hF:=hF.one hP5.one (by decide)
 have hF1:=hF1.one hP5.one (by decide)
 refine Ac (t_n (Ab ?_))
 refine Cp 6 mixed (by kernel_rfl) ?_
 intro w6 hE6
 have hX:=hX.ext hE6
 have hB:=hB.ext hE6
 have hB3:=hB3.ext hE6
 have hb0:=hb0.ext hE6
 have hb1:=hb1.ext hE6
 have hb2:=hb2.ext hE6
 have hM:=hM.ext hE6
 have hF:=hF.ext hE6
 have hF1:=hF1.ext hE6
 refine s1 (Ae un34 rfl (hb0.cell (rfl))) ?_
 refine s1 (Af rfl) ?_
 refine s1 (Ad Ct sz100 rfl) ?_
 refine s1 (Ae un100 rfl (hB.cell (rfl))) ?_
 refine s1 (Ae un9 rfl (hb1.cell (rfl))) ?_
 refine s1 (Bh ua113 rfl hB3 sz113) ?_
 refine Ca ?_
 have hMt7:=hM.tyOf
 refine Ej (a:=k) (b:=(pz,n0+n,cz,s0)) u100 (Ce u9) rfl rfl rfl hM rfl (Nat.zero_le _) (by decide) ?_
 intro w7 hM hMm7 hne7
 have hO7:=One.ofMod hMm7 hMt7 hne7
 have hX:=hX.one hO7 ⟨.inl hSr,by decide⟩
 have hB:=hB.one hO7 (by decide)
 have hb0:=hb0.one hO7 (by decide)
 have hb2:=hb2.one hO7 (by decide)
 have hF:=hF.one hO7 (by decide)
 have hF1:=hF1.one hO7 (by decide)
 have hF:=hF.put hok.rise k (pz,n0+n,cz,s0) ((getF D k).1++ys,(getF D k).2) hs0 hF1 hap
 refine Ac (t_n ?_)
 refine Cp 9 mixed (by kernel_rfl) ?_
 intro w8 hE8
 have hX:=hX.ext hE8
 have hM:=hM.ext hE8
 have hF:=hF.ext hE8
 have hB:=hB.ext hE8
 have hb0:=hb0.ext hE8
 have hb2:=hb2.ext hE8
 refine s1 (Ae un34 rfl (hb0.cell (rfl))) ?_
 refine s1 (Af rfl) ?_
 refine s1 (Ad Eq sz3 rfl) ?_
 refine s1 (Ae un3 rfl (hB.cell (rfl))) ?_
 refine s1 (Ae un23 rfl (hb2.cell (rfl))) ?_
 refine s1 (Aj u23 rfl) ?_
 have hnn:=hl.len
 refine s1 (Aw rfl rfl (Ag (by omega) (by omega))) ?_
 refine s1 (Af rfl) ?_
 refine s1 (Ad Eq sz3 rfl) ?_
 refine Ca ?_
 refine Ar rfl (by conv=>lhs;whnf) rfl rfl sz3 hB (by simp) ?_
 intro w9 hP9
 have hX:=hX.put hP9 (⟨.inl hSg,by decide⟩)
 have hM:=hM.mod (hP9.mod 0 (Nat.zero_le _)) (Nat.zero_le _) (by decide)
 have hF:=hF.one hP9.one (by decide)
 have hB:=hP9.blk
 try simp only[List.setIfInBounds_toArray,List.set_cons_zero,List.set_cons_succ] at hB
 refine Ac ?_
 refine end0n rfl ?_
 have hu:=Ea hok hk (some ((getF D k).1++ys,(getF D k).2))
 unfold getF ascF at hu
 simp only[Option.map_some,Option.getD_some,List.length_append] at hu
 have hgl:=(Ga hok k).1
 have hnn:=hl.len
 unfold getF ascF at hgl
 exact⟨Dsk.made hB (by unfold getF ascF;omega) hM hSg (.inl hSr) hF (fun _ _ h=>h),hX⟩
theorem Px (g:Nat) (S:Nat→Prop) (D:DS) (w:World) (hD:Dsk S w g D) (hok:DOk D) (k:ByteArray) (hk:ascA D.l k≠none) (b0:Nat) (b1:Nat) (hb0:Blk w b0 #[.pointer (some ⟨g,0,none⟩)] 34) (hb1:Blk w b1 #[.string k] 9) :
    Ret Tryz.prog 142 [.pointer (some ⟨b0,0,none⟩),.pointer (some ⟨b1,0,none⟩)] w (fun v w'=>Dsk (grow S w w') w' g { D with l:=insA D.l k none }∧ModS S ED w w'):=by
 obtain⟨r,μ,hB,hM,hSg,hSr,hF⟩:=hD.ex
 have hW1:=Nat.le_refl w.heap.size
 have hroom:=hok.room
 have hmost:=hok.most
 obtain⟨hk1,hk2⟩:=hF.there hk
 have hX:=ModS.refl S ED w
 refine eN 22 Tryz.func142 ?_
 refine Ab ?_
 refine Cp 15 mixed (by kernel_rfl) ?_
 intro w1 hE1
 have hX:=hX.ext hE1
 have hB:=hB.ext hE1
 have hM:=hM.ext hE1
 have hF:=hF.ext hE1
 have hb0:=hb0.ext hE1
 have hb1:=hb1.ext hE1
 refine s1 (Ae un34 rfl (hb0.cell (rfl))) ?_
 refine s1 (Af rfl) ?_
 refine s1 (Ad Eq sz3 rfl) ?_
 refine s1 (Ae un3 rfl (hB.cell (rfl))) ?_
 refine s1 (Ae un34 rfl (hb0.cell (rfl))) ?_
 refine s1 (Af rfl) ?_
 refine s1 (Ad Ct sz100 rfl) ?_
 refine s1 (Ae un100 rfl (hB.cell (rfl))) ?_
 refine s1 (Ae un9 rfl (hb1.cell (rfl))) ?_
 obtain⟨⟨p0,n0,c0,s0⟩,hr0⟩:∃ x:Raw,x=(μ k).getD raw0:=⟨_,rfl⟩
 obtain⟨hF0,hs0⟩:=hF.get k
 rw[← hr0] at hF0 hs0
 simp only at hF0 hs0
 refine s1 (((lookF u100 zr113 (Ce u9) hM k rfl rfl).1).cast (by rw[← hr0];rfl:_=Value.agg #[.slice p0 n0 c0,.int .i64 (s0:Int)])) ?_
 refine s1 (Kv Dw un23 rfl rfl) ?_
 refine s1 (Aj u23 rfl) ?_
 have hgl:=(Ga hok k).1
 have hlen0:=hF0.len
 unfold getF ascF at hgl
 refine s1 (Cz rfl rfl (Ag (by omega) (by omega))) ?_
 refine s1 (Af rfl) ?_
 refine s1 (Ad Eq sz3 rfl) ?_
 refine Ca ?_
 refine Ar rfl (by conv=>lhs;whnf) rfl rfl sz3 hB (by simp) ?_
 intro w2 hP2
 have hX:=hX.put hP2 (⟨.inl hSg,by decide⟩)
 have hB:=hP2.blk
 try simp only[List.setIfInBounds_toArray,List.set_cons_zero,List.set_cons_succ] at hB
 have hM:=hM.mod (hP2.mod 0 (Nat.zero_le _)) (Nat.zero_le _) (by decide)
 have hF:=hF.one hP2.one (by decide)
 have hb0:=hb0.one hP2.one (by decide)
 have hb1:=hb1.one hP2.one (by decide)
 refine Ac (t_n ?_)
 refine Cp 5 mixed (by kernel_rfl) ?_
 intro w3 hE3
 have hX:=hX.ext hE3
 have hB:=hB.ext hE3
 have hM:=hM.ext hE3
 have hF:=hF.ext hE3
 have hb0:=hb0.ext hE3
 have hb1:=hb1.ext hE3
 refine s1 (Ae un34 rfl (hb0.cell (rfl))) ?_
 refine s1 (Af rfl) ?_
 refine s1 (Ad Ct sz100 rfl) ?_
 refine s1 (Ae un100 rfl (hB.cell (rfl))) ?_
 refine s1 (Ae un9 rfl (hb1.cell (rfl))) ?_
 refine Ca ?_
 have hMt4:=hM.tyOf
 refine Qy (a:=k) u100 (Ce u9) rfl rfl hM (Nat.zero_le _) (by decide) ?_
 intro w4 hM hMm4 hne4
 have hO4:=One.ofMod hMm4 hMt4 hne4
 have hX:=hX.one hO4 ⟨.inl hSr,by decide⟩
 have hB:=hB.one hO4 (by decide)
 have hF:=hF.one hO4 (by decide)
 have hF:=hF.del hok.rise k
 refine Ac ?_
 refine end0n rfl ?_
 have hu:=Ea hok hk none
 unfold getF ascF at hu
 simp only[Option.map_none,Option.getD_none] at hu
 exact⟨Dsk.made hB (by omega) hM hSg hSr hF Ei,hX⟩
theorem Pw (g:Nat) (S:Nat→Prop) (D:DS) (w:World) (hD:Dsk S w g D) (hok:DOk D) (old now:ByteArray) (hk:ascA D.l old≠none) (b0:Nat) (b1:Nat) (b2:Nat) (hb0:Blk w b0 #[.string old] 9) (hb1:Blk w b1 #[.string now] 9) (hb2:Blk w b2 #[.pointer (some ⟨g,0,none⟩)] 34) :
    Ret Tryz.prog 146 [.pointer (some ⟨b0,0,none⟩),.pointer (some ⟨b1,0,none⟩),.pointer (some ⟨b2,0,none⟩)] w (fun v w'=>Dsk (grow S w w') w' g { D with l:=renL D.l old now (getF D old) }∧ModS S ED w w'):=by
 obtain⟨r,μ,hB,hM,hSg,hSr,hF⟩:=hD.ex
 have hW1:=Nat.le_refl w.heap.size
 have hroom:=hok.room
 have hmost:=hok.most
 obtain⟨hk1,hk2⟩:=hF.there hk
 have hX:=ModS.refl S ED w
 refine eN 37 Tryz.func146 ?_
 refine Ab (Ab (Aa ?_))
 refine p1 (Ae un9 rfl (hb0.cell (rfl))) ?_
 refine p1 (Ae un9 rfl (hb1.cell (rfl))) ?_
 refine p1 (Fe rfl rfl) ?_
 refine Ac (t_n ?_)
 refine As rfl (fun hc5=>?_) (fun hc5=>?_)
 ·have hll:renL D.l old now (getF D old)=D.l:=if_pos hc5
  refine Ak (t_r ?_)
  refine end0 rfl ?_
  (rw[hll];exact⟨Dsk.made hB rfl hM hSg hSr hF Ei,hX⟩)
 have hll:renL D.l old now (getF D old)=insA (insA D.l now (some (getF D old))) old none:=if_neg hc5
 refine Ai (t_n (Ab ?_))
 refine Cp 15 mixed (by kernel_rfl) ?_
 intro w1 hE1
 have hX:=hX.ext hE1
 have hB:=hB.ext hE1
 have hM:=hM.ext hE1
 have hF:=hF.ext hE1
 have hb0:=hb0.ext hE1
 have hb1:=hb1.ext hE1
 have hb2:=hb2.ext hE1
 refine s1 (Ae un34 rfl (hb2.cell (rfl))) ?_
 refine s1 (Af rfl) ?_
 refine s1 (Ad Eq sz3 rfl) ?_
 refine s1 (Ae un3 rfl (hB.cell (rfl))) ?_
 refine s1 (Ae un34 rfl (hb2.cell (rfl))) ?_
 refine s1 (Af rfl) ?_
 refine s1 (Ad Ct sz100 rfl) ?_
 refine s1 (Ae un100 rfl (hB.cell (rfl))) ?_
 refine s1 (Ae un9 rfl (hb1.cell (rfl))) ?_
 obtain⟨⟨p0,n0,c0,s0⟩,hr0⟩:∃ x:Raw,x=(μ now).getD raw0:=⟨_,rfl⟩
 obtain⟨hF0,hs0⟩:=hF.get now
 rw[← hr0] at hF0 hs0
 simp only at hF0 hs0
 refine s1 (((lookF u100 zr113 (Ce u9) hM now rfl rfl).1).cast (by rw[← hr0];rfl:_=Value.agg #[.slice p0 n0 c0,.int .i64 (s0:Int)])) ?_
 refine s1 (Kv Dw un23 rfl rfl) ?_
 refine s1 (Aj u23 rfl) ?_
 have hgl:=(Ga hok now).1
 have hlen0:=hF0.len
 unfold getF ascF at hgl
 refine s1 (Cz rfl rfl (Ag (by omega) (by omega))) ?_
 refine s1 (Af rfl) ?_
 refine s1 (Ad Eq sz3 rfl) ?_
 refine Ca ?_
 refine Ar rfl (by conv=>lhs;whnf) rfl rfl sz3 hB (by simp) ?_
 intro w2 hP2
 have hX:=hX.put hP2 (⟨.inl hSg,by decide⟩)
 have hB:=hP2.blk
 try simp only[List.setIfInBounds_toArray,List.set_cons_zero,List.set_cons_succ] at hB
 have hM:=hM.mod (hP2.mod 0 (Nat.zero_le _)) (Nat.zero_le _) (by decide)
 have hF:=hF.one hP2.one (by decide)
 have hb0:=hb0.one hP2.one (by decide)
 have hb1:=hb1.one hP2.one (by decide)
 have hb2:=hb2.one hP2.one (by decide)
 refine Ac (t_n (Ab ?_))
 refine Cp 11 mixed (by kernel_rfl) ?_
 intro w3 hE3
 have hX:=hX.ext hE3
 have hB:=hB.ext hE3
 have hM:=hM.ext hE3
 have hF:=hF.ext hE3
 have hb0:=hb0.ext hE3
 have hb1:=hb1.ext hE3
 have hb2:=hb2.ext hE3
 refine s1 (Ae un34 rfl (hb2.cell (rfl))) ?_
 refine s1 (Af rfl) ?_
 refine s1 (Ad Ct sz100 rfl) ?_
 refine s1 (Ae un100 rfl (hB.cell (rfl))) ?_
 refine s1 (Ae un9 rfl (hb1.cell (rfl))) ?_
 refine s1 (Ae un34 rfl (hb2.cell (rfl))) ?_
 refine s1 (Af rfl) ?_
 refine s1 (Ad Ct sz100 rfl) ?_
 refine s1 (Ae un100 rfl (hB.cell (rfl))) ?_
 refine s1 (Ae un9 rfl (hb0.cell (rfl))) ?_
 obtain⟨⟨p9,n9,c9,s9⟩,hr9⟩:∃ x:Raw,x=(μ old).getD raw0:=⟨_,rfl⟩
 obtain⟨hF9,hs9⟩:=hF.get old
 rw[← hr9] at hF9 hs9
 simp only at hF9 hs9
 refine s1 (((lookF u100 zr113 (Ce u9) hM old rfl rfl).1).cast (by rw[← hr9];rfl:_=Value.agg #[.slice p9 n9 c9,.int .i64 (s9:Int)])) ?_
 refine Ca ?_
 have hMt4:=hM.tyOf
 refine Ej (a:=now) (b:=(p9,n9,c9,s9)) u100 (Ce u9) rfl rfl rfl hM rfl (Nat.zero_le _) (by decide) ?_
 intro w4 hM hMm4 hne4
 have hO4:=One.ofMod hMm4 hMt4 hne4
 have hX:=hX.one hO4 ⟨.inl hSr,by decide⟩
 have hB:=hB.one hO4 (by decide)
 have hb0:=hb0.one hO4 (by decide)
 have hb2:=hb2.one hO4 (by decide)
 have hF:=hF.one hO4 (by decide)
 skip
 refine Ac (t_n ?_)
 refine Cp 5 mixed (by kernel_rfl) ?_
 intro w5 hE5
 have hX:=hX.ext hE5
 have hM:=hM.ext hE5
 have hF:=hF.ext hE5
 have hB:=hB.ext hE5
 have hb0:=hb0.ext hE5
 have hb2:=hb2.ext hE5
 refine s1 (Ae un34 rfl (hb2.cell (rfl))) ?_
 refine s1 (Af rfl) ?_
 refine s1 (Ad Ct sz100 rfl) ?_
 refine s1 (Ae un100 rfl (hB.cell (rfl))) ?_
 refine s1 (Ae un9 rfl (hb0.cell (rfl))) ?_
 refine Ca ?_
 have hMt6:=hM.tyOf
 refine Qy (a:=old) u100 (Ce u9) rfl rfl hM (Nat.zero_le _) (by decide) ?_
 intro w6 hM hMm6 hne6
 have hO6:=One.ofMod hMm6 hMt6 hne6
 have hX:=hX.one hO6 ⟨.inl hSr,by decide⟩
 have hB:=hB.one hO6 (by decide)
 have hF:=hF.one hO6 (by decide)
 skip
 refine Ac ?_
 refine end0n rfl ?_
 (have h5:=(Aa3 hok (now:=now) hk).2.2.2.2 hc5
  unfold getF ascF at h5
  rw[hr9] at hM
  have hF:=hF.ren hok.rise hc5 hk
  exact⟨Dsk.made hB (by unfold getF ascF;omega) hM hSg hSr (by rw[hll];exact hF) Ei,hX⟩)
theorem Vq (g:Nat) (S:Nat→Prop) (D:DS) (w:World) (hD:Dsk S w g D) (hok:DOk D) (k:ByteArray) (hk:ascA D.l k≠none) (n:Nat) (hn:n≤(getF D k).1.length) (b0:Nat) (b1:Nat) (b2:Nat) (hb0:Blk w b0 #[.pointer (some ⟨g,0,none⟩)] 34) (hb1:Blk w b1 #[.string k] 9) (hb2:Blk w b2 #[.int .i64 (n:Int)] 3) :
    Ret Tryz.prog 141 [.pointer (some ⟨b0,0,none⟩),.pointer (some ⟨b1,0,none⟩),.pointer (some ⟨b2,0,none⟩)] w (fun v w'=>Dsk (grow S w w') w' g { D with l:=insA D.l k (some ((getF D k).1.take n,n)) }∧ModS S ED w w'):=by
 obtain⟨r,μ,hB,hM,hSg,hSr,hF⟩:=hD.ex
 have hW1:=Nat.le_refl w.heap.size
 have hroom:=hok.room
 have hmost:=hok.most
 obtain⟨hk1,hk2⟩:=hF.there hk
 have hX:=ModS.refl S ED w
 refine eN 34 Tryz.func141 ?_
 refine Ab ?_
 refine B7 (fun w1 w2=>Ext w1 w2) mixed ?_
 intro w1 hE1
 have hX:=hX.ext hE1
 have hB:=hB.ext hE1
 have hM:=hM.ext hE1
 have hF:=hF.ext hE1
 have hb0:=hb0.ext hE1
 have hb1:=hb1.ext hE1
 have hb2:=hb2.ext hE1
 have hSr0:(fun w1 w2=>Ext w1 w2) w1 w1:=Ext.refl w1
 refine hT 0 rfl hSr0 (fun wS hSS=>by(have hb0:=hb0.ext hSS;exact(Ae un34 rfl (hb0.cell (rfl))))) ?_
 refine hT 1 rfl hSr0 (fun wS hSS=>by(exact(Af rfl))) ?_
 refine hT 2 rfl hSr0 (fun wS hSS=>by(exact(Ad Ct sz100 rfl))) ?_
 refine hT 3 rfl hSr0 (fun wS hSS=>by(have hB:=hB.ext hSS;exact(Ae un100 rfl (hB.cell (rfl))))) ?_
 refine hT 4 rfl hSr0 (fun wS hSS=>by(have hb1:=hb1.ext hSS;exact(Ae un9 rfl (hb1.cell (rfl))))) ?_
 obtain⟨⟨p0,n0,c0,s0⟩,hr0⟩:∃ x:Raw,x=(μ k).getD raw0:=⟨_,rfl⟩
 obtain⟨hF0,hs0⟩:=hF.get k
 rw[← hr0] at hF0 hs0
 simp only at hF0 hs0
 refine hT 5 rfl hSr0 (fun wS hSS=>by(have hM:=hM.ext hSS;exact(((lookF u100 zr113 (Ce u9) hM k rfl rfl).1).cast (by rw[← hr0];rfl:_=Value.agg #[.slice p0 n0 c0,.int .i64 (s0:Int)])))) ?_
 refine h1L 6 (fun Q6 hQ6=>?_)
 have hXs:=hX.size
 refine A6 zr113 ?_
 intro w2 g3 hN3
 have hE2:=hN3.ext
 have hX:=hX.ext hE2
 have hB:=hB.ext hE2
 have hM:=hM.ext hE2
 have hF:=hF.ext hE2
 have hb0:=hb0.ext hE2
 have hb1:=hb1.ext hE2
 have hb2:=hb2.ext hE2
 have hSr0:=hSr0.ext hE2
 have hB3:=hN3.blk
 refine An hQ6 ⟨hSr0,?_⟩
 refine h1L 7 (fun Q7 hQ7=>?_)
 have hg3:w.heap.size≤g3:=by rw[hN3.g_eq];exact hXs
 refine Az rfl (by conv=>lhs;whnf) (by simp[Value.oneCell']) (by exact sz113) hB3 (by rfl) ?_
 intro w3 hP3
 have hX:=hX.put hP3 (⟨.inr (by rw[hN3.g_eq];exact hXs),by decide⟩)
 have hB:=hB.one hP3.one (by decide)
 have hM:=hM.mod (hP3.mod 0 (Nat.zero_le _)) (Nat.zero_le _) (by decide)
 have hF:=hF.one hP3.one (by decide)
 have hb0:=hb0.one hP3.one (by decide)
 have hb1:=hb1.one hP3.one (by decide)
 have hb2:=hb2.one hP3.one (by decide)
 have hSr0:=hSr0.put hP3 (by rw[hN3.g_eq];exact Nat.le_refl _)
 have hB3:=hP3.blk
 refine An hQ7 ⟨hSr0,?_⟩
 refine Bm (by kernel_rfl) ?_
 refine t_n (Ab ?_)
 refine Cp 12 mixed (by kernel_rfl) ?_
 intro w4 hE4
 have hX:=hX.ext hE4
 have hB:=hB.ext hE4
 have hM:=hM.ext hE4
 have hF:=hF.ext hE4
 have hb0:=hb0.ext hE4
 have hb1:=hb1.ext hE4
 have hb2:=hb2.ext hE4
 have hB3:=hB3.ext hE4
 refine s1 (Ae un34 rfl (hb0.cell (rfl))) ?_
 refine s1 (Af rfl) ?_
 refine s1 (Ad Eq sz3 rfl) ?_
 refine s1 (Ae un3 rfl (hB.cell (rfl))) ?_
 refine s1 (Ad Dw sz23 rfl) ?_
 refine s1 (Ae un23 rfl (hB3.cell (rfl))) ?_
 refine s1 (Aj u23 rfl) ?_
 refine s1 (Ae un3 rfl (hb2.cell (rfl))) ?_
 have hF0:=(hF.get k).1
 rw[← hr0] at hF0
 simp only at hF0
 have hgl:=(Ga hok k).1
 have hlen0:=hF0.len
 unfold getF ascF at hgl
 try unfold getF ascF at hn
 refine s1 (Cz rfl rfl (Ag (by omega) (by omega))) ?_
 refine s1 (Cz rfl rfl (Ag (by omega) (by omega))) ?_
 refine s1 (Af rfl) ?_
 refine s1 (Ad Eq sz3 rfl) ?_
 refine Ca ?_
 refine Ar rfl (by conv=>lhs;whnf) rfl rfl sz3 hB (by simp) ?_
 intro w5 hP5
 have hX:=hX.put hP5 (⟨.inl hSg,by decide⟩)
 have hB:=hP5.blk
 try simp only[List.setIfInBounds_toArray,List.set_cons_zero,List.set_cons_succ] at hB
 have hM:=hM.mod (hP5.mod 0 (Nat.zero_le _)) (Nat.zero_le _) (by decide)
 have hF:=hF.one hP5.one (by decide)
 have hb0:=hb0.one hP5.one (by decide)
 have hb1:=hb1.one hP5.one (by decide)
 have hb2:=hb2.one hP5.one (by decide)
 have hB3:=hB3.one hP5.one (by decide)
 refine Ac (t_n ?_)
 refine Cp 12 mixed (by kernel_rfl) ?_
 intro w6 hE6
 have hX:=hX.ext hE6
 have hB:=hB.ext hE6
 have hM:=hM.ext hE6
 have hF:=hF.ext hE6
 have hb0:=hb0.ext hE6
 have hb1:=hb1.ext hE6
 have hb2:=hb2.ext hE6
 have hB3:=hB3.ext hE6
 refine s1 (Ae un34 rfl (hb0.cell (rfl))) ?_
 refine s1 (Af rfl) ?_
 refine s1 (Ad Ct sz100 rfl) ?_
 refine s1 (Ae un100 rfl (hB.cell (rfl))) ?_
 refine s1 (Ae un9 rfl (hb1.cell (rfl))) ?_
 refine s1 (Ad Dw sz23 rfl) ?_
 refine s1 (Ae un23 rfl (hB3.cell (rfl))) ?_
 refine s1 (Ae un3 rfl (hb2.cell (rfl))) ?_
 refine s1 (Ae un3 rfl (hb2.cell (rfl))) ?_
 have hcc:=hF0.cap
 have hlen0:=hF0.len
 try unfold getF ascF at hn
 refine s1 (N4 u23 sz5 rfl rfl rfl (by omega) (by omega) (by omega)) ?_
 refine s1 (Ae un3 rfl (hb2.cell (rfl))) ?_
 refine s1 (Oa pl113 (by conv=>lhs;whnf) (by conv=>lhs;whnf) rfl rfl) ?_
 refine Ca ?_
 have hMt7:=hM.tyOf
 refine Ej (a:=k) (b:=(p0,n,n,n)) u100 (Ce u9) rfl rfl rfl hM rfl (Nat.zero_le _) (by decide) ?_
 intro w7 hM hMm7 hne7
 have hO7:=One.ofMod hMm7 hMt7 hne7
 have hX:=hX.one hO7 ⟨.inl hSr,by decide⟩
 have hB:=hB.one hO7 (by decide)
 have hF:=hF.one hO7 (by decide)
 have hF0:=(hF.get k).1
 rw[← hr0] at hF0
 simp only at hF0
 have hF:=hF.put hok.rise k (p0,n,n,n) ((getF D k).1.take n,n) rfl (hF0.cut n (by omega)) (fun k' y hn hy=>by have h9:=R7 hF hk1 k' y hn hy;rw[← hr0] at h9;exact h9)
 refine Ac ?_
 refine end0n rfl ?_
 have hu:=Ea hok hk (some ((getF D k).1.take n,n))
 unfold getF ascF at hu
 simp only[Option.map_some,Option.getD_some,List.length_take] at hu
 try unfold getF ascF at hn
 exact⟨Dsk.made hB (by unfold getF ascF at *;omega) hM hSg hSr hF Ei,hX⟩
end Go.Proofs.Eng
end
section
set_option maxRecDepth 100000
set_option maxHeartbeats 4000000
namespace Go.Proofs.Eng
open Go.RowKit
open Extern.Stop (cell)
theorem I6 (g:Nat) (S:Nat→Prop) (D:DS) (w:World) (hD:Dsk S w g D) (hok:DOk D) (hst:D.steps<4611686018427387904) (hle:D.left≤9223372036854775807) (k:ByteArray) (hks:k.size≤9223372036854775807) :
    Ret Tryz.prog 18 [.pointer (some ⟨g,0,none⟩),.string k] w (fun v w'=>v = .int .i64 (Bk D k).2∧Dsk (grow S w w') w' g (Bk D k).1∧ModS S ED w w'):=by
 have hX:=Ext.refl w
 refine eN 28 Tryz.func18 ?_
 refine Ab (Aa ?_)
 refine Cq (by conv=>lhs;whnf) rfl ?_
 intro w1 g2 hN2
 have hE1:=hN2.ext
 have hX:=hX.ext hE1
 have hD:=hD.ext hE1
 have hB2:=hN2.blk
 refine Cq (by conv=>lhs;whnf) rfl ?_
 intro w2 g3 hN3
 have hE2:=hN3.ext
 have hX:=hX.ext hE2
 have hD:=hD.ext hE2
 have hB2:=hB2.ext hE2
 have hB3:=hN3.blk
 refine pA (Ac (t_n (Ab (Ab (Aa ?_)))))
 refine p1 (Ae un34 rfl (hB2.cell (rfl))) ?_
 refine p1 (Ae un9 rfl (hB3.cell (rfl))) ?_
 refine Au u74 inf9 rfl (by decide) (fun base hb=>Cj (by rfl) base hb) ?_
 intro w3 g8 hN8
 have hE3:=hN8.ext
 have hX:=hX.ext hE3
 have hD:=hD.ext hE3
 have hB2:=hB2.ext hE3
 have hB3:=hB3.ext hE3
 have hS8:Sl kStr 9 0 w3 (some ⟨g8,0,none⟩) 1 1 [k]:=(Cw (B0:=0) [k] hN8 (Nat.zero_le _) (by simp)).sl
 refine Ah Tryz.func60 fn60 fb60 (Ez g S D _ hD [k] 0 _ _ _ hS8 (by intro s hs';simp only[List.mem_singleton] at hs';subst hs';exact hks)) rfl ?_
 rintro v4 w4 ⟨rfl,hE4⟩
 have hX:=hX.ext hE4
 have hD:=hD.ext hE4
 have hB2:=hB2.ext hE4
 have hB3:=hB3.ext hE4
 refine pA (Ac (t_n (Am (Ab (Aa ?_)))))
 refine pM ?_
 refine p1 (A2 rfl rfl) ?_
 refine pA (Ac (t_n ?_))
 refine As rfl (fun hc10=>?_) (fun hc10=>?_)
 ·have hp:Bk D k=(D,lookD D [k]):=if_pos hc10
  refine Ab (Aa ?_)
  refine pM (pA (Ac (t_n (Ak (b_r (t_r ?_))))))
  refine eR1 ?_
  exact⟨by rw[hp],by rw[hp];exact hD.grown w,ModS.ofExt hX⟩
 refine Ab (Aa ?_)
 refine p1 (Ae un34 rfl (hB2.cell (rfl))) ?_
 refine p1 (Ae un9 rfl (hB3.cell (rfl))) ?_
 refine Ah Tryz.func61 fn61 fb61 (Ev g S D _ hD k) rfl ?_
 rintro v5 w5 ⟨rfl,hE5⟩
 have hX:=hX.ext hE5
 have hD:=hD.ext hE5
 have hB2:=hB2.ext hE5
 have hB3:=hB3.ext hE5
 refine pA (Ac (t_n ?_))
 refine As rfl (fun hc14=>?_) (fun hc14=>?_)
 ·have hp:Bk D k=(D,23):=by unfold Bk;rw[if_neg hc10,if_pos hc14]
  refine Ab (Aa ?_)
  refine pA (Ac (t_n (Ak (b_r (t_r ?_)))))
  refine eR1 ?_
  exact⟨by rw[hp],by rw[hp];exact hD.grown w,ModS.ofExt hX⟩
 refine Ab (Aa ?_)
 obtain⟨r,μ,hB,hM,hSg,hSr,hF⟩:=hD.ex
 refine p1 (Ae un34 rfl (hB2.cell (rfl))) ?_
 refine p1 (Af rfl) ?_
 refine p1 (Ad Ct sz100 rfl) ?_
 refine p1 (Ae un100 rfl (hB.cell (rfl))) ?_
 refine p1 (N8 u100 hM hF hok.rise rfl) ?_
 refine p1 (T0 rfl rfl) ?_
 refine pA (Ac (t_n ?_))
 refine As rfl (fun hc18=>?_) (fun hc18=>?_)
 ·have hp:Bk D k=(D,21):=by unfold Bk;rw[if_neg hc10,if_neg hc14,if_pos (by omega)]
  refine Ab (Aa ?_)
  refine pA (Ac (t_n (Ak (b_r (t_r ?_)))))
  refine eR1 ?_
  exact⟨by rw[hp],by rw[hp];exact hD.grown w,ModS.ofExt hX⟩
 have hp:Bk D k=stepD D (insA D.l k (some ([],0))) true false:=by unfold Bk;rw[if_neg hc10,if_neg hc14,if_neg (by omega)]
 have hk:ascA D.l k=none:=Classical.byContradiction fun e=>hc14 e
 refine Ai (b_n (t_n (Ab (Aa ?_))))
 refine p1 (Ae un34 rfl (hB2.cell (rfl))) ?_
 refine p1 (Bi (fs:=[]) (cs:=[.pointer (some ⟨g2,0,none⟩),.pointer (some ⟨g3,0,none⟩)]) rfl rfl) ?_
 have hXs:=hX.size
 refine Ah Tryz.func62 fn62 fb62 (Gr g S D _ hD hok hst hle 63 _ Tryz.func63 fn63 fb63 [.pointer (some ⟨g2,0,none⟩),.pointer (some ⟨g3,0,none⟩)] (insA D.l k (some ([],0))) true false (fun w1 hE1=>P0 g S D _ (hD.ext hE1) hok k hk g2 g3 (hB2.ext hE1) (hB3.ext hE1))) rfl ?_
 rintro v6 w6 ⟨rfl,hD2,hM2⟩
 refine pA (Ac (t_n (Ak ?_)))
 refine eR1 ?_
 exact⟨by rw[hp],by rw[hp];exact hD2.wide hXs,(ModS.ofExt hX).trans hM2 (fun _ _ h=>h)⟩
theorem Mm (g:Nat) (S:Nat→Prop) (D:DS) (w:World) (hD:Dsk S w g D) (hok:DOk D) (hst:D.steps<4611686018427387904) (hle:D.left≤9223372036854775807) (k:ByteArray) (hks:k.size≤9223372036854775807) :
    Ret Tryz.prog 20 [.pointer (some ⟨g,0,none⟩),.string k] w (fun v w'=>v = .int .i64 (syncD D k).2∧Dsk (grow S w w') w' g (syncD D k).1∧ModS S ED w w'):=by
 have hX:=Ext.refl w
 refine eN 22 Tryz.func20 ?_
 refine Ab (Aa ?_)
 refine Cq (by conv=>lhs;whnf) rfl ?_
 intro w1 g2 hN2
 have hE1:=hN2.ext
 have hX:=hX.ext hE1
 have hD:=hD.ext hE1
 have hB2:=hN2.blk
 refine Cq (by conv=>lhs;whnf) rfl ?_
 intro w2 g3 hN3
 have hE2:=hN3.ext
 have hX:=hX.ext hE2
 have hD:=hD.ext hE2
 have hB2:=hB2.ext hE2
 have hB3:=hN3.blk
 refine pA (Ac (t_n (Ab (Ab (Aa ?_)))))
 refine p1 (Ae un34 rfl (hB2.cell (rfl))) ?_
 refine p1 (Ae un9 rfl (hB3.cell (rfl))) ?_
 refine Au u74 inf9 rfl (by decide) (fun base hb=>Cj (by rfl) base hb) ?_
 intro w3 g8 hN8
 have hE3:=hN8.ext
 have hX:=hX.ext hE3
 have hD:=hD.ext hE3
 have hB2:=hB2.ext hE3
 have hB3:=hB3.ext hE3
 have hS8:Sl kStr 9 0 w3 (some ⟨g8,0,none⟩) 1 1 [k]:=(Cw (B0:=0) [k] hN8 (Nat.zero_le _) (by simp)).sl
 refine Ah Tryz.func60 fn60 fb60 (Ez g S D _ hD [k] 0 _ _ _ hS8 (by intro s hs';simp only[List.mem_singleton] at hs';subst hs';exact hks)) rfl ?_
 rintro v4 w4 ⟨rfl,hE4⟩
 have hX:=hX.ext hE4
 have hD:=hD.ext hE4
 have hB2:=hB2.ext hE4
 have hB3:=hB3.ext hE4
 refine pA (Ac (t_n (Am (Ab (Aa ?_)))))
 refine pM ?_
 refine p1 (A2 rfl rfl) ?_
 refine pA (Ac (t_n ?_))
 refine As rfl (fun hc10=>?_) (fun hc10=>?_)
 ·have hp:syncD D k=(D,lookD D [k]):=if_pos hc10
  refine Ab (Aa ?_)
  refine pM (pA (Ac (t_n (Ak (b_r (t_r ?_))))))
  refine eR1 ?_
  exact⟨by rw[hp],by rw[hp];exact hD.grown w,ModS.ofExt hX⟩
 refine Ab (Aa ?_)
 refine p1 (Ae un34 rfl (hB2.cell (rfl))) ?_
 refine p1 (Ae un9 rfl (hB3.cell (rfl))) ?_
 refine Ah Tryz.func61 fn61 fb61 (Ev g S D _ hD k) rfl ?_
 rintro v5 w5 ⟨rfl,hE5⟩
 have hX:=hX.ext hE5
 have hD:=hD.ext hE5
 have hB2:=hB2.ext hE5
 have hB3:=hB3.ext hE5
 refine p1 (Hu rfl) ?_
 refine pA (Ac (t_n ?_))
 refine As rfl (fun hc14=>?_) (fun hc14=>?_)
 ·have hk:ascF D.l k=none:=by simpa using hc14
  have hp:syncD D k=(D,22):=by unfold syncD;rw[if_neg hc10,if_pos hk]
  refine Ab (Aa ?_)
  refine pA (Ac (t_n (Ak (b_r (t_r ?_)))))
  refine eR1 ?_
  exact⟨by rw[hp],by rw[hp];exact hD.grown w,ModS.ofExt hX⟩
 have hk:¬ ascF D.l k=none:=by simpa using hc14
 have hp:syncD D k=stepD D (insA D.l k (some ((getF D k).1,(getF D k).1.length))) false false:=by unfold syncD;rw[if_neg hc10,if_neg hk]
 refine Ai (b_n (t_n (Ab (Aa ?_))))
 refine p1 (Ae un34 rfl (hB2.cell (rfl))) ?_
 refine p1 (Bi (fs:=[]) (cs:=[.pointer (some ⟨g2,0,none⟩),.pointer (some ⟨g3,0,none⟩)]) rfl rfl) ?_
 have hXs:=hX.size
 refine Ah Tryz.func62 fn62 fb62 (Gr g S D _ hD hok hst hle 65 _ Tryz.func65 fn65 fb65 [.pointer (some ⟨g2,0,none⟩),.pointer (some ⟨g3,0,none⟩)] (insA D.l k (some ((getF D k).1,(getF D k).1.length))) false false (fun w1 hE1=>Tm g S D _ (hD.ext hE1) hok k hk g2 g3 (hB2.ext hE1) (hB3.ext hE1))) rfl ?_
 rintro v6 w6 ⟨rfl,hD2,hM2⟩
 refine pA (Ac (t_n (Ak ?_)))
 refine eR1 ?_
 exact⟨by rw[hp],by rw[hp];exact hD2.wide hXs,(ModS.ofExt hX).trans hM2 (fun _ _ h=>h)⟩
theorem Cu (g:Nat) (S:Nat→Prop) (D:DS) (w:World) (hD:Dsk S w g D) (hok:DOk D) (hst:D.steps<4611686018427387904) (hle:D.left≤9223372036854775807) (k:ByteArray) (hks:k.size≤9223372036854775807) :
    Ret Tryz.prog 95 [.pointer (some ⟨g,0,none⟩),.string k] w (fun v w'=>v = .int .i64 (Bj D k).2∧Dsk (grow S w w') w' g (Bj D k).1∧ModS S ED w w'):=by
 have hX:=Ext.refl w
 refine eN 22 Tryz.func95 ?_
 refine Ab (Aa ?_)
 refine Cq (by conv=>lhs;whnf) rfl ?_
 intro w1 g2 hN2
 have hE1:=hN2.ext
 have hX:=hX.ext hE1
 have hD:=hD.ext hE1
 have hB2:=hN2.blk
 refine Cq (by conv=>lhs;whnf) rfl ?_
 intro w2 g3 hN3
 have hE2:=hN3.ext
 have hX:=hX.ext hE2
 have hD:=hD.ext hE2
 have hB2:=hB2.ext hE2
 have hB3:=hN3.blk
 refine pA (Ac (t_n (Ab (Ab (Aa ?_)))))
 refine p1 (Ae un34 rfl (hB2.cell (rfl))) ?_
 refine p1 (Ae un9 rfl (hB3.cell (rfl))) ?_
 refine Au u74 inf9 rfl (by decide) (fun base hb=>Cj (by rfl) base hb) ?_
 intro w3 g8 hN8
 have hE3:=hN8.ext
 have hX:=hX.ext hE3
 have hD:=hD.ext hE3
 have hB2:=hB2.ext hE3
 have hB3:=hB3.ext hE3
 have hS8:Sl kStr 9 0 w3 (some ⟨g8,0,none⟩) 1 1 [k]:=(Cw (B0:=0) [k] hN8 (Nat.zero_le _) (by simp)).sl
 refine Ah Tryz.func60 fn60 fb60 (Ez g S D _ hD [k] 0 _ _ _ hS8 (by intro s hs';simp only[List.mem_singleton] at hs';subst hs';exact hks)) rfl ?_
 rintro v4 w4 ⟨rfl,hE4⟩
 have hX:=hX.ext hE4
 have hD:=hD.ext hE4
 have hB2:=hB2.ext hE4
 have hB3:=hB3.ext hE4
 refine pA (Ac (t_n (Am (Ab (Aa ?_)))))
 refine pM ?_
 refine p1 (A2 rfl rfl) ?_
 refine pA (Ac (t_n ?_))
 refine As rfl (fun hc10=>?_) (fun hc10=>?_)
 ·have hp:Bj D k=(D,lookD D [k]):=if_pos hc10
  refine Ab (Aa ?_)
  refine pM (pA (Ac (t_n (Ak (b_r (t_r ?_))))))
  refine eR1 ?_
  exact⟨by rw[hp],by rw[hp];exact hD.grown w,ModS.ofExt hX⟩
 refine Ab (Aa ?_)
 refine p1 (Ae un34 rfl (hB2.cell (rfl))) ?_
 refine p1 (Ae un9 rfl (hB3.cell (rfl))) ?_
 refine Ah Tryz.func61 fn61 fb61 (Ev g S D _ hD k) rfl ?_
 rintro v5 w5 ⟨rfl,hE5⟩
 have hX:=hX.ext hE5
 have hD:=hD.ext hE5
 have hB2:=hB2.ext hE5
 have hB3:=hB3.ext hE5
 refine p1 (Hu rfl) ?_
 refine pA (Ac (t_n ?_))
 refine As rfl (fun hc14=>?_) (fun hc14=>?_)
 ·have hk:ascF D.l k=none:=by simpa using hc14
  have hp:Bj D k=(D,22):=by unfold Bj;rw[if_neg hc10,if_pos hk]
  refine Ab (Aa ?_)
  refine pA (Ac (t_n (Ak (b_r (t_r ?_)))))
  refine eR1 ?_
  exact⟨by rw[hp],by rw[hp];exact hD.grown w,ModS.ofExt hX⟩
 have hk:¬ ascF D.l k=none:=by simpa using hc14
 have hp:Bj D k=stepD D (insA D.l k none) true false:=by unfold Bj;rw[if_neg hc10,if_neg hk]
 refine Ai (b_n (t_n (Ab (Aa ?_))))
 refine p1 (Ae un34 rfl (hB2.cell (rfl))) ?_
 refine p1 (Bi (fs:=[]) (cs:=[.pointer (some ⟨g2,0,none⟩),.pointer (some ⟨g3,0,none⟩)]) rfl rfl) ?_
 have hXs:=hX.size
 refine Ah Tryz.func62 fn62 fb62 (Gr g S D _ hD hok hst hle 142 _ Tryz.func142 fn142 fb142 [.pointer (some ⟨g2,0,none⟩),.pointer (some ⟨g3,0,none⟩)] (insA D.l k none) true false (fun w1 hE1=>Px g S D _ (hD.ext hE1) hok k hk g2 g3 (hB2.ext hE1) (hB3.ext hE1))) rfl ?_
 rintro v6 w6 ⟨rfl,hD2,hM2⟩
 refine pA (Ac (t_n (Ak ?_)))
 refine eR1 ?_
 exact⟨by rw[hp],by rw[hp];exact hD2.wide hXs,(ModS.ofExt hX).trans hM2 (fun _ _ h=>h)⟩
theorem Vo (g:Nat) (S:Nat→Prop) (D:DS) (w:World) (hD:Dsk S w g D) (hok:DOk D) (hst:D.steps<4611686018427387904) (hle:D.left≤9223372036854775807) (old now:ByteArray) (hos:old.size≤9223372036854775807) (hns:now.size≤9223372036854775807) :
    Ret Tryz.prog 102 [.pointer (some ⟨g,0,none⟩),.string old,.string now] w (fun v w'=>v = .int .i64 (Cl D old now).2∧Dsk (grow S w w') w' g (Cl D old now).1∧ModS S ED w w'):=by
 have hX:=Ext.refl w
 refine eN 25 Tryz.func102 ?_
 refine Ab (Aa ?_)
 refine Cq (by conv=>lhs;whnf) rfl ?_
 intro w1 g3 hN3
 have hE1:=hN3.ext
 have hX:=hX.ext hE1
 have hD:=hD.ext hE1
 have hB3:=hN3.blk
 refine Cq (by conv=>lhs;whnf) rfl ?_
 intro w2 g4 hN4
 have hE2:=hN4.ext
 have hX:=hX.ext hE2
 have hD:=hD.ext hE2
 have hB3:=hB3.ext hE2
 have hB4:=hN4.blk
 refine Cq (by conv=>lhs;whnf) rfl ?_
 intro w3 g5 hN5
 have hE3:=hN5.ext
 have hX:=hX.ext hE3
 have hD:=hD.ext hE3
 have hB3:=hB3.ext hE3
 have hB4:=hB4.ext hE3
 have hB5:=hN5.blk
 refine pA (Ac (t_n (Ab (Ab (Aa ?_)))))
 refine p1 (Ae un34 rfl (hB3.cell (rfl))) ?_
 refine p1 (Ae un9 rfl (hB4.cell (rfl))) ?_
 refine p1 (Ae un9 rfl (hB5.cell (rfl))) ?_
 refine Au u74 inf9 rfl (by decide) (fun base hb=>Gc [.string old,.string now] (by intro v hv';simp only[List.mem_cons,List.not_mem_nil,or_false] at hv';rcases hv' with rfl | rfl <;> rfl) base hb) ?_
 intro w4 g11 hN11
 have hE4:=hN11.ext
 have hX:=hX.ext hE4
 have hD:=hD.ext hE4
 have hB3:=hB3.ext hE4
 have hB4:=hB4.ext hE4
 have hB5:=hB5.ext hE4
 have hS11:Sl kStr 9 0 w4 (some ⟨g11,0,none⟩) 2 2 [old,now]:=(Cw (B0:=0) [old,now] hN11 (Nat.zero_le _) (by simp)).sl
 refine Ah Tryz.func60 fn60 fb60 (Ez g S D _ hD [old,now] 0 _ _ _ hS11 (by intro s hs';simp only[List.mem_cons,List.not_mem_nil,or_false] at hs';rcases hs' with rfl | rfl <;> assumption)) rfl ?_
 rintro v5 w5 ⟨rfl,hE5⟩
 have hX:=hX.ext hE5
 have hD:=hD.ext hE5
 have hB3:=hB3.ext hE5
 have hB4:=hB4.ext hE5
 have hB5:=hB5.ext hE5
 refine pA (Ac (t_n (Am (Ab (Aa ?_)))))
 refine pM ?_
 refine p1 (A2 rfl rfl) ?_
 refine pA (Ac (t_n ?_))
 refine As rfl (fun hc13=>?_) (fun hc13=>?_)
 ·have hp:Cl D old now=(D,lookD D [old,now]):=if_pos hc13
  refine Ab (Aa ?_)
  refine pM (pA (Ac (t_n (Ak (b_r (t_r ?_))))))
  refine eR1 ?_
  exact⟨by rw[hp],by rw[hp];exact hD.grown w,ModS.ofExt hX⟩
 refine Ab (Aa ?_)
 refine p1 (Ae un34 rfl (hB3.cell (rfl))) ?_
 refine p1 (Ae un9 rfl (hB4.cell (rfl))) ?_
 refine Ah Tryz.func61 fn61 fb61 (Ev g S D _ hD old) rfl ?_
 rintro v6 w6 ⟨rfl,hE6⟩
 have hX:=hX.ext hE6
 have hD:=hD.ext hE6
 have hB3:=hB3.ext hE6
 have hB4:=hB4.ext hE6
 have hB5:=hB5.ext hE6
 refine p1 (Hu rfl) ?_
 refine pA (Ac (t_n ?_))
 refine As rfl (fun hc17=>?_) (fun hc17=>?_)
 ·have hk:ascF D.l old=none:=by simpa using hc17
  have hp:Cl D old now=(D,22):=by unfold Cl;rw[if_neg hc13,if_pos hk]
  refine Ab (Aa ?_)
  refine pA (Ac (t_n (Ak (b_r (t_r ?_)))))
  refine eR1 ?_
  exact⟨by rw[hp],by rw[hp];exact hD.grown w,ModS.ofExt hX⟩
 have hk:¬ ascF D.l old=none:=by simpa using hc17
 have hp:Cl D old now=stepD D (renL D.l old now (getF D old)) true false:=by unfold Cl;rw[if_neg hc13,if_neg hk]
 refine Ai (b_n (t_n (Ab (Aa ?_))))
 refine p1 (Ae un34 rfl (hB3.cell (rfl))) ?_
 refine p1 (Bi (fs:=[]) (cs:=[.pointer (some ⟨g4,0,none⟩),.pointer (some ⟨g5,0,none⟩),.pointer (some ⟨g3,0,none⟩)]) rfl rfl) ?_
 have hXs:=hX.size
 refine Ah Tryz.func62 fn62 fb62 (Gr g S D _ hD hok hst hle 146 _ Tryz.func146 fn146 fb146 [.pointer (some ⟨g4,0,none⟩),.pointer (some ⟨g5,0,none⟩),.pointer (some ⟨g3,0,none⟩)] (renL D.l old now (getF D old)) true false (fun w1 hE1=>Pw g S D _ (hD.ext hE1) hok old now hk g4 g5 g3 (hB4.ext hE1) (hB5.ext hE1) (hB3.ext hE1))) rfl ?_
 rintro v7 w7 ⟨rfl,hD2,hM2⟩
 refine pA (Ac (t_n (Ak ?_)))
 refine eR1 ?_
 exact⟨by rw[hp],by rw[hp];exact hD2.wide hXs,(ModS.ofExt hX).trans hM2 (fun _ _ h=>h)⟩
theorem I7 (g:Nat) (S:Nat→Prop) (D:DS) (w:World) (hD:Dsk S w g D) (hok:DOk D) (hst:D.steps<4611686018427387904) (hle:D.left≤9223372036854775807) (k:ByteArray) (hks:k.size≤9223372036854775807) (e B:Nat) (p:Option Addr) (n c:Nat) (ys:List UInt8) (hl:Sl kByte e B w p n c ys) :
    Ret Tryz.prog 19 [.pointer (some ⟨g,0,none⟩),.string k,.slice p n c] w (fun v w'=>v = .int .i64 (A4 D k ys).2∧Dsk (grow S w w') w' g (A4 D k ys).1∧ModS S ED w w'):=by
 have hX:=Ext.refl w
 refine eN 37 Tryz.func19 ?_
 refine Ab (Aa ?_)
 refine Cq (by conv=>lhs;whnf) rfl ?_
 intro w1 g3 hN3
 have hE1:=hN3.ext
 have hX:=hX.ext hE1
 have hD:=hD.ext hE1
 have hl:=hl.ext hE1
 have hB3:=hN3.blk
 refine Cq (by conv=>lhs;whnf) rfl ?_
 intro w2 g4 hN4
 have hE2:=hN4.ext
 have hX:=hX.ext hE2
 have hD:=hD.ext hE2
 have hl:=hl.ext hE2
 have hB3:=hB3.ext hE2
 have hB4:=hN4.blk
 refine Cq (by conv=>lhs;whnf) rfl ?_
 intro w3 g5 hN5
 have hE3:=hN5.ext
 have hX:=hX.ext hE3
 have hD:=hD.ext hE3
 have hl:=hl.ext hE3
 have hB3:=hB3.ext hE3
 have hB4:=hB4.ext hE3
 have hB5:=hN5.blk
 refine pA (Ac (t_n (Ab (Ab (Aa ?_)))))
 refine p1 (Ae un34 rfl (hB3.cell (rfl))) ?_
 refine p1 (Ae un9 rfl (hB4.cell (rfl))) ?_
 refine Au u74 inf9 rfl (by decide) (fun base hb=>Cj (by rfl) base hb) ?_
 intro w4 g10 hN10
 have hE4:=hN10.ext
 have hX:=hX.ext hE4
 have hD:=hD.ext hE4
 have hl:=hl.ext hE4
 have hB3:=hB3.ext hE4
 have hB4:=hB4.ext hE4
 have hB5:=hB5.ext hE4
 have hS10:Sl kStr 9 0 w4 (some ⟨g10,0,none⟩) 1 1 [k]:=(Cw (B0:=0) [k] hN10 (Nat.zero_le _) (by simp)).sl
 refine Ah Tryz.func60 fn60 fb60 (Ez g S D _ hD [k] 0 _ _ _ hS10 (by intro s hs';simp only[List.mem_singleton] at hs';subst hs';exact hks)) rfl ?_
 rintro v5 w5 ⟨rfl,hE5⟩
 have hX:=hX.ext hE5
 have hD:=hD.ext hE5
 have hl:=hl.ext hE5
 have hB3:=hB3.ext hE5
 have hB4:=hB4.ext hE5
 have hB5:=hB5.ext hE5
 refine pA (Ac (t_n (Am (Ab (Aa ?_)))))
 refine pM ?_
 refine p1 (A2 rfl rfl) ?_
 refine pA (Ac (t_n ?_))
 refine As rfl (fun hc12=>?_) (fun hc12=>?_)
 ·have hp:A4 D k ys=(D,lookD D [k]):=if_pos hc12
  refine Ab (Aa ?_)
  refine pM (pA (Ac (t_n (Ak (b_r (t_r ?_))))))
  refine eR1 ?_
  exact⟨by rw[hp],by rw[hp];exact hD.grown w,ModS.ofExt hX⟩
 refine Ab (Aa ?_)
 refine p1 (Ae un34 rfl (hB3.cell (rfl))) ?_
 refine p1 (Ae un9 rfl (hB4.cell (rfl))) ?_
 refine Ah Tryz.func61 fn61 fb61 (Ev g S D _ hD k) rfl ?_
 rintro v6 w6 ⟨rfl,hE6⟩
 have hX:=hX.ext hE6
 have hD:=hD.ext hE6
 have hl:=hl.ext hE6
 have hB3:=hB3.ext hE6
 have hB4:=hB4.ext hE6
 have hB5:=hB5.ext hE6
 refine p1 (Hu rfl) ?_
 refine pA (Ac (t_n ?_))
 refine As rfl (fun hc16=>?_) (fun hc16=>?_)
 ·have hk:ascF D.l k=none:=by simpa using hc16
  have hp:A4 D k ys=(D,22):=by unfold A4;rw[if_neg hc12,if_pos hk]
  refine Ab (Aa ?_)
  refine pA (Ac (t_n (Ak (b_r (t_r ?_)))))
  refine eR1 ?_
  exact⟨by rw[hp],by rw[hp];exact hD.grown w,ModS.ofExt hX⟩
 have hk:¬ ascF D.l k=none:=by simpa using hc16
 have hlen:=hl.len
 have hlc:=hl.cap
 have hlf:=hl.fit
 have hroom:=hok.room
 have hmost:=hok.most
 refine Ab ?_
 refine Du mixed (by kernel_rfl) ?_
 intro w7 hE7
 have hX:=hX.ext hE7
 have hD:=hD.ext hE7
 have hl:=hl.ext hE7
 have hB3:=hB3.ext hE7
 have hB4:=hB4.ext hE7
 have hB5:=hB5.ext hE7
 obtain⟨r,μ,hB,hM,hSg,hSr,hF⟩:=hD.ex
 refine s1 (Ae un23 rfl (hB5.cell (rfl))) ?_
 refine s1 (Aj u23 rfl) ?_
 refine s1 (Ae un34 rfl (hB3.cell (rfl))) ?_
 refine s1 (Af rfl) ?_
 refine s1 (Ad Aea sz3 rfl) ?_
 refine s1 (Ae un3 rfl (hB.cell (rfl))) ?_
 refine s1 (Ae un34 rfl (hB3.cell (rfl))) ?_
 refine s1 (Af rfl) ?_
 refine s1 (Ad Eq sz3 rfl) ?_
 refine s1 (Ae un3 rfl (hB.cell (rfl))) ?_
 refine s1 (Cz rfl rfl (Ag (by omega) (by omega))) ?_
 refine s1 (C0 rfl rfl) ?_
 refine s1 (Ax (by conv=>lhs;whnf)) ?_
 refine Ca (t_n ?_)
 refine As rfl (fun hc21=>?_) (fun hc21=>?_)
 ·have hp:A4 D k ys=(D,21):=by unfold A4;rw[if_neg hc12,if_neg hk,if_pos (by rw[hlen];omega)]
  refine Ab (Aa ?_)
  refine pA (Ac (t_n (Ak (b_r (t_r ?_)))))
  refine eR1 ?_
  exact⟨by rw[hp],by rw[hp];exact hD.grown w,ModS.ofExt hX⟩
 have hp:A4 D k ys=stepD D (insA D.l k (some ((getF D k).1++ys,(getF D k).2))) true true:=by unfold A4;rw[if_neg hc12,if_neg hk,if_neg (by rw[hlen];omega)]
 refine Ai (b_n (t_n (Ab (Aa ?_))))
 refine p1 (Ae un34 rfl (hB3.cell (rfl))) ?_
 refine p1 (Bi (fs:=[]) (cs:=[.pointer (some ⟨g3,0,none⟩),.pointer (some ⟨g4,0,none⟩),.pointer (some ⟨g5,0,none⟩)]) rfl rfl) ?_
 have hXs:=hX.size
 refine Ah Tryz.func62 fn62 fb62 (Gr g S D _ hD hok hst hle 64 _ Tryz.func64 fn64 fb64 [.pointer (some ⟨g3,0,none⟩),.pointer (some ⟨g4,0,none⟩),.pointer (some ⟨g5,0,none⟩)] (insA D.l k (some ((getF D k).1++ys,(getF D k).2))) true true (fun w1 hE1=>P1 g S D _ (hD.ext hE1) hok k hk e B p n c ys (hl.ext hE1) (by omega) g3 g4 g5 (hB3.ext hE1) (hB4.ext hE1) (hB5.ext hE1))) rfl ?_
 rintro v8 w8 ⟨rfl,hD2,hM2⟩
 refine pA (Ac (t_n (Ak ?_)))
 refine eR1 ?_
 exact⟨by rw[hp],by rw[hp];exact hD2.wide hXs,(ModS.ofExt hX).trans hM2 (fun _ _ h=>h)⟩
theorem Pz (g:Nat) (S:Nat→Prop) (D:DS) (w:World) (hD:Dsk S w g D) (hok:DOk D) (hst:D.steps<4611686018427387904) (hle:D.left≤9223372036854775807) (k:ByteArray) (hks:k.size≤9223372036854775807) (n:Int) (hn1:-9223372036854775808≤n) (hn2:n≤9223372036854775807) :
    Ret Tryz.prog 94 [.pointer (some ⟨g,0,none⟩),.string k,.int .i64 n] w (fun v w'=>v = .int .i64 (cutD D k n).2∧Dsk (grow S w w') w' g (cutD D k n).1∧ModS S ED w w'):=by
 have hX:=Ext.refl w
 refine eN 39 Tryz.func94 ?_
 refine Ab (Aa ?_)
 refine Cq (by conv=>lhs;whnf) rfl ?_
 intro w1 g3 hN3
 have hE1:=hN3.ext
 have hX:=hX.ext hE1
 have hD:=hD.ext hE1
 have hB3:=hN3.blk
 refine Cq (by conv=>lhs;whnf) rfl ?_
 intro w2 g4 hN4
 have hE2:=hN4.ext
 have hX:=hX.ext hE2
 have hD:=hD.ext hE2
 have hB3:=hB3.ext hE2
 have hB4:=hN4.blk
 refine Cq (by conv=>lhs;whnf) rfl ?_
 intro w3 g5 hN5
 have hE3:=hN5.ext
 have hX:=hX.ext hE3
 have hD:=hD.ext hE3
 have hB3:=hB3.ext hE3
 have hB4:=hB4.ext hE3
 have hB5:=hN5.blk
 refine pA (Ac (t_n (Ab (Ab (Aa ?_)))))
 refine p1 (Ae un34 rfl (hB3.cell (rfl))) ?_
 refine p1 (Ae un9 rfl (hB4.cell (rfl))) ?_
 refine Au u74 inf9 rfl (by decide) (fun base hb=>Cj (by rfl) base hb) ?_
 intro w4 g10 hN10
 have hE4:=hN10.ext
 have hX:=hX.ext hE4
 have hD:=hD.ext hE4
 have hB3:=hB3.ext hE4
 have hB4:=hB4.ext hE4
 have hB5:=hB5.ext hE4
 have hS10:Sl kStr 9 0 w4 (some ⟨g10,0,none⟩) 1 1 [k]:=(Cw (B0:=0) [k] hN10 (Nat.zero_le _) (by simp)).sl
 refine Ah Tryz.func60 fn60 fb60 (Ez g S D _ hD [k] 0 _ _ _ hS10 (by intro s hs';simp only[List.mem_singleton] at hs';subst hs';exact hks)) rfl ?_
 rintro v5 w5 ⟨rfl,hE5⟩
 have hX:=hX.ext hE5
 have hD:=hD.ext hE5
 have hB3:=hB3.ext hE5
 have hB4:=hB4.ext hE5
 have hB5:=hB5.ext hE5
 refine pA (Ac (t_n (Am (Ab (Aa ?_)))))
 refine pM ?_
 refine p1 (A2 rfl rfl) ?_
 refine pA (Ac (t_n ?_))
 refine As rfl (fun hc12=>?_) (fun hc12=>?_)
 ·try simp only[dA,dB,dC,dD,dE,dF,dG,Int.not_lt,Int.not_le] at hc12
  have hp:cutD D k n=(D,lookD D [k]):=if_pos hc12
  refine Ab (Aa ?_)
  refine pM (pA (Ac (t_n (Ak (b_r (t_r ?_))))))
  refine eR1 ?_
  exact⟨by rw[hp],by rw[hp];exact hD.grown w,ModS.ofExt hX⟩
 try simp only[dA,dB,dC,dD,dE,dF,dG,Int.not_lt,Int.not_le] at hc12
 refine Ab (Aa ?_)
 refine p1 (Ae un34 rfl (hB3.cell (rfl))) ?_
 refine p1 (Ae un9 rfl (hB4.cell (rfl))) ?_
 refine Ah Tryz.func61 fn61 fb61 (Ev g S D _ hD k) rfl ?_
 rintro v6 w6 ⟨rfl,hE6⟩
 have hX:=hX.ext hE6
 have hD:=hD.ext hE6
 have hB3:=hB3.ext hE6
 have hB4:=hB4.ext hE6
 have hB5:=hB5.ext hE6
 refine p1 (Hu rfl) ?_
 refine pA (Ac (t_n ?_))
 refine As rfl (fun hc16=>?_) (fun hc16=>?_)
 ·try simp only[dA,dB,dC,dD,dE,dF,dG,Int.not_lt,Int.not_le] at hc16
  have hk:ascF D.l k=none:=by simpa using hc16
  have hp:cutD D k n=(D,22):=by unfold cutD;rw[if_neg hc12,if_pos hk]
  refine Ab (Aa ?_)
  refine pA (Ac (t_n (Ak (b_r (t_r ?_)))))
  refine eR1 ?_
  exact⟨by rw[hp],by rw[hp];exact hD.grown w,ModS.ofExt hX⟩
 try simp only[dA,dB,dC,dD,dE,dF,dG,Int.not_lt,Int.not_le] at hc16
 have hk:¬ ascF D.l k=none:=by simpa using hc16
 refine Ab ?_
 have hWr6:=Ext.refl w6
 refine F6 (ι:=Unit) [21,22,23,24,25,26,27,28,29,30,31,32,33,34,35] (fun _=>[(21,.bool (decide (n<0∨((getF D k).1.length:Int)<n)))]) (fun _ w'=>Ext w6 w') ?_ ?_
 ·skip
  refine Du mixed (by kernel_rfl) ?_
  intro w8 hE8
  have hD:=hD.ext hE8
  have hB3:=hB3.ext hE8
  have hB4:=hB4.ext hE8
  have hB5:=hB5.ext hE8
  have hWr6:=hWr6.ext hE8
  obtain⟨r,μ,hB,hM,hSg,hSr,hF⟩:=hD.ex
  refine s1 (Ae un3 rfl (hB5.cell (rfl))) ?_
  refine s1 (Bx rfl rfl) ?_
  refine s1b (Al (by conv=>lhs;whnf)) (fun hb6_2=>?_) (fun hb6_2=>?_)
  ·try simp only[dA,dB,dC,dD,dE,dF,dG,Int.not_lt,Int.not_le] at hb6_2
   refine sg0 24 rfl (by exact .inl rfl) ?_
   refine sg0 24 rfl (by exact .inl rfl) ?_
   refine sg0 24 rfl (by exact .inl rfl) ?_
   refine sg0 24 rfl (by exact .inl rfl) ?_
   refine sg0 24 rfl (by exact .inl rfl) ?_
   refine sg0 24 rfl (by exact .inl rfl) ?_
   obtain⟨⟨p0,n0,c0,s0⟩,hr0⟩:∃ x:Raw,x=(μ k).getD raw0:=⟨_,rfl⟩
   obtain⟨hF0,hs0⟩:=hF.get k
   rw[← hr0] at hF0 hs0
   simp only at hF0 hs0
   have hlen0:=hF0.len
   refine sg0 24 rfl (by exact .inl rfl) ?_
   refine sg0 24 rfl (by exact .inl rfl) ?_
   refine sg0 24 rfl (by exact .inl rfl) ?_
   refine sg0 24 rfl (by exact .inl rfl) ?_
   refine s1 (Ap rfl (by conv=>lhs;whnf)) ?_
   refine s1 (Ax (by conv=>lhs;whnf)) ?_
   refine Ca ?_
   refine t_n (aK () ⟨congrArg Value.bool (by(unfold getF ascF;exact(decide_eq_true (by omega)).symm)),trivial⟩ hWr6)
  try simp only[dA,dB,dC,dD,dE,dF,dG,Int.not_lt,Int.not_le] at hb6_2
  refine sg1 24 rfl rfl (Ae un3 rfl (hB5.cell (rfl))) ?_
  refine sg1 24 rfl rfl (Ae un34 rfl (hB3.cell (rfl))) ?_
  refine sg1 24 rfl rfl (Af rfl) ?_
  refine sg1 24 rfl rfl (Ad Ct sz100 rfl) ?_
  refine sg1 24 rfl rfl (Ae un100 rfl (hB.cell (rfl))) ?_
  refine sg1 24 rfl rfl (Ae un9 rfl (hB4.cell (rfl))) ?_
  obtain⟨⟨p0,n0,c0,s0⟩,hr0⟩:∃ x:Raw,x=(μ k).getD raw0:=⟨_,rfl⟩
  obtain⟨hF0,hs0⟩:=hF.get k
  rw[← hr0] at hF0 hs0
  simp only at hF0 hs0
  have hlen0:=hF0.len
  refine sg1 24 rfl rfl (((lookF u100 zr113 (Ce u9) hM k rfl rfl).1).cast (by rw[← hr0];rfl:_=Value.agg #[.slice p0 n0 c0,.int .i64 (s0:Int)])) ?_
  refine sg1 24 rfl rfl (Kv Dw un23 rfl rfl) ?_
  refine sg1 24 rfl rfl (Aj u23 rfl) ?_
  refine sg1 24 rfl rfl (C0 rfl rfl) ?_
  refine s1 (Aq rfl (by conv=>lhs;whnf)) ?_
  refine s1 (Ax (by conv=>lhs;whnf)) ?_
  refine Ca ?_
  refine t_n (aK () ⟨congrArg Value.bool (by(unfold getF ascF;exact decide_eq_decide.2 (by omega))),trivial⟩ hWr6)
 rintro _ Gr6 w7 hE7
 have hX:=hX.ext hE7
 have hD:=hD.ext hE7
 have hB3:=hB3.ext hE7
 have hB4:=hB4.ext hE7
 have hB5:=hB5.ext hE7
 refine t_n ?_
 refine As rfl (fun hc21=>?_) (fun hc21=>?_)
 ·try simp only[dA,dB,dC,dD,dE,dF,dG,Int.not_lt,Int.not_le] at hc21
  have hp:cutD D k n=(D,2):=by unfold cutD;rw[if_neg hc12,if_neg hk,if_pos hc21]
  refine Ab (Aa ?_)
  refine pA (Ac (t_n (Ak (b_r (t_r ?_)))))
  refine eR1 ?_
  exact⟨by rw[hp],by rw[hp];exact hD.grown w,ModS.ofExt hX⟩
 try simp only[dA,dB,dC,dD,dE,dF,dG,Int.not_lt,Int.not_le] at hc21
 have hp:cutD D k n=stepD D (insA D.l k (some ((getF D k).1.take n.toNat,n.toNat))) true false:=by unfold cutD;rw[if_neg hc12,if_neg hk,if_neg hc21]
 have hB5:=by rw[show Value.int .i64 n=Value.int .i64 ((n.toNat:Nat):Int) from congrArg _ (by omega)] at hB5;exact hB5
 refine Ai (b_n (t_n (Ab (Aa ?_))))
 refine p1 (Ae un34 rfl (hB3.cell (rfl))) ?_
 refine p1 (Bi (fs:=[]) (cs:=[.pointer (some ⟨g3,0,none⟩),.pointer (some ⟨g4,0,none⟩),.pointer (some ⟨g5,0,none⟩)]) rfl rfl) ?_
 have hXs:=hX.size
 refine Ah Tryz.func62 fn62 fb62 (Gr g S D _ hD hok hst hle 141 _ Tryz.func141 fn141 fb141 [.pointer (some ⟨g3,0,none⟩),.pointer (some ⟨g4,0,none⟩),.pointer (some ⟨g5,0,none⟩)] (insA D.l k (some ((getF D k).1.take n.toNat,n.toNat))) true false (fun w1 hE1=>Vq g S D _ (hD.ext hE1) hok k hk n.toNat (by omega) g3 g4 g5 (hB3.ext hE1) (hB4.ext hE1) (hB5.ext hE1))) rfl ?_
 rintro v9 w9 ⟨rfl,hD2,hM2⟩
 refine pA (Ac (t_n (Ak ?_)))
 refine eR1 ?_
 exact⟨by rw[hp],by rw[hp];exact hD2.wide hXs,(ModS.ofExt hX).trans hM2 (fun _ _ h=>h)⟩
theorem R5 (g:Nat) (S:Nat→Prop) (D:DS) (w:World) (hD:Dsk S w g D) (hok:DOk D) (hst:D.steps<4611686018427387904) (hle:D.left≤9223372036854775807) (n:Int) (hn1:-9223372036854775808≤n) (hn2:n≤9223372036854775807) (dn:Bool) :
    Ret Tryz.prog 24 [.pointer (some ⟨g,0,none⟩),.int .i64 n,.bool dn] w (fun v w'=>v = .int .i64 (failD D n dn).2∧Dsk (grow S w w') w' g (failD D n dn).1∧ModS S ED w w'):=by
 have hX:=Ext.refl w
 refine eN 25 Tryz.func24 ?_
 refine Ab (Aa ?_)
 refine pA (Ac (t_n (Ab (Ab (Aa ?_)))))
 refine pM ?_
 refine Ah Tryz.func60 fn60 fb60 (Ez g S D _ hD [] 0 none 0 0 (Sl.nil _ _ _ _ _ _ (by omega)) (by intro s hs';cases hs')) rfl ?_
 rintro v1 w1 ⟨rfl,hE1⟩
 have hX:=hX.ext hE1
 have hD:=hD.ext hE1
 refine pA (Ac (t_n (Am (Ab (Aa ?_)))))
 refine pM ?_
 refine p1 (A2 rfl rfl) ?_
 refine pA (Ac (t_n ?_))
 refine As rfl (fun hc10=>?_) (fun hc10=>?_)
 ·have hd:D.down=true:=by cases e:D.down with | true=>rfl | false=>exact absurd (by unfold lookD;simp[e]:lookD D []=0) hc10
  have hl20:lookD D []=20:=by unfold lookD;simp[hd]
  have hp:failD D n dn=(D,lookD D []):=by unfold failD;rw[if_pos hd,hl20]
  refine Ab (Aa ?_)
  refine pM (pA (Ac (t_n (Ak (b_r (t_r ?_))))))
  refine eR1 ?_
  exact⟨by rw[hp],by rw[hp];exact hD.grown w,ModS.ofExt hX⟩
 have hd:¬ D.down=true:=fun e=>absurd (by unfold lookD;simp[e]:lookD D []=20) (by omega)
 refine Ab (Aa ?_)
 refine pM ?_
 refine p1 (Bx rfl rfl) ?_
 refine pA (Ac (t_n ?_))
 refine As rfl (fun hc14=>?_) (fun hc14=>?_)
 ·have hp:failD D n dn=(D,2):=by unfold failD;rw[if_neg hd,if_pos hc14]
  refine Ab (Aa ?_)
  refine pA (Ac (t_n (Ak (b_r (t_r ?_)))))
  refine eR1 ?_
  exact⟨by rw[hp],by rw[hp];exact hD.grown w,ModS.ofExt hX⟩
 have hp:failD D n dn=({ D with left:=n,done:=dn },0):=by unfold failD;rw[if_neg hd,if_neg (by omega)]
 refine Ai (b_n (t_n (Ab ?_)))
 obtain⟨r,μ,hB,hM,hSg,hSr,hF⟩:=hD.ex
 have hXe:=hX.size
 have hX:=ModS.ofExt (S:=S) (E:=ED) hX
 refine Aa ?_
 refine pM (pM (pM (pM ?_)))
 refine p1 (Af rfl) ?_
 refine p1 (Ad Gb sz3 rfl) ?_
 refine Ar rfl (by conv=>lhs;whnf) rfl rfl sz3 hB (by simp) ?_
 intro w2 hP2
 have hB:=hP2.blk
 simp only[List.setIfInBounds_toArray,List.set_cons_zero,List.set_cons_succ] at hB
 have hX:=hX.put hP2 ⟨.inl hSg,by decide⟩
 have hM:=hM.mod (hP2.mod 0 (Nat.zero_le _)) (Nat.zero_le _) (by decide)
 have hF:=hF.one hP2.one (by decide)
 refine p1 (Af rfl) ?_
 refine p1 (Ad Tj sz4 rfl) ?_
 refine Ar rfl (by conv=>lhs;whnf) rfl rfl sz4 hB (by simp) ?_
 intro w3 hP3
 have hX:=hX.put hP3 (⟨.inl hSg,by decide⟩)
 have hB:=hP3.blk
 try simp only[List.setIfInBounds_toArray,List.set_cons_zero,List.set_cons_succ] at hB
 have hM:=hM.mod (hP3.mod 0 (Nat.zero_le _)) (Nat.zero_le _) (by decide)
 have hF:=hF.one hP3.one (by decide)
 refine Ac (t_n (Ab (Aa ?_)))
 refine pA (Ac (t_n (Ak ?_)))
 refine eR1 ?_
 exact⟨by rw[hp],by rw[hp];exact Dsk.of (D:={ D with left:=n,done:=dn }) hB hM hSg hSr hF Ei,hX⟩
end Go.Proofs.Eng
end
section
namespace Go.Proofs.Eng
open Go.RowKit
open Go.Proofs Go.Shelf
open Extern.Stop (cell)
theorem Aes:∀ (a b:List UInt8),Op.bytesLess a b=decide (a<b)
  | _,[]=>by simp[Op.bytesLess,List.not_lt_nil]
  | [],_ :: _=>by simp[Op.bytesLess]
  | a :: x, b :: y => by
    unfold Op.bytesLess
    rw[Aes x y,Bool.eq_iff_iff]
    simp only[Bool.or_eq_true,Bool.and_eq_true,decide_eq_true_eq,beq_iff_eq,List.cons_lt_cons_iff]
theorem Sg (l:List UInt8):(ByteArray.mk l.toArray).toList=l:=by
  rw[ByteArray.toList_eq]
def ofL (l:List UInt8):ByteArray:=⟨l.toArray⟩
theorem Sw {e:TypeId} {B B0:Nat} {w:World} {g n c:Nat} {xs:List ByteArray} (h:Own kStr e B B0 w (some ⟨g,0,none⟩) n c xs) (hn:0<n) (m:Nat) (d':List (List UInt8)) (hd:d'.length=n) (os:Array Obj) :
    Own kStr e B B0 (Sort.grow (Sort.putRow encStr (Sort.ahead w m) g 0 d'.toArray) os) (some ⟨g,0,none⟩) n c (d'.map ofL)∧Mod B0 e w (Sort.grow (Sort.putRow encStr (Sort.ahead w m) g 0 d'.toArray) os):=by
  obtain⟨g',cur,css,e1,h2,h3,h4,h5,h6,ha,hlf,ht⟩:=h.block hn
  injection e1 with e1;injection e1 with e1;subst e1
  have hlt:=h3.lt
  have hsz:(Sort.putRow encStr (Sort.ahead w m) g 0 d'.toArray).heap.size=w.heap.size:=by rw[Sort.size_putRow];rfl
  have hcell:∀ k,k<w.heap.size→(Sort.grow (Sort.putRow encStr (Sort.ahead w m) g 0 d'.toArray) os).heap[k]? = (Sort.putRow encStr (Sort.ahead w m) g 0 d'.toArray).heap[k]? := fun k hk=>Sort.heap_grow_old _ os (by rw[hsz];exact hk)
  have hother:∀ k,k≠g→(Sort.putRow encStr (Sort.ahead w m) g 0 d'.toArray).heap[k]? = w.heap[k]? := fun k hk=>by
    simp only[Sort.putRow,Sort.mapBlock,Sort.ahead,Array.getElem?_modify]
    rw[if_neg (fun e=>hk e.symm)]
  have hgb:(Sort.putRow encStr (Sort.ahead w m) g 0 d'.toArray).heap[g]? = some (.cells (Sort.putCells encStr 0 d'.toArray cur) e (0,0)):=by
    simp only[Sort.putRow,Sort.mapBlock,Sort.ahead,Array.getElem?_modify]
    rw[if_pos trivial]
    have:w.heap[g]? = some (.cells cur e (0,0)):=h3
    rw[this];rfl
  have hb:Blk (Sort.grow (Sort.putRow encStr (Sort.ahead w m) g 0 d'.toArray) os) g (Sort.putCells encStr 0 d'.toArray cur) e:=(hcell g hlt).trans hgb
  have hm:Mod B0 e w (Sort.grow (Sort.putRow encStr (Sort.ahead w m) g 0 d'.toArray) os):=by
    refine⟨?_,fun k hk ho=>?_,fun k hk=>?_,?_,rfl,rfl,rfl⟩
    · rw[Sort.size_grow,hsz];omega
    · have hne : k ≠ g := by
        intro ek;subst ek
        rcases ho with ho | ho
        · omega
        · exact ho h3.ty
      exact(hcell k hk).trans (hother k hne)
    · by_cases ek : k = g
      · subst ek;rw[hb.ty,h3.ty]
      · exact Bq ((hcell k hk).trans (hother k ek))
    · exact Nat.le_refl _
  have hz:kStr.sz=1:=rfl
  refine⟨Own.remade h2 hb h4 h5 (by rw[hz] at h6 ⊢;simp[Sort.putCells,h6]) (by simp[hd]) (Gv B _ (d'.map ofL)) ?_,hm⟩
  rw[hz,Nat.mul_one]
  rw[hz,Nat.mul_one] at h6
  apply List.ext_getElem?
  intro j
  rw[List.getElem?_take]
  have hfl:((d'.map ofL).map fun s=>[Value.string s]).flatten=d'.map encStr:=by
    rw[List.map_map]
    clear hd hsz hcell hother hgb hb hm
    induction d' with
    | nil=>rfl
    | cons x l ih=>simp only[List.map_cons,List.flatten_cons,ih];rfl
  rw[hfl]
  by_cases hj:j<n
  · rw [if_pos hj, Array.getElem?_toList]
    have hjc:j<cur.size:=by omega
    simp only[Sort.putCells,Array.getElem?_mapIdx,Array.getElem?_eq_getElem hjc,Option.map_some]
    rw[if_pos ⟨Nat.zero_le _,by simp;omega⟩,Nat.sub_zero,List.getElem?_map,List.getElem?_eq_getElem (show j<d'.length by omega)]
    rw[getElem!_pos d'.toArray j (by simp;omega)]
    simp
  · rw[if_neg hj,List.getElem?_eq_none (by simp;omega)]
theorem Qi {e:TypeId} {B B0:Nat} {w:World} {g n c:Nat} {xs:List ByteArray} (h:Own kStr e B B0 w (some ⟨g,0,none⟩) n c xs) (hn:0<n):Sort.Holds encStr w g 0 (xs.map (·.toList)).toArray:=by
  obtain⟨g',cur,css,e1,h2,h3,h4,h5,h6,ha,hlf,ht⟩:=h.block hn
  injection e1 with e1;injection e1 with e1;subst e1
  have hlen:=h.len
  intro j hj
  have hj':j<xs.length:=by simpa using hj
  refine⟨?_,frozen_of_row w g _ cur e h3⟩
  have:=h.sl.strAt j (by omega)
  refine (show w.cell? ⟨g,0+j,none⟩=_ from this).trans ?_
  rw[getElem!_pos _ j hj]
  have e2:(xs.map (·.toList)).toArray[j]=(xs[j]).toList:=by simp
  rw[e2,List.getD_eq_getElem?_getD,List.getElem?_eq_getElem hj',Option.getD_some]
  have:encStr (xs[j]).toList=Value.string (ofL (xs[j]).toList):=rfl
  rw[this]
  exact congrArg (fun s=>some (Value.string s)) (Hf (Sg _).symm)
theorem Wt (s:ByteArray):ofL s.toList=s:=Hf (Sg _)
theorem Nd (xs:List ByteArray) (B0:Nat) (p:Option Addr) (n c:Nat) (w:World) (hO:Own kStr 9 0 B0 w p n c xs) (hs:n≤4194304000) (hnd:xs.Nodup) :
    Ret Tryz.prog 84 [.slice p n c] w (fun v w'=>∃ ys,Own kStr 9 0 B0 w' p n c ys∧ys.Perm xs∧ys.Pairwise (fun a b=>lssB a b=true)∧Mod B0 9 w w'):=by
  rcases Nat.eq_zero_or_pos n with h0 | h0
  · subst h0
    have hx0:xs=[]:=List.eq_nil_of_length_eq_zero hO.len
    subst hx0
    refine⟨Calls.mono (Tryz.slices_Sort_string_none p c w) ?_⟩
    rintro e w' ⟨rfl,rfl⟩
    exact⟨_,rfl,[],hO,.refl _,.nil,.refl _ _ _⟩
  · obtain ⟨g, cur, css, e1, h2, h3, _⟩ := hO.block h0
    subst e1
    have hlen:=hO.len
    have hc:=Tryz.slices_Sort_string g 0 c (xs.map (·.toList)) w (Qi hO h0) h3.lt (by simp;omega)
    have hsz:(xs.map (·.toList)).length=n:=by simpa using hlen
    rw[hsz] at hc
    refine⟨Calls.mono hc ?_⟩
    rintro e w' ⟨rfl,m,os,rfl⟩
    have hpp:=List.mergeSort_perm (xs.map (·.toList)) (fun x y=>decide (x≤y))
    have hd:=hpp.length_eq.trans hsz
    obtain⟨ho',hm'⟩:=Sw hO h0 m _ hd os
    have hperm:(((xs.map (·.toList)).mergeSort fun x y=>decide (x≤y)).map ofL).Perm xs:=by
      have:=hpp.map ofL
      rw[List.map_map] at this
      have e3:xs.map (ofL∘fun x=>x.toList)=xs:=by
        conv=>rhs;rw[← List.map_id xs]
        exact List.map_congr_left fun s _=>Wt s
      rwa [e3] at this
    refine⟨_,rfl,_,ho',hperm,?_,hm'⟩
    have hso:((xs.map (·.toList)).mergeSort fun x y=>decide (x≤y)).Pairwise (fun x y=>x≤y):=by
      have:=List.pairwise_mergeSort (le:=fun x y:List UInt8=>decide (x≤y)) (fun a b c h1 h2=>by simp only[decide_eq_true_eq] at *;exact List.le_trans h1 h2) (fun a b=>by simp only[Bool.or_eq_true,decide_eq_true_eq];exact List.le_total a b) (xs.map (·.toList))
      exact this.imp fun h=>by simpa using h
    have hnd2:(((xs.map (·.toList)).mergeSort fun x y=>decide (x≤y)).map ofL).Nodup:=hperm.nodup_iff.2 hnd
    rw[List.pairwise_map]
    have hnd3:=List.pairwise_map.1 hnd2
    refine (hso.and hnd3).imp fun {x y} ⟨h1,h2⟩=>?_
    show Op.bytesLess (ofL x).toList (ofL y).toList=true
    unfold ofL
    rw[Sg,Sg]
    rcases P7 x y with h | h | h
    · exact absurd (congrArg ofL h) h2
    · exact h
    · rw [Aes] at h
      exact absurd (of_decide_eq_true h) (List.not_lt.2 h1)
end Go.Proofs.Eng
end
section
set_option maxRecDepth 100000
set_option maxHeartbeats 4000000
namespace Go.Proofs.Eng
open Go.RowKit
open Extern.Stop (cell)
theorem Bz (xs:List UInt8) (e B:Nat) (p:Option Addr) (n c:Nat) (w:World) (hl:Sl kByte e B w p n c xs) (hs:n≤4194304000) :
    Ret Tryz.prog 58 [.slice p n c] w (fun v w'=>(∃ q c',v = .slice q n c'∧Own kByte 5 0 w.heap.size w' q n c' xs)∧Ext w w'):=by
 have hX:=Ext.refl w
 refine eN 8 Tryz.func58 ?_
 refine Ab (Aa ?_)
 refine pA (Ac (t_n (Ab (Ab (Aa ?_)))))
 refine pM ?_
 refine p1 (D9 u23 rfl rfl) ?_
 refine Ac (t_n ?_)
 refine As rfl (fun hc4=>?_) (fun hc4=>?_)
 ·have hn:n=0:=by
    rcases Nat.eq_zero_or_pos n with h | h
    · exact h
    · have:=hl.adr Bw h;rw[hc4] at this;cases this
  have hx0:xs=[]:=List.eq_nil_of_length_eq_zero (by rw[hl.len,hn])
  have hp:Own kByte 5 0 w.heap.size w none 0 0 xs:=by rw[hx0];exact Own.nil _ _ _ _ _
  refine Ab (Aa ?_)
  refine pA (Ac (t_n (Ak (t_r ?_))))
  refine eR1 ?_
  (subst hn;exact⟨⟨none,0,rfl,hp⟩,hX⟩)
 refine Ai (t_n (Ab (Aa ?_)))
 refine Au u23 inf5 rfl (by decide) (fun base hb=>by have h0:base=#[]:=Array.eq_empty_of_size_eq_zero (by simpa using hb);subst h0;rfl) ?_
 intro w1 g5 hN5
 have hE1:=hN5.ext
 have hX:=hX.ext hE1
 have hO:Own kByte 5 0 w.heap.size w1 (some ⟨g5,0,none⟩) 0 0 []:=Own.made kByte 5 0 _ hN5 [] [] 0 0 rfl trivial (by have:=hX.size;have:=hN5.g_eq;have:=hN5.ext.size;omega) (by omega) (by omega) (by rfl) (by simp)
 refine pM ?_
 have hB0:=hX.size
 have hl2:=hl.ext hX
 refine Bv (d:=kByte) (xs) u23 inf5 rfl Bw rfl rfl hO (C6 u23 hl2 (by decide)) hl.len (C8 _ _ _) (rfl) (by omega) (by omega) (by omega) (by omega) (by decide) ?_
 intro p7 c7 w2 hO hM2
 have hX:=hX.mod hM2 (Nat.le_refl _)
 refine pA (Ac (t_n (Ak ?_)))
 refine eR1 ?_
 exact⟨⟨_,_,by rw[Nat.zero_add],by rw[List.nil_append,Nat.zero_add] at hO;exact hO⟩,hX⟩
theorem R6 (g:Nat) (S:Nat→Prop) (D:DS) (w:World) (hD:Dsk S w g D) :
    Ret Tryz.prog 43 [.pointer (some ⟨g,0,none⟩)] w (fun v w'=>v = .bool D.down∧Ext w w'):=by
 obtain⟨r,μ,hB,hM,hSg,hSr,hF⟩:=hD.ex
 have hX:=Ext.refl w
 refine eN 11 Tryz.func43 ?_
 refine Ab (Aa ?_)
 refine pA (Ac (t_n (Ab (Aa ?_))))
 refine pM ?_
 refine p1 ((Kt u34 rfl rfl).cast (congrArg _ (decide_eq_true (by simp)))) ?_
 refine pM (gM 5 ?_)
 refine Eng.g1 5 rfl rfl (Af rfl) ?_
 refine Eng.g1 5 rfl rfl (Ad H7 sz4 rfl) ?_
 refine Eng.g1 5 rfl rfl (Ae un4 rfl (hB.cell (rfl))) ?_
 refine p1 (Ap rfl (by conv=>lhs;whnf)) ?_
 refine pA (Ac (t_n (Ak ?_)))
 refine eR1 ?_
 exact⟨rfl,hX⟩
theorem Vp (most:Int) (w:World) :
    Ret Tryz.prog 13 [.int .i64 most] w (fun v w'=>(∃ g,v = .pointer (some ⟨g,0,none⟩)∧Dsk (grow (fun _=>False) w w') w' g (newD most))∧Ext w w'):=by
 have hX:=Ext.refl w
 refine eN 9 Tryz.func13 ?_
 refine Ab (Aa ?_)
 refine pA (Ac (t_n (Ab (Aa ?_))))
 refine pM ?_
 refine p1 ((Ty rfl rfl).cast (congrArg (Value.int .i64) (by split <;> omega:_=min most 16777216))) ?_
 refine p1 ((Ael rfl rfl).cast (congrArg (Value.int .i64) (by split <;> omega:_=max 0 (min most 16777216)))) ?_
 have hXs:=hX.size
 refine H2 (κ:=ByteArray) (ν:=Raw) ?_
 intro w1 g6 hE1 hK6
 have hX:=hX.ext hE1
 have hM:=hK6 kkStr vFile 0 w.heap.size (hXs)
 refine p1 (Aad pl102 rfl rfl rfl) ?_
 have hXs5:=hX.size
 refine Em (by conv=>lhs;whnf) ?_
 intro w2 g8 hN8
 have hE2:=hN8.ext
 have hX:=hX.ext hE2
 have hM:=hM.ext hE2
 have hB8:=hN8.blk
 refine pA (Ac (t_n (Ak ?_)))
 refine eR1 ?_
 exact⟨⟨g8,rfl,Adu hB8 hM (by rw[hN8.g_eq];exact hXs5) hX⟩,hX⟩
theorem J9 (g:Nat) (S:Nat→Prop) (D:DS) (w:World) (hD:Dsk S w g D) (hok:DOk D) (k:ByteArray) (hks:k.size≤9223372036854775807) :
    Ret Tryz.prog 37 [.pointer (some ⟨g,0,none⟩),.string k] w (fun v w'=>(∃ q n' c',v = .tuple #[.slice q n' c',.int .i64 (readD D k).2]∧Own kByte 5 0 w.heap.size w' q n' c' (readD D k).1)∧Ext w w'):=by
 have hX:=Ext.refl w
 refine eN 28 Tryz.func37 ?_
 refine Ab (Aa ?_)
 refine pA (pA (Ac (t_n (Ab (Ab (Aa ?_))))))
 refine pM (pM ?_)
 refine Au u74 inf9 rfl (by decide) (fun base hb=>Cj (by rfl) base hb) ?_
 intro w1 g9 hN9
 have hE1:=hN9.ext
 have hX:=hX.ext hE1
 have hD:=hD.ext hE1
 have hS9:Sl kStr 9 0 w1 (some ⟨g9,0,none⟩) 1 1 [k]:=(Cw (B0:=0) [k] hN9 (Nat.zero_le _) (by simp)).sl
 refine Ah Tryz.func60 fn60 fb60 (Ez g S D _ hD [k] 0 _ _ _ hS9 (by intro s hs';simp only[List.mem_singleton] at hs';subst hs';exact hks)) rfl ?_
 rintro v2 w2 ⟨rfl,hE2⟩
 have hX:=hX.ext hE2
 have hD:=hD.ext hE2
 refine pA (Ac (t_n (Am (Ab (Aa ?_)))))
 refine pM ?_
 refine p1 (A2 rfl rfl) ?_
 refine pA (Ac (t_n ?_))
 refine As rfl (fun hc11=>?_) (fun hc11=>?_)
 ·have hp:readD D k=([],lookD D [k]):=if_pos hc11
  refine Ab (Aa ?_)
  refine pM (pA (pA (Ac (t_n (Ak (b_r (t_r ?_)))))))
  refine eR2 ?_
  exact⟨⟨none,0,0,by rw[hp],by rw[hp];exact Own.nil _ _ _ _ _⟩,hX⟩
 refine Ab (Aa ?_)
 refine pM (pM ?_)
 refine Ah Tryz.func61 fn61 fb61 (Ev g S D _ hD k) rfl ?_
 rintro v3 w3 ⟨rfl,hE3⟩
 have hX:=hX.ext hE3
 have hD:=hD.ext hE3
 refine p1 (Hu rfl) ?_
 refine pA (Ac (t_n ?_))
 refine As rfl (fun hc15=>?_) (fun hc15=>?_)
 ·have hk:ascF D.l k=none:=by simpa using hc15
  have hp:readD D k=([],22):=by unfold readD;rw[if_neg hc11,if_pos hk]
  refine Ab (Aa ?_)
  refine pA (pA (Ac (t_n (Ak (b_r (t_r ?_))))))
  refine eR2 ?_
  exact⟨⟨none,0,0,by rw[hp],by rw[hp];exact Own.nil _ _ _ _ _⟩,hX⟩
 have hk:¬ ascF D.l k=none:=by simpa using hc15
 have hp:readD D k=((getF D k).1,0):=by unfold readD;rw[if_neg hc11,if_neg hk]
 refine Ai (b_n (t_n (Ab ?_)))
 obtain⟨r,μ,hB,hM,hSg,hSr,hF⟩:=hD.ex
 have hXs:=hX.size
 refine Aa ?_
 refine pM ?_
 refine p1 (Af rfl) ?_
 refine p1 (Ad Ct sz100 rfl) ?_
 refine p1 (Ae un100 rfl (hB.cell (rfl))) ?_
 refine pM ?_
 obtain⟨⟨p0,n0,c0,s0⟩,hr0⟩:∃ x:Raw,x=(μ k).getD raw0:=⟨_,rfl⟩
 obtain⟨hF0,hs0⟩:=hF.get k
 rw[← hr0] at hF0 hs0
 simp only at hF0 hs0
 have hgl:=(Ga hok k).1
 have hroom:=hok.room
 have hmost:=hok.most
 have hlen0:=hF0.len
 unfold getF ascF at hgl
 refine p1 (((lookF u100 zr113 (Ce u9) hM k rfl rfl).1).cast (by rw[← hr0];rfl:_=Value.agg #[.slice p0 n0 c0,.int .i64 (s0:Int)])) ?_
 refine p1 (Kv Dw un23 rfl rfl) ?_
 refine Ah Tryz.func58 fn58 fb58 (Bz _ _ _ _ _ _ _ hF0.sl (by omega)) rfl ?_
 rintro v4 w4 ⟨⟨q7,c7,rfl,hO⟩,hE4⟩
 have hX:=hX.ext hE4
 have hO:=hO.lower hXs
 refine pA (pA (Ac (t_n (Ak ?_))))
 refine eR2 ?_
 exact⟨⟨_,_,_,by rw[hp],by rw[hp];exact hO⟩,hX⟩
theorem Py (g r:Nat) (S:Nat→Prop) (v0 v1 v3 v4 v5 v6:Value) (l:List Fl) (μ:ByteArray→Option Raw) (w:World) (hB:Blk w g #[v0,v1,.map (some r),v3,v4,v5,v6] tDisk) (hM:Mp kkStr vFile 0 0 w r μ) (hF:Fls S w μ l) (hri:RiseNA l) (hfew:l.length≤64) :
    Ret Tryz.prog 35 [.pointer (some ⟨g,0,none⟩)] w (fun v w'=>(∃ q c,v = .slice q l.length c∧Own kStr 9 0 w.heap.size w' q l.length c (l.map (·.1)))∧Ext w w'):=by
 have hX:=Ext.refl w
 refine eN 29 Tryz.func35 ?_
 refine Ab (Aa ?_)
 refine pA (Ac (t_n (Ab (Ab (Aa ?_)))))
 refine pM ?_
 refine p1 ((Bb u34 rfl rfl).cast (congrArg _ (decide_eq_false (by simp)))) ?_
 refine Ac (t_n ?_)
 refine c_f rfl ?_
 refine Ai (t_n (Ab ?_))
 have hXs:=hX.size
 refine Aa ?_
 refine pM ?_
 refine p1 (Af rfl) ?_
 refine p1 (Ad Ct sz100 rfl) ?_
 refine p1 (Ae un100 rfl (hB.cell (rfl))) ?_
 refine p1 (N8 u100 hM hF hri rfl) ?_
 refine Abc u74 inf9 rfl rfl (by omega) (by omega) (by omega) (by omega) ?_
 intro w1 g12 hN12
 have hE1:=hN12.ext
 have hX:=hX.ext hE1
 have hB:=hB.ext hE1
 have hM:=hM.ext hE1
 have hO:Own kStr 9 0 w.heap.size w1 (some ⟨g12,0,none⟩) 0 l.length []:=Own.made kStr 9 0 _ hN12 [] [] 0 _ rfl trivial hXs (by omega) (by omega) (Zl _ _) (by simp)
 refine pA (Ac (t_n (Ab (Ab (Aa ?_)))))
 refine pM ?_
 refine p1 (Af rfl) ?_
 refine p1 (Ad Ct sz100 rfl) ?_
 refine p1 (Ae un100 rfl (hB.cell (rfl))) ?_
 have hXs:=hX.size
 refine Ju u100 rfl hM ?_
 intro w2 it17 hE2 hit17 hK17
 have hX:=hX.ext hE2
 have hO:=hO.ext hE2
 have hR:=hK17 w.heap.size (hXs)
 refine Ac (t_n (Am ?_))
 have hks:∀ vs:List ByteArray,vs.Nodup→(∀ z∈vs,μ z≠none)→vs.length≤l.length:=fun vs h1 h2=>by have:=Ra h1 (ks:=l.map (·.1)) (fun z hz=>D5.1 (fun e=>h2 z hz ((hF.iff z).2 e)));rwa [List.length_map] at this
 refine Bg (ι:=List ByteArray×Option Addr×Nat×Nat) [3,4,18,19,20,21,22,23,24,25] (fun (vs,q3,m3,c3)=>[(3,.slice q3 m3 c3)]) (fun (vs,q3,m3,c3) w'=>Ext w w'∧(Rg kkStr vFile 0 w.heap.size w' r it17 μ vs∧Own kStr 9 0 w.heap.size w' q3 m3 c3 vs)) (fun (vs,q3,m3,c3)=>l.length - vs.length) (([],some ⟨g12,0,none⟩,0,l.length)) ⟨rfl,trivial⟩ ⟨hX,⟨hR,hO⟩⟩ ?_
 rintro⟨vs,q3,m3,c3⟩ GL0 w3 ⟨hE3,hR,hO⟩
 have hX:=hE3
 have hml:=hO.len
 have hvl:=hks vs hR.nd hR.sub
 refine Ab (Aa ?_)
 refine O7 rfl hR (Nat.zero_le _) (by decide) (fun hdone18=>?_) (fun w4 a18 b18 v18 hna18 hmu18 hR hM4=>?_)
 ·skip
  refine p1 (Ao rfl rfl) ?_
  refine Ac (t_n (Ab ?_))
  refine c_f rfl ?_
  have hall:∀ z,z∈vs↔z∈l.map (·.1):=fun z=>⟨fun hz=>D5.1 fun e=>hR.sub z hz ((hF.iff z).2 e),fun hz=>hdone18 z fun e=>D5.2 hz ((hF.iff z).1 e)⟩
  refine Ba (t_e (t_e (Bu (t_n (Ab ?_)))))
  have hnd:=hR.nd
  refine Aa ?_
  refine pM ?_
  refine Ah Tryz.func84 fn84 fb84 (Nd vs w.heap.size _ _ _ _ hO (by omega) hR.nd) rfl ?_
  rintro v5 w5 ⟨ys,hO,hpm,hso,hM5⟩
  have hX:=hX.mod hM5 (Nat.le_refl _)
  refine Ac (t_n (Ab (Aa ?_)))
  refine pM (pA (Ac (t_n (Ak ?_))))
  refine eR1 ?_
  have hyy:ys=l.map (·.1):=Zj hso (List.pairwise_map.2 hri) fun z=>(hpm.mem_iff).trans (hall z)
  have hml:=hO.len
  rw[hyy,List.length_map] at hml
  subst hml
  exact⟨⟨_,_,rfl,by rw[← hyy];exact hO⟩,hX⟩
 skip
 have hX:=hX.mod hM4 (Nat.le_refl _)
 have hO:=hO.mod hM4 (Nat.zero_le _) (by decide)
 have hvl2:=hks _ hR.nd hR.sub
 simp only[List.length_append,List.length_cons,List.length_nil] at hvl2
 refine p1 (Ao rfl rfl) ?_
 refine Ac (t_n (Ab ?_))
 refine c_t rfl ?_
 refine Ai (t_n (Am (Ab ?_)))
 obtain⟨b20,v20,hb20,hv20,hen20⟩:=hR.entry
 refine Aa ?_
 refine p1 (hen20 rfl) ?_
 refine p1 (Ao rfl rfl) ?_
 refine pA (Ac (t_n (Aa ?_)))
 refine pM (pM ?_)
 refine Au u74 inf9 rfl (by decide) (fun base hb=>Cj (by rfl) base hb) ?_
 intro w6 g24 hN24
 have hE6:=hN24.ext
 have hX:=hX.ext hE6
 have hO:=hO.ext hE6
 have hR:=hR.ext hE6
 have hJ:Own kStr 9 0 0 w6 (some ⟨g24,0,none⟩) 1 1 [a18]:=Cw [a18] hN24 (Nat.zero_le _) (by simp)
 have hB1:=hX.size
 refine Bv (d:=kStr) ([a18]) u74 inf9 rfl Iq rfl rfl hO (C6 u74 hJ.sl (by decide)) rfl (Gv _ _ _) (rfl) (by omega) (by omega) (by omega) (by omega) (by decide) ?_
 intro p25 c25 w7 hO hM7
 have hX:=hX.mod hM7 (Nat.le_refl _)
 have hR:=hR.mod hM7 (Nat.zero_le _) (by decide)
 refine pA (Ac (b_n ?_))
 refine t_n (aK ((vs++[a18],p25,m3+1,c25)) ⟨rfl,trivial⟩ ?_)
 exact⟨⟨hX,⟨hR,hO⟩⟩,by show l.length - (vs++[a18]).length<l.length - vs.length;simp only[List.length_append,List.length_cons,List.length_nil];omega⟩
theorem R4 (g:Nat) (S:Nat→Prop) (D:DS) (w:World) (hD:Dsk S w g D) (hok:DOk D) :
    Ret Tryz.prog 35 [.pointer (some ⟨g,0,none⟩)] w (fun v w'=>(∃ q c,v = .slice q D.l.length c∧Own kStr 9 0 w.heap.size w' q D.l.length c (D.l.map (·.1)))∧Ext w w'):=by
  obtain⟨r,μ,hB,hM,hSg,hSr,hF⟩:=hD.ex
  exact Py g r S _ _ _ _ _ _ D.l μ w hB hM hF hok.rise hok.few
end Go.Proofs.Eng
end
section
set_option maxRecDepth 100000
set_option maxHeartbeats 4000000
namespace Go.Proofs.Eng
open Go.RowKit
open Extern.Stop (cell)
theorem Ey (b:Bool) (e:Int) (w:World) :
    RetP Tryz.prog 181 [.bool b,.int .i64 e] w (fun v w'=>b=true∧Ext w w') (fun ch w'=>b=false∧ch=[{ v := .iface 232 (.agg #[.int .i64 e]),recovered:=false }]∧Ext w w'):=by
 have hX:=Ext.refl w
 refine Afk 9 _ Tryz.func181 rfl rfl (Nat.le_of_ble_eq_true rfl) rfl ?_
 refine Ab (Aa ?_)
 refine pM ?_
 refine p1 (Fc rfl) ?_
 refine Ac (t_n ?_)
 refine Ia rfl (fun hc5=>?_) (fun hc5=>?_)
 ·have hb:b=false:=by simpa using hc5
  refine Aa ?_
  refine pM ?_
  refine p1 (Aaf pl232 rfl rfl) ?_
  refine p1 (Yw ua232 rfl) ?_
  refine Adn rfl ?_
  skip
  exact Afm ⟨hb,rfl,hX⟩
 have hb:b=true:=by simpa using hc5
 refine Ai ?_
 exact Afn rfl ⟨hb,hX⟩
structure Rcv (w:World) (a0 a1 a2:Nat) (e:Int) (w':World):Prop where
  b0:Blk w' a0 #[.int .u8 0,.slice none 0 0] 187
  b1:Blk w' a1 #[.int .i64 0] 3
  b2:Blk w' a2 #[.int .i64 e] 31
  fx:Fx w a0 a1 a2 w'
theorem u20i:Tryz.prog.underlying 20=some (.interface (Tryz.prog.methodsAt 20)):=by kernel_rfl
theorem Gi (a0 a1 a2:Nat) (x0 y0 x1 x2:Value) (e:Int) (w:World) (hC0:Blk w a0 #[x0,y0] 187) (hC1:Blk w a1 #[x1] 3) (hC2:Blk w a2 #[x2] 31) (h01:a0<a1) (h12:a1<a2) :
    CallsD Tryz.prog 180 #[.pointer (some ⟨a0,0,none⟩),.pointer (some ⟨a1,0,none⟩),.pointer (some ⟨a2,0,none⟩)] (.panicking [{ v := .iface 232 (.agg #[.int .i64 e]),recovered:=false }]) w (fun e' u' w'=>(∃ v,e' = .returned v)∧u' = .panicking [{ v := .iface 232 (.agg #[.int .i64 e]),recovered:=true }]∧Rcv w a0 a1 a2 e w'):=by
 refine Ach 20 [.pointer (some ⟨a0,0,none⟩),.pointer (some ⟨a1,0,none⟩),.pointer (some ⟨a2,0,none⟩)] Tryz.func180 rfl rfl (Nat.le_of_ble_eq_true rfl) rfl (fun c₀ fs hu=>?_)
 have hX:=Fx.refl w a0 a1 a2
 refine Acj ?_
 refine Uk ?_
 refine (show LstS _ _ _ [0,1] _ _ _ from ?_)
 refine Afc rfl (Sv hu) ?_
 refine Af7 rfl (Ax rfl) ?_
 refine Abl ?_
 refine Af0 ?_
 refine Aeq ?_
 refine Ab ?_
 refine Aa ?_
 refine pM ?_
 refine p1 (Mr u20i rfl rfl) ?_
 refine Ac ?_
 refine t_n ?_
 refine c_t (rfl) ?_
 refine Ab ?_
 refine Aa ?_
 refine pM ?_
 refine p1 (Aag ua232 rfl) ?_
 refine pM ?_
 refine p1 (Ao rfl rfl) ?_
 refine p1 (Ao rfl rfl) ?_
 have hlt:=hC2.lt
 refine A6 zr232 ?_
 intro w1 g4 hN4
 have hE1:=hN4.ext
 have hX:=hX.ext hE1
 have hC0:=hC0.ext hE1
 have hC1:=hC1.ext hE1
 have hC2:=hC2.ext hE1
 have hB4:=hN4.blk
 have hge4:=hN4.g_eq
 have hXs4:=hN4.ext.size
 refine Az rfl (by conv=>lhs;whnf) (by simp[Value.oneCell']) (by exact sz232) hB4 (by rfl) ?_
 intro w2 hP2
 have hX:=hX.put hP2 (.inr (.inr (.inr (by omega))))
 have hC0:=hP2.keep hC0 (by omega)
 have hC1:=hP2.keep hC1 (by omega)
 have hC2:=hP2.keep hC2 (by omega)
 have hB4:=hP2.blk
 refine pA (Ac ?_)
 refine t_n ?_
 refine Ab ?_
 refine Ab ?_
 refine Aa ?_
 refine pM ?_
 refine p1 (Fc rfl) ?_
 refine Ac ?_
 refine t_n ?_
 refine c_f (rfl) ?_
 refine Ai ?_
 refine t_n ?_
 have hge4:=hge4
 refine B7 (fun _ w2=>Blk w2 g4 #[.int .i64 e] 232) mixed ?_
 intro w3 hE3
 have hX:=hX.ext hE3
 have hC0:=hC0.ext hE3
 have hC1:=hC1.ext hE3
 have hC2:=hC2.ext hE3
 have hB4:=hB4.ext hE3
 have hSr5:(fun _ w2=>Blk w2 g4 #[.int .i64 e] 232) w3 w3:=hB4
 refine hT 0 rfl hSr5 (fun wS hSS=>by(exact(Hg pl187 rfl))) ?_
 refine hT 1 rfl hSr5 (fun wS hSS=>by(exact(Ad Ad9 sz31 rfl))) ?_
 refine hT 2 rfl hSr5 (fun wS hSS=>by(have hB4:=hSS;exact(Ae un31 rfl (hB4.cell rfl)))) ?_
 refine h1L 3 (fun Q3 hQ3=>?_)
 refine Az rfl (by conv=>lhs;whnf) (by simp[Value.oneCell']) (by exact sz187) hC0 (by rfl) ?_
 intro w4 hP4
 have hX:=hX.put hP4 (.inl rfl)
 have hC0:=hP4.blk
 have hC1:=hP4.keep hC1 (by omega)
 have hC2:=hP4.keep hC2 (by omega)
 have hB4:=hP4.keep hB4 (by omega)
 have hSr5:=hP4.keep hSr5 (by omega)
 refine An hQ3 ⟨hSr5,?_⟩
 refine h1L 4 (fun Q4 hQ4=>?_)
 refine Ar rfl (by conv=>lhs;whnf) rfl rfl sz3 hC1 (by simp) ?_
 intro w5 hP5
 have hX:=hX.put hP5 (.inr (.inl rfl))
 have hC0:=hP5.keep hC0 (by omega)
 have hC1:=hP5.blk
 try simp only[List.setIfInBounds_toArray,List.set_cons_zero,List.set_cons_succ] at hC1
 have hC2:=hP5.keep hC2 (by omega)
 have hB4:=hP5.keep hB4 (by omega)
 have hSr5:=hP5.keep hSr5 (by omega)
 refine An hQ4 ⟨hSr5,?_⟩
 refine h1L 5 (fun Q5 hQ5=>?_)
 refine Ar rfl (by conv=>lhs;whnf) rfl rfl sz31 hC2 (by simp) ?_
 intro w6 hP6
 have hX:=hX.put hP6 (.inr (.inr (.inl rfl)))
 have hC0:=hP6.keep hC0 (by omega)
 have hC1:=hP6.keep hC1 (by omega)
 have hC2:=hP6.blk
 try simp only[List.setIfInBounds_toArray,List.set_cons_zero,List.set_cons_succ] at hC2
 have hB4:=hP6.keep hB4 (by omega)
 have hSr5:=hP6.keep hSr5 (by omega)
 refine An hQ5 ⟨hSr5,?_⟩
 refine Bm (by kernel_rfl) ?_
 exact⟨rfl,_,rfl,.tuple #[],results_none rfl _ _ _,⟨_,rfl⟩,rfl,⟨hC0,hC1,hC2,hX⟩⟩
theorem Ws (a0 a1 a2:Nat) (w:World) :
    CallsD Tryz.prog 180 #[.pointer (some ⟨a0,0,none⟩),.pointer (some ⟨a1,0,none⟩),.pointer (some ⟨a2,0,none⟩)] .returning w (fun e' u' w'=>(∃ v,e' = .returned v)∧u' = .returning∧w'=w):=by
  refine Ach 20 [.pointer (some ⟨a0,0,none⟩),.pointer (some ⟨a1,0,none⟩),.pointer (some ⟨a2,0,none⟩)] Tryz.func180 rfl rfl (Nat.le_of_ble_eq_true rfl) rfl (fun c₀ fs hu=>?_)
  refine Acj ?_
  refine Uk ?_
  refine (show LstS _ _ _ [0,1] _ _ _ from ?_)
  refine Adw rfl (Su hu) ?_
  refine Af7 rfl (Ax rfl) ?_
  refine Abl ?_
  refine Af0 ?_
  refine Aeq ?_
  refine Ab ?_
  refine Aa ?_
  refine pM ?_
  refine p1 (Ku u20i rfl rfl) ?_
  refine Ac ?_
  refine t_n ?_
  refine c_f rfl ?_
  refine Ai ?_
  exact⟨rfl,.returning,by cases c₀;simp_all,.tuple #[],results_none rfl _ _ _,⟨_,rfl⟩,rfl,rfl⟩
end Go.Proofs.Eng
end
section
set_option maxRecDepth 100000
set_option maxHeartbeats 4000000
namespace Go.Proofs.Eng
open Go.RowKit
open Extern.Stop (cell)
theorem D4 {xs:List UInt8} {w w1 w':World} {g2 g3 g4:Nat} {e:Int} (hp:openF xs=noF e) (hX:Ext w w1) (hR:Rcv w1 g2 g3 g4 e w') (h2:w.heap.size≤g2) (h3:w.heap.size≤g3) (h4:w.heap.size≤g4) :
    (∃ q m c',Value.tuple #[.agg #[.int .u8 0,.slice none 0 0],.int .i64 0,.int .i64 e] = .tuple #[.agg #[.int .u8 ((openF xs).1.1.toNat:Int),.slice q m c'],.int .i64 ((openF xs).2.1:Int),.int .i64 (openF xs).2.2]∧Own kByte 5 0 w.heap.size w' q m c' (openF xs).1.2)∧Ext w w':=by
  rw[hp]
  exact⟨⟨none,0,0,rfl,Own.nil _ _ _ _ _⟩,hR.fx w hX h2 h3 h4⟩
theorem Pr (xs:List UInt8) (B:Nat) (p:Option Addr) (n c:Nat) (w:World) (hl:Sl kByte 5 B w p n c xs) (hq:Qt w) :
    Ret Tryz.prog 133 [.slice p n c] w (fun v w'=>(∃ q m c',v = .tuple #[.agg #[.int .u8 ((openF xs).1.1.toNat:Int),.slice q m c'],.int .i64 ((openF xs).2.1:Int),.int .i64 (openF xs).2.2]∧Own kByte 5 0 w.heap.size w' q m c' (openF xs).1.2)∧Ext w w'):=by
 have hX:=Ext.refl w
 refine Afl 71 _ Tryz.func133 rfl rfl (Nat.le_of_ble_eq_true rfl) rfl ?_
 refine Ab (Aa ?_)
 refine A6 zr187 ?_
 intro w1 g2 hN2
 have hE1:=hN2.ext
 have hX:=hX.ext hE1
 have hB2:=hN2.blk
 have hl2:=hB2.lt
 refine A6 zr3 ?_
 intro w2 g3 hN3
 have hE2:=hN3.ext
 have hX:=hX.ext hE2
 have hB2:=hB2.ext hE2
 have hB3:=hN3.blk
 have hl3:=hB3.lt
 refine A6 zr31 ?_
 intro w3 g4 hN4
 have hE3:=hN4.ext
 have hX:=hX.ext hE3
 have hB2:=hB2.ext hE3
 have hB3:=hB3.ext hE3
 have hB4:=hN4.blk
 refine Ac (t_n (Ab ?_))
 have e2:=hN2.g_eq
 have e3:=hN3.g_eq
 have e4:=hN4.g_eq
 have s2:=hN2.ext.size
 have s3:=hN3.ext.size
 have h23:g2<g3:=by omega
 have h34:g3<g4:=by omega
 have hg2:w.heap.size≤g2:=by omega
 have hg3:w.heap.size≤g3:=by omega
 have hg4:w.heap.size≤g4:=by omega
 have hB2:Blk _ g2 #[.int .u8 0,.slice none 0 0] 187:=hB2
 have hB3:Blk _ g3 #[.int .i64 0] 3:=hB3
 have hB4:Blk _ g4 #[.int .i64 0] 31:=hB4
 have hlen:=hl.len
 have hfit:=hl.fit
 have hcap:=hl.cap
 refine Aa ?_
 refine p1 (Bi (fs:=[]) (cs:=[.pointer (some ⟨g2,0,none⟩),.pointer (some ⟨g3,0,none⟩),.pointer (some ⟨g4,0,none⟩)]) rfl rfl) ?_
 refine Adp (oas:=[]) (fs:=[]) (vs:=[]) rfl rfl rfl rfl ?_
 refine Ac (t_n (Ab (Aa ?_)))
 refine pM ?_
 refine p1 (Aj u23 rfl) ?_
 refine p1 (C0 rfl rfl) ?_
 refine Jw Tryz.func181 fn181 fb181 (Ey _ _ _) rfl ?_ ?_
 rotate_left
 · rintro ch w4 ⟨hb, rfl, hE4⟩
   have hb:=of_decide_eq_false hb
   skip
   have hp:openF xs=noF (22):=by unfold openF;rw[if_pos (by omega)]
   have hX:=hX.ext hE4
   have hB2:=hB2.ext hE4
   have hB3:=hB3.ext hE4
   have hB4:=hB4.ext hE4
   refine t_p ?_
   exact I5 rfl Tryz.func180 fn180 fb180 rfl (Gi g2 g3 g4 _ _ _ _ (22) _ hB2 hB3 hB4 h23 h34) (fun w9 hR=>⟨_,Ec rfl (Cf ua187 rfl hR.b0 sz187) (Bo un3 rfl hR.b1) (Bo un31 rfl hR.b2),D4 hp hX hR hg2 hg3 hg4⟩)
 rintro v4 w4 ⟨hb4,hE4⟩
 have h1:=of_decide_eq_true hb4
 have hX:=hX.ext hE4
 have hB2:=hB2.ext hE4
 have hB3:=hB3.ext hE4
 have hB4:=hB4.ext hE4
 skip
 refine Ac (t_n (Ab (Aa ?_)))
 refine pM ?_
 refine p1 (C5 (i:=0) u23 sz5 rfl rfl ((hl.ext hX).adr Bw (by omega)) (by omega)) ?_
 refine p1 (Ae un5 rfl ((hl.ext hX).byteAt 0 (by omega))) ?_
 refine p1 (A2 rfl rfl) ?_
 refine Jw Tryz.func181 fn181 fb181 (Ey _ _ _) rfl ?_ ?_
 rotate_left
 · rintro ch w5 ⟨hb, rfl, hE5⟩
   have hb:=of_decide_eq_false hb
   have e0:xs.getD 0 0=0:=Kj.1 (Classical.byContradiction hb)
   have hp:openF xs=noF (4):=by unfold openF;rw[if_neg (by omega),if_pos e0]
   have hX:=hX.ext hE5
   have hB2:=hB2.ext hE5
   have hB3:=hB3.ext hE5
   have hB4:=hB4.ext hE5
   refine t_p ?_
   exact I5 rfl Tryz.func180 fn180 fb180 rfl (Gi g2 g3 g4 _ _ _ _ (4) _ hB2 hB3 hB4 h23 h34) (fun w9 hR=>⟨_,Ec rfl (Cf ua187 rfl hR.b0 sz187) (Bo un3 rfl hR.b1) (Bo un31 rfl hR.b2),D4 hp hX hR hg2 hg3 hg4⟩)
 rintro v5 w5 ⟨hb5,hE5⟩
 have h2:=of_decide_eq_true hb5
 have hX:=hX.ext hE5
 have hB2:=hB2.ext hE5
 have hB3:=hB3.ext hE5
 have hB4:=hB4.ext hE5
 have h2:xs.getD 0 0≠0:=fun e=>h2 (by rw[e];rfl)
 have hdl:(xs.drop 1).length=n - 1:=by rw[List.length_drop,hlen]
 refine Ac (t_n (Ab (Aa ?_)))
 refine pM ?_
 refine p1 (Es (m:=1) u23 sz5 rfl rfl (by omega)) ?_
 refine Ah Tryz.func182 fn182 fb182 (M2 (xs.drop 1) _ _ _ _ _ ((hl.ext hX).dropI 1 (by omega))) rfl ?_
 rintro v6 w6 ⟨rfl,hE6⟩
 have hX:=hX.ext hE6
 have hB2:=hB2.ext hE6
 have hB3:=hB3.ext hE6
 have hB4:=hB4.ext hE6
 refine pM ?_
 refine p1 (Ao rfl rfl) ?_
 refine p1 (Ao rfl rfl) ?_
 refine p1 (Ao rfl rfl) ?_
 refine pA (pA (pA (Ac (t_n (Ab (Aa ?_))))))
 refine pM ?_
 refine p1 (Bn rfl rfl) ?_
 refine pM ?_
 refine Jw Tryz.func181 fn181 fb181 (Ey _ _ _) rfl ?_ ?_
 rotate_left
 · rintro ch w7 ⟨hb, rfl, hE7⟩
   have hb:=of_decide_eq_false hb
   skip
   have hp:openF xs=noF ((getU (xs.drop 1)).2.2):=by unfold openF;rw[if_neg (by omega),if_neg h2,if_pos hb]
   have hX:=hX.ext hE7
   have hB2:=hB2.ext hE7
   have hB3:=hB3.ext hE7
   have hB4:=hB4.ext hE7
   refine t_p ?_
   exact I5 rfl Tryz.func180 fn180 fb180 rfl (Gi g2 g3 g4 _ _ _ _ ((getU (xs.drop 1)).2.2) _ hB2 hB3 hB4 h23 h34) (fun w9 hR=>⟨_,Ec rfl (Cf ua187 rfl hR.b0 sz187) (Bo un3 rfl hR.b1) (Bo un31 rfl hR.b2),D4 hp hX hR hg2 hg3 hg4⟩)
 rintro v7 w7 ⟨hb7,hE7⟩
 have h3:=of_decide_eq_true hb7
 have hX:=hX.ext hE7
 have hB2:=hB2.ext hE7
 have hB3:=hB3.ext hE7
 have hB4:=hB4.ext hE7
 have hgb:=Iy h3
 have hEd:(endF xs)=1+(getU (xs.drop 1)).2.1+(getU (xs.drop 1)).1:=rfl
 refine Ac (t_n (Ab (Aa ?_)))
 refine pM ?_
 refine p1 (Aem rfl rfl) ?_
 refine Jw Tryz.func181 fn181 fb181 (Ey _ _ _) rfl ?_ ?_
 rotate_left
 · rintro ch w8 ⟨hb, rfl, hE8⟩
   have hb:=of_decide_eq_false hb
   skip
   have hp:openF xs=noF (5):=by unfold openF;rw[if_neg (by omega),if_neg h2,if_neg (by simpa using h3),if_pos (by omega)]
   have hX:=hX.ext hE8
   have hB2:=hB2.ext hE8
   have hB3:=hB3.ext hE8
   have hB4:=hB4.ext hE8
   refine t_p ?_
   exact I5 rfl Tryz.func180 fn180 fb180 rfl (Gi g2 g3 g4 _ _ _ _ (5) _ hB2 hB3 hB4 h23 h34) (fun w9 hR=>⟨_,Ec rfl (Cf ua187 rfl hR.b0 sz187) (Bo un3 rfl hR.b1) (Bo un31 rfl hR.b2),D4 hp hX hR hg2 hg3 hg4⟩)
 rintro v8 w8 ⟨hb8,hE8⟩
 have h4:=of_decide_eq_true hb8
 have hX:=hX.ext hE8
 have hB2:=hB2.ext hE8
 have hB3:=hB3.ext hE8
 have hB4:=hB4.ext hE8
 skip
 refine Ac (t_n (Ab (Aa ?_)))
 refine pM ?_
 refine p1 ((Aw rfl rfl (Ag (by omega) (by omega))).cast (congrArg _ (by omega:(1:Int)+((getU (xs.drop 1)).2.1:Int)=((1+(getU (xs.drop 1)).2.1:Nat):Int)))) ?_
 refine pA (Ac (t_n (Ab (Aa ?_))))
 refine pM (pM ?_)
 refine p1 (Cs u3 us180 rfl (Ag (by omega) (by omega))) ?_
 refine p1 ((Aw rfl rfl (Ag (by omega) (by omega))).cast (congrArg _ (by omega:((1+(getU (xs.drop 1)).2.1:Nat):Int)+((getU (xs.drop 1)).1:Int)=((endF xs):Int)))) ?_
 refine pA (Ac (t_n (Ab (Aa ?_))))
 refine pM ?_
 refine p1 (Aj u23 rfl) ?_
 refine pM ?_
 refine p1 (Cz rfl rfl (Ag (by omega) (by omega))) ?_
 refine p1 (T0 rfl rfl) ?_
 refine Jw Tryz.func181 fn181 fb181 (Ey _ _ _) rfl ?_ ?_
 rotate_left
 · rintro ch w9 ⟨hb, rfl, hE9⟩
   have hb:=of_decide_eq_false hb
   skip
   have hp:openF xs=noF (3):=by unfold openF;rw[if_neg (by omega),if_neg h2,if_neg (by simpa using h3),if_neg (by omega),if_pos (by omega)]
   have hX:=hX.ext hE9
   have hB2:=hB2.ext hE9
   have hB3:=hB3.ext hE9
   have hB4:=hB4.ext hE9
   refine t_p ?_
   exact I5 rfl Tryz.func180 fn180 fb180 rfl (Gi g2 g3 g4 _ _ _ _ (3) _ hB2 hB3 hB4 h23 h34) (fun w9 hR=>⟨_,Ec rfl (Cf ua187 rfl hR.b0 sz187) (Bo un3 rfl hR.b1) (Bo un31 rfl hR.b2),D4 hp hX hR hg2 hg3 hg4⟩)
 rintro v9 w9 ⟨hb9,hE9⟩
 have h5:=of_decide_eq_true hb9
 have hX:=hX.ext hE9
 have hB2:=hB2.ext hE9
 have hB3:=hB3.ext hE9
 have hB4:=hB4.ext hE9
 skip
 refine Ac (t_n (Ab ?_))
 refine Adi [2,3,4] (fun ch w'=>ch=[{ v := .iface 232 (.agg #[.int .i64 6]),recovered:=false }]∧openF xs=noF 6∧Ext w9 w') (fun w1 w2=>Ext w1 w2) mixed ?_ ?_
 ·intro ch a w' hk hx
  refine t_p ?_
  obtain⟨rfl,hp,hE⟩:=hx
  exact Z2 hk rfl Tryz.func180 fn180 fb180 rfl (Gi g2 g3 g4 _ _ _ _ 6 _ (hB2.ext hE) (hB3.ext hE) (hB4.ext hE) h23 h34) (fun w9 hR=>⟨_,Ec rfl (by rw[hk.getD 2 (by simp)];exact Cf ua187 rfl hR.b0 sz187) (by rw[hk.getD 3 (by simp)];exact Bo un3 rfl hR.b1) (by rw[hk.getD 4 (by simp)];exact Bo un31 rfl hR.b2),D4 hp (hX.ext hE) hR hg2 hg3 hg4⟩)
 intro w10 hE10
 have hX:=hX.ext hE10
 have hB2:=hB2.ext hE10
 have hB3:=hB3.ext hE10
 have hB4:=hB4.ext hE10
 have hSr10:(fun w1 w2=>Ext w1 w2) w10 w10:=Ext.refl w10
 have hST:=hE10
 refine Fu 0 rfl (by kernel_rfl) (by kernel_rfl) (by kernel_rfl) hSr10 (fun wS hSS=>by(have hX:=hX.ext hSS;have hB2:=hB2.ext hSS;have hB3:=hB3.ext hSS;have hB4:=hB4.ext hSS;exact(Al (by conv=>lhs;whnf)))) ?_
 refine Fu 1 rfl (by kernel_rfl) (by kernel_rfl) (by kernel_rfl) hSr10 (fun wS hSS=>by(have hX:=hX.ext hSS;have hB2:=hB2.ext hSS;have hB3:=hB3.ext hSS;have hB4:=hB4.ext hSS;exact(Al (by conv=>lhs;whnf)))) ?_
 refine Fu 2 rfl (by kernel_rfl) (by kernel_rfl) (by kernel_rfl) hSr10 (fun wS hSS=>by(have hX:=hX.ext hSS;have hB2:=hB2.ext hSS;have hB3:=hB3.ext hSS;have hB4:=hB4.ext hSS;exact(D8 u23 sz5 rfl rfl (by omega)))) ?_
 refine Fu 5 rfl (by kernel_rfl) (by kernel_rfl) (by kernel_rfl) hSr10 (fun wS hSS=>by(have hX:=hX.ext hSS;have hB2:=hB2.ext hSS;have hB3:=hB3.ext hSS;have hB4:=hB4.ext hSS;exact(Al (by conv=>lhs;whnf)))) ?_
 refine Fu 6 rfl (by kernel_rfl) (by kernel_rfl) (by kernel_rfl) hSr10 (fun wS hSS=>by(have hX:=hX.ext hSS;have hB2:=hB2.ext hSS;have hB3:=hB3.ext hSS;have hB4:=hB4.ext hSS;exact(Al (by conv=>lhs;whnf)))) ?_
 refine Fu 7 rfl (by kernel_rfl) (by kernel_rfl) (by kernel_rfl) hSr10 (fun wS hSS=>by(have hX:=hX.ext hSS;have hB2:=hB2.ext hSS;have hB3:=hB3.ext hSS;have hB4:=hB4.ext hSS;exact(Al (by conv=>lhs;whnf)))) ?_
 refine Fu 8 rfl (by kernel_rfl) (by kernel_rfl) (by kernel_rfl) hSr10 (fun wS hSS=>by(have hX:=hX.ext hSS;have hB2:=hB2.ext hSS;have hB3:=hB3.ext hSS;have hB4:=hB4.ext hSS;exact((Aw rfl rfl (Ag (by omega) (by omega))).cast (congrArg _ (by omega:((endF xs):Int)+4=(((endF xs)+4:Nat):Int)))))) ?_
 refine Fu 9 rfl (by kernel_rfl) (by kernel_rfl) (by kernel_rfl) hSr10 (fun wS hSS=>by(have hX:=hX.ext hSS;have hB2:=hB2.ext hSS;have hB3:=hB3.ext hSS;have hB4:=hB4.ext hSS;exact((Mq u23 sz5 rfl rfl rfl (by omega) (by omega)).cast (by rw[Nat.add_sub_cancel_left]:_=Value.slice (adw p c (endF xs) 1) 4 (c - (endF xs)))))) ?_
 refine Fu 10 rfl (by kernel_rfl) (by kernel_rfl) (by kernel_rfl) hSr10 (fun wS hSS=>by(have hX:=hX.ext hSS;have hB2:=hB2.ext hSS;have hB3:=hB3.ext hSS;have hB4:=hB4.ext hSS;exact(A7 u23 u5 u9 rfl (((hl.ext hX).dropI (endF xs) (by omega)).take 4 (by omega))))) ?_
 refine W5 3 _ rfl (by kernel_rfl) (H5 (fun Q3 hQ3 hP3=>?_))
 refine Ah Tryz.func148 fn148 fb148 (Ry (xs.take (endF xs)) _ _ _ _ _ ((hl.ext hX).take (endF xs) (by omega)) (hq.ext hX)) rfl ?_
 rintro v11 w11 ⟨⟨q49,c49,rfl,hU⟩,hE11⟩
 have hX:=hX.ext hE11
 have hB2:=hB2.ext hE11
 have hB3:=hB3.ext hE11
 have hB4:=hB4.ext hE11
 have hSr10:=hSr10.ext hE11
 have hST:=hST.ext hE11
 refine An hQ3 ⟨hSr10,?_⟩
 refine W5 4 _ rfl (by kernel_rfl) (H5 (fun Q4 hQ4 hP4=>?_))
 refine p1 (A7 u23 u5 u9 rfl hU.sl) ?_
 refine An hQ4 ⟨hSr10,?_⟩
 refine Fu 11 rfl (by kernel_rfl) (by kernel_rfl) (by kernel_rfl) hSr10 (fun wS hSS=>by( exact(Fe rfl rfl))) ?_
 refine W5 12 _ rfl (by kernel_rfl) (H5 (fun Q12 hQ12 hP12=>?_))
 refine Jw Tryz.func181 fn181 fb181 (Ey _ _ _) rfl ?_ ?_
 rotate_left
 · rintro ch w12 ⟨hb, rfl, hE12⟩
   have hb:=of_decide_eq_false hb
   have hne:sumB (xs.take (endF xs))≠(xs.drop (endF xs)).take 4:=fun e=>hb (by rw[e])
   have hp:openF xs=noF (6):=by unfold openF;rw[if_neg (by omega),if_neg h2,if_neg (by simpa using h3),if_neg (by omega),if_neg (by omega),if_pos hne]
   exact hP12 _ _ _ (Keep.of (by intro t ht;simp only[List.mem_cons,List.not_mem_nil,or_false] at ht;rcases ht with rfl | rfl | rfl <;> rfl) rfl) ⟨rfl,hp,hST.ext hE12⟩
 rintro v12 w12 ⟨hb12,hE12⟩
 have h6:=C3 (of_decide_eq_true hb12)
 have hX:=hX.ext hE12
 have hB2:=hB2.ext hE12
 have hB3:=hB3.ext hE12
 have hB4:=hB4.ext hE12
 have hSr10:=hSr10.ext hE12
 refine An hQ12 ⟨hSr10,?_⟩
 refine Ad4 (by kernel_rfl) ?_
 refine t_n (Ab ?_)
 have hp:openF xs=((xs.getD 0 0,(xs.take (endF xs)).drop (1+(getU (xs.drop 1)).2.1)),(endF xs)+4,0):=by unfold openF;rw[if_neg (by omega),if_neg h2,if_neg (by simpa using h3),if_neg (by omega),if_neg (by omega),if_neg (by rw[h6];simp)]
 have hbl:((xs.take (endF xs)).drop (1+(getU (xs.drop 1)).2.1)).length=(getU (xs.drop 1)).1:=by rw[List.length_drop,List.length_take];omega
 refine B7 (fun _ w2=>Ext w w2) mixed ?_
 intro w13 hE13
 have hX:=hX.ext hE13
 have hB2:=hB2.ext hE13
 have hB3:=hB3.ext hE13
 have hB4:=hB4.ext hE13
 have hSr11:(fun _ w2=>Ext w w2) w13 w13:=hX
 refine hT 0 rfl hSr11 (fun wS hSS=>by(exact(Al (by conv=>lhs;whnf)))) ?_
 refine hT 1 rfl hSr11 (fun wS hSS=>by(exact(C5 (i:=0) u23 sz5 rfl rfl ((hl.ext hX).adr Bw (by omega)) (by omega)))) ?_
 refine hT 2 rfl hSr11 (fun wS hSS=>by(have hX:=hSS;exact(Ae un5 rfl ((hl.ext hX).byteAt 0 (by omega))))) ?_
 refine hT 3 rfl hSr11 (fun wS hSS=>by(exact(Al (by conv=>lhs;whnf)))) ?_
 refine hT 4 rfl hSr11 (fun wS hSS=>by(exact(Al (by conv=>lhs;whnf)))) ?_
 refine hT 5 rfl hSr11 (fun wS hSS=>by(exact(Al (by conv=>lhs;whnf)))) ?_
 refine hT 6 rfl hSr11 (fun wS hSS=>by(exact(Mq u23 sz5 rfl rfl rfl (by omega) (by omega)))) ?_
 refine hT 10 rfl hSr11 (fun wS hSS=>by(exact(Al (by conv=>lhs;whnf)))) ?_
 refine hT 11 rfl hSr11 (fun wS hSS=>by(exact((Aw rfl rfl (Ag (by omega) (by omega))).cast (congrArg _ (by omega:((endF xs):Int)+4=(((endF xs)+4:Nat):Int)))))) ?_
 refine h1L 7 (fun Q7 hQ7=>?_)
 refine Au u22 inf23 rfl (by decide) (fun base hb=>Cj (by rfl) base hb) ?_
 intro w14 g66 hN66
 have hE14:=hN66.ext
 have hX:=hX.ext hE14
 have hB2:=hB2.ext hE14
 have hB3:=hB3.ext hE14
 have hB4:=hB4.ext hE14
 have hSr11:=hSr11.ext hE14
 have hJ:=Aa0 hN66 (((hl.ext hX).take (endF xs) (by omega)).dropI (1+(getU (xs.drop 1)).2.1) (by omega))
 refine An hQ7 ⟨hSr11,?_⟩
 refine h1L 8 (fun Q8 hQ8=>?_)
 have hXs66:=hX.size
 refine Ah Tryz.func147 fn147 fb147 (H6 _ _ _ _ _ _ hJ (by rw[flat1,hbl];omega)) rfl ?_
 rintro v15 w15 ⟨⟨q67,m67,c67,rfl,hO⟩,hE15⟩
 have hX:=hX.ext hE15
 have hB2:=hB2.ext hE15
 have hB3:=hB3.ext hE15
 have hB4:=hB4.ext hE15
 have hSr11:=hSr11.ext hE15
 rw[flat1] at hO
 have hO:=hO.lower hXs66
 refine An hQ8 ⟨hSr11,?_⟩
 refine hT 9 rfl hSr11 (fun wS hSS=>by(exact(Oa pl187 (by conv=>lhs;whnf) (by conv=>lhs;whnf) rfl rfl))) ?_
 refine h1L 12 (fun Q12 hQ12=>?_)
 refine Az rfl (by conv=>lhs;whnf) (by simp[Value.oneCell']) (by exact sz187) hB2 (by rfl) ?_
 intro w16 hP16
 have hX:=hX.put hP16 (hg2)
 have hB2:=hP16.blk
 have hB3:=hP16.keep hB3 (by omega)
 have hB4:=hP16.keep hB4 (by omega)
 have hSr11:=hSr11.put hP16 (by omega)
 have hO:=hO.mod (hP16.mod 0 (Nat.zero_le _)) (Nat.zero_le _) (by decide)
 refine An hQ12 ⟨hSr11,?_⟩
 refine h1L 13 (fun Q13 hQ13=>?_)
 refine Ar rfl (by conv=>lhs;whnf) rfl rfl sz3 hB3 (by simp) ?_
 intro w17 hP17
 have hX:=hX.put hP17 (hg3)
 have hB2:=hP17.keep hB2 (by omega)
 have hB3:=hP17.blk
 try simp only[List.setIfInBounds_toArray,List.set_cons_zero,List.set_cons_succ] at hB3
 have hB4:=hP17.keep hB4 (by omega)
 have hSr11:=hSr11.put hP17 (by omega)
 have hO:=hO.mod (hP17.mod 0 (Nat.zero_le _)) (Nat.zero_le _) (by decide)
 refine An hQ13 ⟨hSr11,?_⟩
 refine h1L 14 (fun Q14 hQ14=>?_)
 refine Ar rfl (by conv=>lhs;whnf) rfl rfl sz31 hB4 (by simp) ?_
 intro w18 hP18
 have hX:=hX.put hP18 (hg4)
 have hB2:=hP18.keep hB2 (by omega)
 have hB3:=hP18.keep hB3 (by omega)
 have hB4:=hP18.blk
 try simp only[List.setIfInBounds_toArray,List.set_cons_zero,List.set_cons_succ] at hB4
 have hSr11:=hSr11.put hP18 (by omega)
 have hO:=hO.mod (hP18.mod 0 (Nat.zero_le _)) (Nat.zero_le _) (by decide)
 refine An hQ14 ⟨hSr11,?_⟩
 refine Bm (by kernel_rfl) ?_
 refine t_n (Ak ?_)
 exact Aci rfl Tryz.func180 fn180 fb180 rfl (Ws g2 g3 g4 _) (fun w9 hR=>by
   subst hR
   exact⟨_,Ec rfl (Cf ua187 rfl hB2 sz187) (Bo un3 rfl hB3) (Bo un31 rfl hB4),⟨_,_,_,by rw[hp],by rw[hp];exact hO⟩,hX⟩)
end Go.Proofs.Eng
end
section
set_option maxRecDepth 100000
set_option maxHeartbeats 4000000
namespace Go.Proofs.Eng
open Go.RowKit
open Extern.Stop (cell)
theorem fb136:Tryz.f136.body.isNone=false:=by kernel_rfl
theorem fb137:Tryz.f137.body.isNone=false:=by kernel_rfl
theorem fb138:Tryz.f138.body.isNone=false:=by kernel_rfl
theorem fb139:Tryz.f139.body.isNone=false:=by kernel_rfl
theorem fb140:Tryz.f140.body.isNone=false:=by kernel_rfl
theorem fb97:Tryz.f97.body.isNone=false:=by kernel_rfl
theorem fn136 : ngB Tryz.f136 = false := by kernel_rfl
theorem fn137 : ngB Tryz.f137 = false := by kernel_rfl
theorem fn138 : ngB Tryz.f138 = false := by kernel_rfl
theorem fn139 : ngB Tryz.f139 = false := by kernel_rfl
theorem fn140 : ngB Tryz.f140 = false := by kernel_rfl
theorem fn97 : ngB Tryz.f97 = false := by kernel_rfl
theorem pl99:Da Tryz.prog 99=some (.agg #[.int .i64 0,.int .i64 0,.slice none 0 0],[(0,1),(1,1),(2,1)]):=by kernel_rfl
theorem sz99:(Tryz.prog.info? 99).map (·.size)=some 3:=by kernel_rfl
theorem ua99:(Tryz.prog.underlying 99).map TypeDesc.isRow=some true:=by kernel_rfl
theorem zr99:(Tryz.prog.info? 99).map (·.zero)=some (some (.agg #[.int .i64 0,.int .i64 0,.slice none 0 0])):=by kernel_rfl
end Go.Proofs.Eng
end
section
set_option maxRecDepth 100000
set_option maxHeartbeats 4000000
namespace Go.Proofs.Eng
open Go.RowKit
open Extern.Stop (cell)
theorem S6 (xs:List UInt8) (B:Nat) (p:Option Addr) (n c:Nat) (w:World) (hl:Sl kByte 5 B w p n c xs) (hq:Qt w) :
    Ret Tryz.prog 93 [.slice p n c] w (fun v w'=>(∃ (seg size:Int) (q:Option Addr) (m c':Nat) (e:Int),v = .tuple #[.agg #[.int .i64 seg,.int .i64 size,.slice q m c'],.int .i64 e]∧((e=0∧∃ M:Mf,ManOf xs M∧seg=(M.seg:Int)∧size=(M.size:Int)∧Own kByte 5 0 w.heap.size w' q m c' M.index)∨(e=4∧¬ ∃ M,ManOf xs M)))∧Ext w w'):=by
 have hX:=Ext.refl w
 refine eN 66 Tryz.func93 ?_
 refine Ab (Aa ?_)
 have hz2:=hX.size
 refine A6 zr99 ?_
 intro w1 g2 hN2
 have hE1:=hN2.ext
 have hX:=hX.ext hE1
 have hB2:=hN2.blk
 have hq2:=hN2.g_eq
 refine pA ?_
 refine Ac (t_n (Ab (Aa ?_)))
 refine pM ?_
 refine Ah Tryz.func133 fn133 fb133 (Pr xs _ _ _ _ _ (hl.ext hX) (hq.ext hX)) rfl ?_
 rintro v2 w2 ⟨⟨qo,mo,co,rfl,hO⟩,hE2⟩
 have hX:=hX.ext hE2
 have hB2:=hB2.ext hE2
 have hO:=hO.lower (Nat.zero_le _)
 refine pM ?_
 refine p1 (Ao rfl rfl) ?_
 refine p1 (Ao rfl rfl) ?_
 refine p1 (Ao rfl rfl) ?_
 have hz4:=hX.size
 have hl4_2:=hB2.lt
 refine A6 zr187 ?_
 intro w3 g4 hN4
 have hE3:=hN4.ext
 have hX:=hX.ext hE3
 have hB2:=hB2.ext hE3
 have hO:=hO.ext hE3
 have hB4:=hN4.blk
 have hq4:=hN4.g_eq
 refine Az rfl (by conv=>lhs;whnf) (by simp[Value.oneCell']) (by exact sz187) hB4 (by rfl) ?_
 intro w4 hP4
 have hX:=hX.put hP4 (by omega)
 have hB2:=hP4.keep hB2 (by omega)
 have hO:=hO.mod (hP4.mod 0 (Nat.zero_le _)) (Nat.zero_le _) (by decide)
 have hB4:=hP4.blk
 refine pA ?_
 refine pA ?_
 refine Ac (t_n (Ab (Ab ?_)))
 have hWr2:=Ext.refl w4
 refine F6 (ι:=Unit) [17,18,19,20,21,22,23] (fun _=>[(23,.bool (decide ((openF xs).2.2≠0∨((openF xs).1.1.toNat:Int)≠3)))]) (fun _ w'=>Ext w4 w') ?_ ?_
 ·skip
  refine Aa ?_
  refine pM ?_
  refine p1 (A2 rfl rfl) ?_
  refine p1b (Al (by conv=>lhs;whnf)) (fun hb2_2=>?_) (fun hb2_2=>?_)
  ·try simp only[dA,dB,dC,dD,dE,dF,dG,Int.not_lt,Int.not_le] at hb2_2
   refine gF 19 ?_
   refine gF 19 ?_
   refine gF 19 ?_
   refine p1 (Ap rfl (by conv=>lhs;whnf)) ?_
   refine Ac ?_
   refine t_n (aK () ⟨congrArg Value.bool (by exact(decide_eq_true (by omega)).symm),trivial⟩ hWr2)
  try simp only[dA,dB,dC,dD,dE,dF,dG,Int.not_lt,Int.not_le] at hb2_2
  refine g1 19 rfl rfl (Ad Yh sz5 rfl) ?_
  refine g1 19 rfl rfl (Ae un5 rfl (hB4.cell (rfl))) ?_
  refine g1 19 rfl rfl ((A2 rfl rfl)) ?_
  refine p1 (Aq rfl (by conv=>lhs;whnf)) ?_
  refine Ac ?_
  refine t_n (aK () ⟨congrArg Value.bool (by exact decide_eq_decide.2 (by omega)),trivial⟩ hWr2)
 rintro _ Gr2 w5 hE5
 have hX:=hX.ext hE5
 have hB2:=hB2.ext hE5
 have hO:=hO.ext hE5
 have hB4:=hB4.ext hE5
 refine t_n ?_
 refine As rfl (fun hc23=>?_) (fun hc23=>?_)
 ·try simp only[dA,dB,dC,dD,dE,dF,dG,Int.not_lt,Int.not_le] at hc23
  have hno:¬ ∃ M,ManOf xs M:=fun ⟨M,hM⟩=>by
    have h9:=H3 hM
    rw[h9] at hc23
    simp at hc23
  refine Ab (Aa ?_)
  refine p1 (Hg pl99 rfl) ?_
  refine Az rfl (by conv=>lhs;whnf) (by simp[Value.oneCell']) (by exact sz99) hB2 (by rfl) ?_
  intro w6 hP6
  have hX:=hX.put hP6 (by omega)
  have hB2:=hP6.blk
  have hO:=hO.mod (hP6.mod 0 (Nat.zero_le _)) (Nat.zero_le _) (by decide)
  have hB4:=hP6.keep hB4 (by omega)
  refine pA ?_
  refine Ac (t_n (Ak (t_r ?_)))
  refine end2c rfl ua99 rfl (by conv=>lhs;whnf) hB2 sz99 ?_
  exact⟨⟨0,0,none,0,0,4,rfl,.inr ⟨rfl,hno⟩⟩,hX⟩
 try simp only[dA,dB,dC,dD,dE,dF,dG,Int.not_lt,Int.not_le] at hc23
 have h0:(openF xs).2.2=0:=Classical.byContradiction fun h=>hc23 (.inl h)
 have hbl:=(Lb h0).2.1
 have hbo:∀ M,ManOf xs M→Dj M=(openF xs).1.2:=fun M h=>by rw[H3 h]
 have hol:=hO.len
 refine Ai (t_n (Ab (Aa ?_)))
 refine p1 (Ad Nt sz23 rfl) ?_
 refine p1 (Ae un23 rfl (hB4.cell (rfl))) ?_
 have hXs7:=hX.size
 refine Ah Tryz.func136 fn136 fb136 (Abp (openF xs).1.2 _ _ _ _ _ hO.sl (by omega)) rfl ?_
 rintro v7 w7 ⟨⟨g7,rfl,hg7,hR⟩,hE7⟩
 have hX:=hX.ext hE7
 have hB2:=hB2.ext hE7
 have hO:=hO.ext hE7
 have hB4:=hB4.ext hE7
 have hg0:w.heap.size≤g7:=by omega
 refine pA ?_
 refine Ac (t_n (Ab (Aa ?_)))
 refine pM ?_
 refine Ah Tryz.func137 fn137 fb137 (La (openF xs).1.2 g7 0 _ hR 999999) rfl ?_
 rintro v8 w8 ⟨N1,e1,R1,rfl,hN51,hR,hT1,hM8⟩
 have hX:=hX.mod hM8 (hg0)
 have hB2:=hB2.mod hM8 (by decide)
 have hO:=hO.mod hM8 (Nat.zero_le _) (by decide)
 have hB4:=hB4.mod hM8 (by decide)
 refine p1 (Cs u3 us180 rfl (Ag (by omega) (by omega))) ?_
 refine pM ?_
 refine Ah Tryz.func137 fn137 fb137 (La R1 g7 e1 _ hR 16777216) rfl ?_
 rintro v9 w9 ⟨N2,e2,R2,rfl,hN52,hR,hT2,hM9⟩
 have hX:=hX.mod hM9 (hg0)
 have hB2:=hB2.mod hM9 (by decide)
 have hO:=hO.mod hM9 (Nat.zero_le _) (by decide)
 have hB4:=hB4.mod hM9 (by decide)
 refine p1 (Cs u3 us180 rfl (Ag (by omega) (by omega))) ?_
 refine p1 (T1 pl99 (by conv=>lhs;whnf) (by conv=>lhs;whnf) rfl rfl) ?_
 have hlt8:=hB4.lt
 obtain⟨hRl,hRd,hRm⟩:=Abk hbo hT1 hT2
 have hlt4:=hB4.lt
 have hXs8:=hX.size
 have hz8:=hX.size
 have hl8_2:=hB2.lt
 have hl8_4:=hB4.lt
 refine A6 zr99 ?_
 intro w10 g8 hN8
 have hE10:=hN8.ext
 have hX:=hX.ext hE10
 have hB2:=hB2.ext hE10
 have hO:=hO.ext hE10
 have hB4:=hB4.ext hE10
 have hR:=hR.ext hE10
 have hB8:=hN8.blk
 have hq8:=hN8.g_eq
 refine Az rfl (by conv=>lhs;whnf) (by simp[Value.oneCell']) (by exact sz99) hB8 (by rfl) ?_
 intro w11 hP11
 have hX:=hX.put hP11 (by omega)
 have hB2:=hP11.keep hB2 (by omega)
 have hO:=hO.mod (hP11.mod 0 (Nat.zero_le _)) (Nat.zero_le _) (by decide)
 have hB4:=hP11.keep hB4 (by omega)
 have hR:=hR.mod (hP11.mod 0 (Nat.zero_le _)) (Nat.zero_le _) (by decide)
 have hB8:=hP11.blk
 refine Ac (t_n (Ab ?_))
 have hg8:=hN8.g_eq
 have hcap:=hO.sl.cap
 have hfit:=hO.sl.fit
 refine B7 (fun _ w2=>Blk w2 g4 #[.int .u8 ((openF xs).1.1.toNat:Int),.slice qo mo co] 187) mixed ?_
 intro w12 hE12
 have hX:=hX.ext hE12
 have hB2:=hB2.ext hE12
 have hO:=hO.ext hE12
 have hB4:=hB4.ext hE12
 have hR:=hR.ext hE12
 have hB8:=hB8.ext hE12
 have hSr6:(fun _ w2=>Blk w2 g4 #[.int .u8 ((openF xs).1.1.toNat:Int),.slice qo mo co] 187) w12 w12:=hB4
 refine hT 0 rfl hSr6 (fun wS hSS=>by(exact(Ad Nt sz23 rfl))) ?_
 refine hT 1 rfl hSr6 (fun wS hSS=>by(have hB4:=hSS;exact(Ae un23 rfl (hB4.cell (rfl))))) ?_
 refine hT 2 rfl hSr6 (fun wS hSS=>by(exact(Ad Nt sz23 rfl))) ?_
 refine hT 3 rfl hSr6 (fun wS hSS=>by(have hB4:=hSS;exact(Ae un23 rfl (hB4.cell (rfl))))) ?_
 refine hT 4 rfl hSr6 (fun wS hSS=>by(have hB4:=hSS;exact(Aj u23 rfl))) ?_
 refine hT 5 rfl hSr6 (fun wS hSS=>by(exact(Al (by conv=>lhs;whnf)))) ?_
 refine h1L 6 (fun Q6 hQ6=>?_)
 refine Ah Tryz.func138 fn138 fb138 (Uo R2 g7 e2 _ hR) rfl ?_
 rintro v13 w13 ⟨rfl,hE13⟩
 have hX:=hX.ext hE13
 have hB2:=hB2.ext hE13
 have hO:=hO.ext hE13
 have hB4:=hB4.ext hE13
 have hR:=hR.ext hE13
 have hB8:=hB8.ext hE13
 have hSr6:=hSr6.ext hE13
 refine An hQ6 ⟨hSr6,?_⟩
 refine hT 7 rfl hSr6 (fun wS hSS=>by(exact(Cz rfl rfl (Ag (by omega) (by omega))))) ?_
 refine hT 8 rfl hSr6 (fun wS hSS=>by(exact(Jd u23 sz5 rfl rfl (by omega) (by omega)))) ?_
 refine h1L 9 (fun Q9 hQ9=>?_)
 have hX9:=hX.size
 obtain⟨ix,hix⟩:∃ x,x=(openF xs).1.2.drop ((mo:Int) - (R2.length:Int)).toNat:=⟨_,rfl⟩
 refine Ah Tryz.func58 fn58 fb58 (Bz _ _ _ _ _ _ _ (hO.sl.dropI ((mo:Int) - (R2.length:Int)).toNat (by omega)) (by omega)) rfl ?_
 rintro v14 w14 ⟨⟨qi,ci,rfl,hI⟩,hE14⟩
 have hX:=hX.ext hE14
 have hB2:=hB2.ext hE14
 have hO:=hO.ext hE14
 have hB4:=hB4.ext hE14
 have hR:=hR.ext hE14
 have hB8:=hB8.ext hE14
 have hSr6:=hSr6.ext hE14
 rw[← hix] at hI
 have hI:=hI.lower hX9
 refine An hQ9 ⟨hSr6,?_⟩
 refine hT 10 rfl hSr6 (fun wS hSS=>by(exact(Ad Td sz23 rfl))) ?_
 refine h1L 11 (fun Q11 hQ11=>?_)
 refine Ar rfl (by conv=>lhs;whnf) rfl rfl sz23 hB8 (by simp) ?_
 intro w15 hP15
 have hX:=hX.put hP15 (by omega)
 have hB2:=hP15.keep hB2 (by omega)
 have hO:=hO.mod (hP15.mod 0 (Nat.zero_le _)) (Nat.zero_le _) (by decide)
 have hB4:=hP15.keep hB4 (by omega)
 have hR:=hR.mod (hP15.mod 0 (Nat.zero_le _)) (Nat.zero_le _) (by decide)
 have hB8:=hP15.blk
 try simp only[List.setIfInBounds_toArray,List.set_cons_zero,List.set_cons_succ] at hB8
 have hSr6:=hP15.keep hSr6 (by omega)
 have hI:=hI.mod (hP15.mod 0 (Nat.zero_le _)) (Nat.zero_le _) (by decide)
 refine An hQ11 ⟨hSr6,?_⟩
 refine Bm (by kernel_rfl) ?_
 refine t_n (Ab (Ab (Aa ?_)))
 refine p1 (Bh ua99 rfl hB8 sz99) ?_
 refine Ah Tryz.func97 fn97 fb97 (Le (N1:Int) (N2:Int) ix _ _ _ _ _ hI.sl (hq.ext hX)) rfl ?_
 rintro v16 w16 ⟨⟨qp,mp,cp,ep,rfl,hpe,hP⟩,hE16⟩
 have hX:=hX.ext hE16
 have hB2:=hB2.ext hE16
 have hO:=hO.ext hE16
 have hB4:=hB4.ext hE16
 have hR:=hR.ext hE16
 have hB8:=hB8.ext hE16
 have hI:=hI.ext hE16
 have hPx:∀ w2,Ext w16 w2→ep=0→∃ s z:Nat,(N1:Int)=(s:Int)∧(N2:Int)=(z:Int)∧(Mf.mk s z ix).Ok∧Own kByte 5 0 0 w2 qp mp cp (manB ⟨s,z,ix⟩):=fun w2 hx he=>by
   obtain⟨_,s,z,h1,h2,h3,h4⟩:=hP.resolve_right (fun h=>h.1 he)
   exact⟨s,z,h1,h2,h3,(h4.lower (Nat.zero_le _)).ext hx⟩
 have hPn:ep≠0→¬ ∃ s z:Nat,(N1:Int)=(s:Int)∧(N2:Int)=(z:Int)∧(Mf.mk s z ix).Ok:=fun he=>(hP.resolve_left (fun h=>he h.1)).2
 have hG7:=Ext.refl w16
 have hMx:∀ M,ManOf xs M→e2=0∧M=⟨N1,N2,ix⟩:=fun M hM=>by
   obtain⟨g1,g2,g3,g4⟩:=hRm M hM
   have h9:=hRd g1
   have hk:((mo:Int) - (R2.length:Int)).toNat=(openF xs).1.2.length - R2.length:=by omega
   have h8:ix=M.index:=by rw[hix,hk,h9,g4]
   refine⟨g1,?_⟩
   cases M with | mk a b c=>simp only at g2 g3 h8;rw[g2,g3,h8]
 refine pM ?_
 refine p1 (Ao rfl rfl) ?_
 refine p1 (Ao rfl rfl) ?_
 refine pA ?_
 refine pA ?_
 refine Ac (t_n (Ab (Aa ?_)))
 refine pM ?_
 refine Ah Tryz.func139 fn139 fb139 (Wk R2 g7 e2 _ hR) rfl ?_
 rintro v17 w17 ⟨rfl,hE17⟩
 have hX:=hX.ext hE17
 have hB2:=hB2.ext hE17
 have hO:=hO.ext hE17
 have hB4:=hB4.ext hE17
 have hR:=hR.ext hE17
 have hB8:=hB8.ext hE17
 have hI:=hI.ext hE17
 have hG7:=hG7.ext hE17
 refine p1 (A2 rfl rfl) ?_
 refine p1b (Al (by conv=>lhs;whnf)) (fun hb8_3=>?_) (fun hb8_3=>?_)
 ·try simp only[dA,dB,dC,dD,dE,dF,dG,Int.not_lt,Int.not_le] at hb8_3
  refine gF 54 ?_
  refine gF 54 ?_
  refine p1 (Ap rfl (by conv=>lhs;whnf)) ?_
  refine pM ?_
  refine gF 58 ?_
  refine gF 58 ?_
  refine gF 58 ?_
  refine gF 58 ?_
  refine p1 (Ap rfl (by conv=>lhs;whnf)) ?_
  refine Ac (t_n ?_)
  refine c_t rfl ?_
  refine Ab (Aa ?_)
  refine p1 (Hg pl99 rfl) ?_
  refine Az rfl (by conv=>lhs;whnf) (by simp[Value.oneCell']) (by exact sz99) hB2 (by rfl) ?_
  intro w18 hP18
  have hX:=hX.put hP18 (by omega)
  have hB2:=hP18.blk
  have hO:=hO.mod (hP18.mod 0 (Nat.zero_le _)) (Nat.zero_le _) (by decide)
  have hB4:=hP18.keep hB4 (by omega)
  have hR:=hR.mod (hP18.mod 0 (Nat.zero_le _)) (Nat.zero_le _) (by decide)
  have hB8:=hP18.keep hB8 (by omega)
  have hI:=hI.mod (hP18.mod 0 (Nat.zero_le _)) (Nat.zero_le _) (by decide)
  refine pA ?_
  refine Ac (t_n (Ak (t_r ?_)))
  refine end2c rfl ua99 rfl (by conv=>lhs;whnf) hB2 sz99 ?_
  exact⟨⟨0,0,none,0,0,4,rfl,.inr ⟨rfl,fun ⟨M,hM⟩=>hb8_3 (hMx M hM).1⟩⟩,hX⟩
 try simp only[dA,dB,dC,dD,dE,dF,dG,Int.not_lt,Int.not_le] at hb8_3
 refine gM 54 ?_
 refine g1 54 rfl rfl (A2 rfl rfl) ?_
 refine p1 (Aq rfl (by conv=>lhs;whnf)) ?_
 refine p1b (Al (by conv=>lhs;whnf)) (fun hb8_7=>?_) (fun hb8_7=>?_)
 ·try simp only[dA,dB,dC,dD,dE,dF,dG,Int.not_lt,Int.not_le] at hb8_7
  refine gF 58 ?_
  refine gF 58 ?_
  refine gF 58 ?_
  refine gF 58 ?_
  refine p1 (Ap rfl (by conv=>lhs;whnf)) ?_
  refine Ac (t_n ?_)
  refine c_t rfl ?_
  refine Ab (Aa ?_)
  refine p1 (Hg pl99 rfl) ?_
  refine Az rfl (by conv=>lhs;whnf) (by simp[Value.oneCell']) (by exact sz99) hB2 (by rfl) ?_
  intro w19 hP19
  have hX:=hX.put hP19 (by omega)
  have hB2:=hP19.blk
  have hO:=hO.mod (hP19.mod 0 (Nat.zero_le _)) (Nat.zero_le _) (by decide)
  have hB4:=hP19.keep hB4 (by omega)
  have hR:=hR.mod (hP19.mod 0 (Nat.zero_le _)) (Nat.zero_le _) (by decide)
  have hB8:=hP19.keep hB8 (by omega)
  have hI:=hI.mod (hP19.mod 0 (Nat.zero_le _)) (Nat.zero_le _) (by decide)
  refine pA ?_
  refine Ac (t_n (Ak (t_r ?_)))
  refine end2c rfl ua99 rfl (by conv=>lhs;whnf) hB2 sz99 ?_
  exact⟨⟨0,0,none,0,0,4,rfl,.inr ⟨rfl,fun ⟨M,hM⟩=>hPn hb8_7 ⟨N1,N2,rfl,rfl,by have:=(hMx M hM).2;rw[← this];exact hM.1⟩⟩⟩,hX⟩
 try simp only[dA,dB,dC,dD,dE,dF,dG,Int.not_lt,Int.not_le] at hb8_7
 obtain⟨s,z,hs1,hz1,hok,hOp⟩:=hPx _ hG7 (by omega)
 refine gM 58 ?_
 refine gM 58 ?_
 refine B8 58 rfl rfl ?_
 refine Ah Tryz.func140 fn140 fb140 (Nj (manB ⟨s,z,ix⟩) xs _ hOp.sl (hl.ext hX)) rfl ?_
 rintro v20 w20 ⟨rfl,hE20⟩
 have hX:=hX.ext hE20
 have hB2:=hB2.ext hE20
 have hO:=hO.ext hE20
 have hB4:=hB4.ext hE20
 have hR:=hR.ext hE20
 have hB8:=hB8.ext hE20
 have hI:=hI.ext hE20
 have hG7:=hG7.ext hE20
 refine g1 58 rfl rfl (Hu rfl) ?_
 refine p1 (Aq rfl (by conv=>lhs;whnf)) ?_
 refine Ac (t_n ?_)
 refine As rfl (fun hc63=>?_) (fun hc63=>?_)
 ·try simp only[dA,dB,dC,dD,dE,dF,dG,Int.not_lt,Int.not_le] at hc63
  refine Ab (Aa ?_)
  refine p1 (Hg pl99 rfl) ?_
  refine Az rfl (by conv=>lhs;whnf) (by simp[Value.oneCell']) (by exact sz99) hB2 (by rfl) ?_
  intro w21 hP21
  have hX:=hX.put hP21 (by omega)
  have hB2:=hP21.blk
  have hO:=hO.mod (hP21.mod 0 (Nat.zero_le _)) (Nat.zero_le _) (by decide)
  have hB4:=hP21.keep hB4 (by omega)
  have hR:=hR.mod (hP21.mod 0 (Nat.zero_le _)) (Nat.zero_le _) (by decide)
  have hB8:=hP21.keep hB8 (by omega)
  have hI:=hI.mod (hP21.mod 0 (Nat.zero_le _)) (Nat.zero_le _) (by decide)
  refine pA ?_
  refine Ac (t_n (Ak (t_r ?_)))
  refine end2c rfl ua99 rfl (by conv=>lhs;whnf) hB2 sz99 ?_
  (refine⟨⟨0,0,none,0,0,4,rfl,.inr ⟨rfl,fun ⟨M,hM⟩=>?_⟩⟩,hX⟩
   have e1:N1=s:=by omega
   have e2:N2=z:=by omega
   subst e1 e2
   have h9:=(hMx M hM).2
   rw[h9] at hM
   have h8:=hM.2
   simp[h8] at hc63)
 try simp only[dA,dB,dC,dD,dE,dF,dG,Int.not_lt,Int.not_le] at hc63
 refine Ai (t_n (Ab (Aa ?_)))
 refine p1 (Bh ua99 rfl hB8 sz99) ?_
 refine Az rfl (by conv=>lhs;whnf) (by simp[Value.oneCell']) (by exact sz99) hB2 (by rfl) ?_
 intro w22 hP22
 have hX:=hX.put hP22 (by omega)
 have hB2:=hP22.blk
 have hO:=hO.mod (hP22.mod 0 (Nat.zero_le _)) (Nat.zero_le _) (by decide)
 have hB4:=hP22.keep hB4 (by omega)
 have hR:=hR.mod (hP22.mod 0 (Nat.zero_le _)) (Nat.zero_le _) (by decide)
 have hB8:=hP22.keep hB8 (by omega)
 have hI:=hI.mod (hP22.mod 0 (Nat.zero_le _)) (Nat.zero_le _) (by decide)
 refine pA ?_
 refine Ac (t_n (Ak ?_))
 refine end2c rfl ua99 rfl (by conv=>lhs;whnf) hB2 sz99 ?_
 (have e1:N1=s:=by omega
  have e2:N2=z:=by omega
  subst e1 e2
  have h8:manB ⟨N1,N2,ix⟩=xs:=by simpa using hc63
  exact⟨⟨_,_,_,_,_,0,rfl,.inl ⟨rfl,⟨N1,N2,ix⟩,⟨hok,h8⟩,rfl,rfl,hI⟩⟩,hX⟩)
end Go.Proofs.Eng
end
section
set_option maxRecDepth 100000
set_option maxHeartbeats 4000000
namespace Go.Proofs.Eng
open Go.RowKit
open Extern.Stop (cell)
theorem Pv (g:Nat) (S:Nat→Prop) (D:DS) (w:World) (hD:Dsk S w g D) (hok:DOk D) (st:List UInt8) (p:Option Addr) (n c:Nat) (hst:Out S w p n c st) :
    Ret Tryz.prog 42 [.pointer (some ⟨g,0,none⟩),.slice p n c] w (fun v w'=>Dsk (grow S w w') w' g (E5 D st)∧ModS S ED w w'):=by
 obtain⟨r,μ,hB,hM,hSg,hSr,hF⟩:=hD.ex
 have hW1:=Nat.le_refl w.heap.size
 have hX:=ModS.refl S ED w
 refine eN 124 Tryz.func42 ?_
 refine Ab (Ab (Aa ?_))
 refine pM ?_
 refine p1 ((Bb u34 rfl rfl).cast (congrArg _ (decide_eq_false (by simp)))) ?_
 refine Ac (t_n ?_)
 refine c_f rfl ?_
 refine Ai (t_n (Ab (Aa ?_)))
 refine pM ?_
 refine p1 (Af rfl) ?_
 refine p1 (Ad Eq sz3 rfl) ?_
 refine Ar rfl (by conv=>lhs;whnf) rfl rfl sz3 hB (by simp) ?_
 intro w1 hP1
 have hX:=hX.put hP1 (⟨.inl hSg,by decide⟩)
 have hB:=hP1.blk
 try simp only[List.setIfInBounds_toArray,List.set_cons_zero,List.set_cons_succ] at hB
 have hM:=hM.mod (hP1.mod 0 (Nat.zero_le _)) (Nat.zero_le _) (by decide)
 have hF:=hF.one hP1.one (by decide)
 refine Ac (t_n (Ab (Ab (Aa ?_))))
 refine pM ?_
 refine Ah Tryz.func35 fn35 fb35 (Py g r S _ _ _ _ _ _ D.l μ _ hB hM hF hok.rise hok.few) rfl ?_
 rintro v2 w2 ⟨⟨qn,cn,rfl,hN⟩,hE2⟩
 have hX:=hX.ext hE2
 have hB:=hB.ext hE2
 have hM:=hM.ext hE2
 have hF:=hF.ext hE2
 have hN:=hN.sl
 refine p1 (Aj u74 rfl) ?_
 refine pM (Ac (t_n (Am ?_)))
 have hfew:=hok.few
 have hroom:=hok.room
 have hmost:=hok.most
 have hn1:=hst.cap
 have hn2:=hst.fit
 refine Bg (ι:=Nat×(ByteArray→Option Raw)×Option Addr×Nat×Nat) [1,5,6,7,8,9,10,11,20,21,22,23,24,25,26,27,28,29,30,31,32,33,34,35,36,37,38,39,40,41,42,43,44,45,46,47,48,49,50,51,52,53,54,55,56,57,58,59,60,61,62,63,64,65,66,67,68,69,70,71,72,73,74,75,76,77,78,79,80,81,82,83,84,85,86,87,88,89,90,91,92,93,94,95,96,97,98,99,100,101,102,103,104,105,106,107,108,109,110,111,112,113,114] (fun (k,μ1,pst,nst,cst)=>[(1,.slice pst nst cst),(20,.int .i64 (k:Int))]) (fun (k,μ1,pst,nst,cst) w'=>ModS S ED w w'∧(k≤D.l.length∧Blk w' g #[.int .i64 (D.most:Int),.int .i64 ((usedL (wakeL (D.l.take k) st).1:Nat):Int),.map (some r),.int .i64 (D.steps:Int),.int .i64 D.left,.bool D.done,.bool D.down] tDisk∧Mp kkStr vFile 0 0 w' r μ1∧Fls (fun j=>S j∨w.heap.size≤j) w' μ1 (midL D.l k st)∧Sl kStr 9 0 w' qn D.l.length cn (D.l.map (·.1))∧Out S w pst nst cst (wakeL (D.l.take k) st).2)) (fun (k,μ1,pst,nst,cst)=>D.l.length - k) ((0,μ,p,n,c)) ⟨rfl,rfl,trivial⟩ ⟨hX,⟨Nat.zero_le _,hB,hM,hF.mono (fun _ _ h => .inl h),hN,hst⟩⟩ ?_
 rintro⟨k,μ1,pst,nst,cst⟩ GL0 w3 ⟨hE3,hk,hB,hM,hF,hN,hst1⟩
 have hX:=hE3
 refine Ab (Aa ?_)
 refine p1 (Bx rfl rfl) ?_
 refine Ac (t_n (Ab ?_))
 refine As rfl (fun hc21=>?_) (fun hc21=>?_)
 ·refine Ai (t_n (Ab (Am (Ab (Aa ?_)))))
  refine p1 (C5 u74 sz9 rfl rfl (hN.adr Iq (by omega)) (by omega)) ?_
  obtain⟨xf,hx⟩:∃ x,D.l.getD k default=x:=⟨_,rfl⟩
  have hkl:k<D.l.length:=by omega
  have hnm:(D.l.map (·.1)).getD k ByteArray.empty=xf.1:=by rw[← hx,List.getD_eq_getElem?_getD,List.getElem?_map,List.getD_eq_getElem?_getD,List.getElem?_eq_getElem hkl];rfl
  have hxm:xf∈D.l:=by rw[← hx,List.getD_eq_getElem?_getD,List.getElem?_eq_getElem hkl];exact List.getElem_mem _
  have hsafe:=hok.safe xf hxm
  obtain⟨hmid,hasc,hins,hst2,hus⟩:=Abj hkl st xf hx hok.rise
  have hxu:xf.2.1.length≤usedL D.l:=by have:=Ga hok xf.1;have e:=Jc hok.rise hxm;unfold getF ascF at this;rw[e] at this;exact this.1
  refine p1 ((Ae un9 rfl (hN.strAt _ (by omega))).cast (by rw[hnm])) ?_
  refine pA (Ac (t_n (Ab (Aa ?_))))
  refine pM ?_
  refine p1 (Af rfl) ?_
  refine p1 (Ad Ct sz100 rfl) ?_
  refine p1 (Ae un100 rfl (hB.cell (rfl))) ?_
  refine pM ?_
  obtain⟨⟨p0,n0,c0,s0⟩,hr0⟩:∃ x:Raw,x=(μ1 xf.1).getD raw0:=⟨_,rfl⟩
  obtain⟨hF0,hs0⟩:=hF.get xf.1
  rw[← hr0] at hF0 hs0
  simp only at hF0 hs0
  rw[hasc] at hF0 hs0
  simp only[Option.getD_some] at hF0 hs0
  subst hs0
  have hlen0:=hF0.len
  have hcap0:=hF0.cap
  refine p1 (((lookF u100 zr113 (Ce u9) hM xf.1 rfl rfl).1).cast (by rw[← hr0];rfl:_=Value.agg #[.slice p0 n0 c0,.int .i64 (xf.2.2:Int)])) ?_
  have hXs:=hX.size
  refine A6 zr113 ?_
  intro w4 g6 hN6
  have hE4:=hN6.ext
  have hX:=hX.ext hE4
  have hB:=hB.ext hE4
  have hM:=hM.ext hE4
  have hF:=hF.ext hE4
  have hN:=hN.ext hE4
  have hB6:=hN6.blk
  have hF0:=hF0.ext hN6.ext
  refine Az rfl (by conv=>lhs;whnf) (by simp[Value.oneCell']) (by exact sz113) hB6 (by rfl) ?_
  intro w5 hP5
  have hX:=hX.put hP5 (⟨.inr (by rw[hN6.g_eq];exact hXs),by decide⟩)
  have hB:=hB.one hP5.one (by decide)
  have hM:=hM.mod (hP5.mod 0 (Nat.zero_le _)) (Nat.zero_le _) (by decide)
  have hF:=hF.one hP5.one (by decide)
  have hN:=hN.oneT hP5.one (by decide)
  have hB6:=hP5.blk
  refine Ac (t_n (Ab (Aa ?_)))
  have hF0:=(hF.get xf.1).1
  rw[hasc,← hr0] at hF0
  simp only[Option.getD_some] at hF0
  refine p1 (Ad Dw sz23 rfl) ?_
  refine p1 (Ae un23 rfl (hB6.cell (rfl))) ?_
  refine p1 (Ad Th sz3 rfl) ?_
  refine p1 (Ae un3 rfl (hB6.cell (rfl))) ?_
  refine p1 (D8 u23 sz5 rfl rfl (by omega)) ?_
  obtain⟨B0,hB0⟩:∃ B0,B0=w5.heap.size:=⟨_,rfl⟩
  have hBp:=hB
  have hMp:=hM
  have hFp:=hF
  have hNp:=hN
  have hB0s:w.heap.size≤B0:=by rw[hB0];exact hX.size
  have hlo:∀ j,p0=some ⟨j,0,none⟩→j<B0:=fun j hj=>by rw[hB0];exact(hF0.inS hj).2
  refine Ah Tryz.func58 fn58 fb58 (Bz _ _ _ _ _ _ _ (hF0.take xf.2.2 (by omega)).sl (by omega)) rfl ?_
  rintro v6 w6 ⟨⟨qk,ck,rfl,hO⟩,hE6⟩
  have hX:=hX.ext hE6
  have hB:=hB.ext hE6
  have hM:=hM.ext hE6
  have hF:=hF.ext hE6
  have hN:=hN.ext hE6
  have hB6:=hB6.ext hE6
  rw[← hB0] at hO
  have hK:=FB.ofOwn (S:=fun j=>B0≤j) hO (fun _ _ h=>h)
  have hMC:=Mod.ofExt (B:=B0) (t:=5) hE6
  have hF0:=hF0.ext hE6
  refine pA (Ac (t_n (Ab (Aa ?_))))
  refine pM ?_
  refine p1 (Aj u23 rfl) ?_
  refine pA (Ac (t_n (Ab (Ab (Aa ?_)))))
  refine p1 (Ad Th sz3 rfl) ?_
  refine p1 (Ae un3 rfl (hB6.cell (rfl))) ?_
  refine pA (Ac (t_n (Am ?_)))
  refine Bg (ι:=Nat×Nat×Nat×List UInt8×Option Addr×Nat×List UInt8×Option Addr×Nat×Nat) [1,7,8,9,10,11,40,41,42,43,44,45,46,47,48,49,50,51,52,53,54,55,56,57,58,59,60,61,62,63,64,65,66,67,68,69,70,71,72,73,74,75,76,77,78,79,80,81,82,83,84,85,86,87,88,89,90,91,92,93,94,95] (fun (fu,a,m,kept,qk,ck,st1,pst,nst,cst)=>[(1,.slice pst nst cst),(7,.slice qk a ck),(8,.int .i64 (m:Int)),(9,.int .i64 (a:Int))]) (fun (fu,a,m,kept,qk,ck,st1,pst,nst,cst) w'=>ModS S ED w w'∧(Mod B0 5 w5 w'∧FB (fun j=>B0≤j) w' qk a ck kept∧Blk w' g6 #[.slice p0 n0 c0,.int .i64 (xf.2.2:Int)] 113∧FB (fun j=>S j∨w.heap.size≤j) w' p0 n0 c0 xf.2.1∧a≤xf.2.1.length∧m≤a∧xf.2.1.length - a<fu∧F5 xf.2.1 fu a m kept st1=wakeR xf.2 (wakeL (D.l.take k) st).2∧Out S w pst nst cst st1)) (fun (fu,a,m,kept,qk,ck,st1,pst,nst,cst)=>xf.2.1.length - a) ((xf.2.1.length+1,xf.2.2,xf.2.2,xf.2.1.take xf.2.2,qk,ck,(wakeL (D.l.take k) st).2,pst,nst,cst)) ⟨rfl,rfl,rfl,rfl,trivial⟩ ⟨hX,⟨hMC,hK,hB6,hF0,hsafe,Nat.le_refl _,by omega,rfl,hst1⟩⟩ ?_
  rintro⟨fu,a,m,kept,qk,ck,st1,pst,nst,cst⟩ GL2 w7 ⟨hE7,hMC,hK,hB6,hF0,ha,hm,hfu,hpe,hst1⟩
  have hX:=hE7
  have hsl:=hst1.len
  have hsc:=hst1.cap
  have hsf:=hst1.fit
  have hkl2:=hK.len
  have hkc:=hK.cap
  refine Ab (Ab (Aa ?_))
  refine pM ?_
  refine p1 (Ad Dw sz23 rfl) ?_
  refine p1 (Ae un23 rfl (hB6.cell (rfl))) ?_
  refine p1 (Aj u23 rfl) ?_
  refine p1 (Bx rfl rfl) ?_
  refine Ac (t_n ?_)
  refine As rfl (fun hc44=>?_) (fun hc44=>?_)
  ·have hlt:a<xf.2.1.length:=by omega
   obtain⟨hE1_,hE2_⟩:=Gh hlt
   obtain⟨fu2,hfu2,hpe2⟩:=Uu (n:=m) (kept:=kept) (st:=st1) hlt hfu
   refine Ai (t_n (Am (Ab (Aa ?_))))
   refine pM (pM ?_)
   refine p1 (N5 rfl rfl (by omega) (by omega)) ?_
   refine p1 (Cz rfl rfl (Ag (by omega) (by omega))) ?_
   refine p1 (Aw rfl rfl (Ag (by omega) (by omega))) ?_
   refine p1 (Ad Dw sz23 rfl) ?_
   refine p1 (Ae un23 rfl (hB6.cell (rfl))) ?_
   refine p1 (Aj u23 rfl) ?_
   refine p1 ((Ty rfl rfl).cast (congrArg (Value.int .i64) (by unfold A8;split <;> omega:_=((A8 xf.2.1 a:Nat):Int)))) ?_
   refine pA (Ac (t_n (Ab (Aa ?_))))
   refine pA (Ac (t_n (Ab (Ab (Aa ?_)))))
   refine pM ?_
   refine p1 (Aj u23 rfl) ?_
   refine p1 (C0 rfl rfl) ?_
   refine Ac (t_n ?_)
   refine As rfl (fun hc56=>?_) (fun hc56=>?_)
   ·obtain⟨sb,st3,hs1⟩:∃ s t,st1=s :: t:=by cases st1 with | nil=>exact absurd hsl (by simp only[List.length_nil];omega) | cons s t=>exact⟨s,t,rfl⟩
    have hs8:=sb.toNat_lt
    have hsB:=(hst1.modS hX).sl
    have htl:=hst1.tail (by omega)
    have hby:((st1.getD (0:Int).toNat 0).toNat:Int)=(sb.toNat:Int):=by rw[hs1];rfl
    refine Ab (Aa ?_)
    refine pM ?_
    refine p1 (Fd u23 sz5 rfl rfl (hsB.adr Bw (by omega)) (by omega) (by omega)) ?_
    refine p1 ((Ae un5 rfl (hsB.byteAtI 0 (by omega) (by omega))).cast (congrArg (Value.int .u8) hby)) ?_
    refine p1 (Cs u3 us5 rfl (Ag (by omega) (by omega))) ?_
    refine pM (pM ?_)
    refine p1 (Cz rfl rfl (Ag (by omega) (by omega))) ?_
    refine p1 (Aw rfl rfl (Ag (by omega) (by omega))) ?_
    refine p1 ((N5 rfl rfl (by omega) (by omega)).cast (congrArg (Value.int .i64) (by rw[show (A8 xf.2.1 a:Int) - (a:Int)+1=((A8 xf.2.1 a - a+1:Nat):Int) from by omega,← Int.natCast_emod]:_=((sb.toNat % (A8 xf.2.1 a - a+1):Nat):Int)))) ?_
    refine pA (Ac (t_n (Ab (Ab (Aa ?_)))))
    refine pM ?_
    refine p1 (Fd u23 sz5 rfl rfl (hsB.adr Bw (by omega)) (by omega) (by omega)) ?_
    refine p1 ((Ae un5 rfl (hsB.byteAtI 0 (by omega) (by omega))).cast (congrArg (Value.int .u8) hby)) ?_
    refine p1 (Bn rfl rfl) ?_
    refine Ac (t_n ?_)
    refine As rfl (fun hc69=>?_) (fun hc69=>?_)
    ·have hpt:Ay xf.2.1 a st1=A8 xf.2.1 a - a:=by rw[hs1];exact if_pos (UInt8.toNat_inj.1 (show sb.toNat=255 by omega))
     refine Aa ?_
     refine pM (pM ?_)
     refine p1 ((Cz rfl rfl (Ag (by omega) (by omega))).cast (congrArg (Value.int .i64) (by omega:_=((A8 xf.2.1 a - a:Nat):Int)))) ?_
     refine pA (Ac (t_n (Aa ?_)))
     refine pM ?_
     refine p1 (Jd u23 sz5 rfl rfl (by omega) (by omega)) ?_
     refine pA (Ac (t_n (Ab ?_)))
     have hTle:=Gg xf.2.1 a st1
     refine Aa ?_
     refine pM ?_
     refine p1 (Ad Dw sz23 rfl) ?_
     refine p1 (Ae un23 rfl (hB6.cell (rfl))) ?_
     refine pM (pM (pM ?_))
     refine p1 ((Aw rfl rfl (Ag (by omega) (by omega))).cast (congrArg (Value.int .i64) (by rw[hpt];omega:_=((a+Ay xf.2.1 a st1:Nat):Int)))) ?_
     refine p1 ((Ht u23 sz5 rfl rfl rfl (by omega) (by omega) (by omega)).cast (by simp only[Int.toNat_natCast,Nat.add_sub_cancel_left]:_=Value.slice (adw p0 c0 a 1) (Ay xf.2.1 a st1) (c0 - a))) ?_
     have hsrc:Sl kByte 5 0 w7 (adw p0 c0 a 1) (Ay xf.2.1 a st1) (c0 - a) ((xf.2.1.drop a).take (Ay xf.2.1 a st1)):=(hF0.sl.dropI a (by omega)).take _ (by omega)
     have hBX:∀ j,B0≤j→w.heap.size≤j:=fun j h=>Nat.le_trans hB0s h
     have hBc:=hMC.size
     refine Jy ((xf.2.1.drop a).take (Ay xf.2.1 a st1)) u23 inf5 rfl rfl hK (by rw[← Bp];exact C6 u23 hsrc (by decide)) hsrc.len (by omega) ?_
     intro pz cz w8 hK1 hpp hO2 hKo
     have hMa:Mod B0 5 w7 w8:=hO2.mod hK
     have hMC:=hMC.trans hMa
     have hX:=hX.mod hMa hB0s
     have hB6:=hB6.mod hMa (by decide)
     have hF0:=hF0.modB hMa hlo
     have hK:=hK1.mono (S':=fun j=>B0≤j) (fun _ _ h=>h.elim id fun h=>Nat.le_trans (by rw[hB0];exact hBc) h)
     skip
     refine pA (Ac (t_n (Ab (Ab (Aa ?_)))))
     refine pM ?_
     refine p1 (C0 rfl rfl) ?_
     refine Ac (t_n ?_)
     refine As rfl (fun hc85=>?_) (fun hc85=>?_)
     ·have hif:(if 0<Ay xf.2.1 a st1 then a+Ay xf.2.1 a st1 else m)=a+Ay xf.2.1 a st1:=if_pos (by rw[hpt];omega)
      refine Aa ?_
      refine pM (pM ?_)
      refine p1 ((Aw rfl rfl (Ag (by omega) (by omega))).cast (congrArg (Value.int .i64) (by rw[hpt];omega:_=((a+Ay xf.2.1 a st1:Nat):Int)))) ?_
      refine pA (Ac (t_n (Ab (Aa ?_))))
      refine pM (pM (pM ?_))
      refine p1 (Aj u23 rfl) ?_
      refine p1 ((Cz rfl rfl (Ag (by omega) (by omega))).cast (congrArg (Value.int .i64) (by omega:_=((A8 xf.2.1 a - (a+Ay xf.2.1 a st1):Nat):Int)))) ?_
      have hBc:=hMC.size
      refine Gj u23 u3 inf5 rfl rfl hK (by omega) ?_
      intro pz2 cz2 w9 hK1 hpp2 hO3 hKo2
      have hMa:Mod B0 5 w8 w9:=hO3.mod hK
      have hMC:=hMC.trans hMa
      have hX:=hX.mod hMa hB0s
      have hB6:=hB6.mod hMa (by decide)
      have hF0:=hF0.modB hMa hlo
      have hK:=hK1.mono (S':=fun j=>B0≤j) (fun _ _ h=>h.elim id fun h=>Nat.le_trans (by rw[hB0];exact hBc) h)
      have hsz:a+Ay xf.2.1 a st1+(A8 xf.2.1 a - (a+Ay xf.2.1 a st1))=A8 xf.2.1 a:=by omega
      rw[hsz] at hK
      refine Lst.cast (congrArg (fun z=>fr _ (upd _ _ (Value.slice pz2 z cz2))) hsz.symm) ?_
      refine pA (Ac (t_n (Aa ?_)))
      refine pM (pA (Ac (b_n ?_)))
      rw[hpe2,hif] at hpe
      exact t_n (aK ((fu2,A8 xf.2.1 a,a+Ay xf.2.1 a st1,_,pz2,cz2,st1.tail,adw pst cst 1 1,nst - 1,cst - 1)) ⟨rfl,rfl,rfl,rfl,trivial⟩ ⟨⟨hX,⟨hMC,hK,hB6,hF0,hE2_,by omega,hfu2,hpe,htl⟩⟩,by(dsimp only;omega)⟩)
     have hif:(if 0<Ay xf.2.1 a st1 then a+Ay xf.2.1 a st1 else m)=m:=if_neg (by rw[hpt];omega)
     refine Ai (t_n (Ab (Aa ?_)))
     refine pM (pM (pM ?_))
     refine p1 (Aj u23 rfl) ?_
     refine p1 ((Cz rfl rfl (Ag (by omega) (by omega))).cast (congrArg (Value.int .i64) (by omega:_=((A8 xf.2.1 a - (a+Ay xf.2.1 a st1):Nat):Int)))) ?_
     have hBc:=hMC.size
     refine Gj u23 u3 inf5 rfl rfl hK (by omega) ?_
     intro pz2 cz2 w10 hK1 hpp2 hO3 hKo2
     have hMa:Mod B0 5 w8 w10:=hO3.mod hK
     have hMC:=hMC.trans hMa
     have hX:=hX.mod hMa hB0s
     have hB6:=hB6.mod hMa (by decide)
     have hF0:=hF0.modB hMa hlo
     have hK:=hK1.mono (S':=fun j=>B0≤j) (fun _ _ h=>h.elim id fun h=>Nat.le_trans (by rw[hB0];exact hBc) h)
     have hsz:a+Ay xf.2.1 a st1+(A8 xf.2.1 a - (a+Ay xf.2.1 a st1))=A8 xf.2.1 a:=by omega
     rw[hsz] at hK
     refine Lst.cast (congrArg (fun z=>fr _ (upd _ _ (Value.slice pz2 z cz2))) hsz.symm) ?_
     refine pA (Ac (t_n (Aa ?_)))
     refine pM (pA (Ac (b_n ?_)))
     rw[hpe2,hif] at hpe
     exact t_n (aK ((fu2,A8 xf.2.1 a,m,_,pz2,cz2,st1.tail,adw pst cst 1 1,nst - 1,cst - 1)) ⟨rfl,rfl,rfl,rfl,trivial⟩ ⟨⟨hX,⟨hMC,hK,hB6,hF0,hE2_,by omega,hfu2,hpe,htl⟩⟩,by(dsimp only;omega)⟩)
    have hpt:Ay xf.2.1 a st1=sb.toNat % (A8 xf.2.1 a - a+1):=by rw[hs1];exact if_neg (fun e=>hc69 (by rw[e];rfl))
    refine Ai (t_n (Aa ?_))
    refine pM ?_
    refine p1 (Jd u23 sz5 rfl rfl (by omega) (by omega)) ?_
    refine pA (Ac (t_n (Ab ?_)))
    have hTle:=Gg xf.2.1 a st1
    refine Aa ?_
    refine pM ?_
    refine p1 (Ad Dw sz23 rfl) ?_
    refine p1 (Ae un23 rfl (hB6.cell (rfl))) ?_
    refine pM (pM (pM ?_))
    refine p1 ((Aw rfl rfl (Ag (by omega) (by omega))).cast (congrArg (Value.int .i64) (by rw[hpt];omega:_=((a+Ay xf.2.1 a st1:Nat):Int)))) ?_
    refine p1 ((Ht u23 sz5 rfl rfl rfl (by omega) (by omega) (by omega)).cast (by simp only[Int.toNat_natCast,Nat.add_sub_cancel_left]:_=Value.slice (adw p0 c0 a 1) (Ay xf.2.1 a st1) (c0 - a))) ?_
    have hsrc:Sl kByte 5 0 w7 (adw p0 c0 a 1) (Ay xf.2.1 a st1) (c0 - a) ((xf.2.1.drop a).take (Ay xf.2.1 a st1)):=(hF0.sl.dropI a (by omega)).take _ (by omega)
    have hBX:∀ j,B0≤j→w.heap.size≤j:=fun j h=>Nat.le_trans hB0s h
    have hBc:=hMC.size
    refine Jy ((xf.2.1.drop a).take (Ay xf.2.1 a st1)) u23 inf5 rfl rfl hK (by rw[← Bp];exact C6 u23 hsrc (by decide)) hsrc.len (by omega) ?_
    intro pz cz w11 hK1 hpp hO2 hKo
    have hMa:Mod B0 5 w7 w11:=hO2.mod hK
    have hMC:=hMC.trans hMa
    have hX:=hX.mod hMa hB0s
    have hB6:=hB6.mod hMa (by decide)
    have hF0:=hF0.modB hMa hlo
    have hK:=hK1.mono (S':=fun j=>B0≤j) (fun _ _ h=>h.elim id fun h=>Nat.le_trans (by rw[hB0];exact hBc) h)
    skip
    refine pA (Ac (t_n (Ab (Ab (Aa ?_)))))
    refine pM ?_
    refine p1 (C0 rfl rfl) ?_
    refine Ac (t_n ?_)
    refine As rfl (fun hc85=>?_) (fun hc85=>?_)
    ·have hif:(if 0<Ay xf.2.1 a st1 then a+Ay xf.2.1 a st1 else m)=a+Ay xf.2.1 a st1:=if_pos (by rw[hpt];omega)
     refine Aa ?_
     refine pM (pM ?_)
     refine p1 ((Aw rfl rfl (Ag (by omega) (by omega))).cast (congrArg (Value.int .i64) (by rw[hpt];omega:_=((a+Ay xf.2.1 a st1:Nat):Int)))) ?_
     refine pA (Ac (t_n (Ab (Aa ?_))))
     refine pM (pM (pM ?_))
     refine p1 (Aj u23 rfl) ?_
     refine p1 ((Cz rfl rfl (Ag (by omega) (by omega))).cast (congrArg (Value.int .i64) (by omega:_=((A8 xf.2.1 a - (a+Ay xf.2.1 a st1):Nat):Int)))) ?_
     have hBc:=hMC.size
     refine Gj u23 u3 inf5 rfl rfl hK (by omega) ?_
     intro pz2 cz2 w12 hK1 hpp2 hO3 hKo2
     have hMa:Mod B0 5 w11 w12:=hO3.mod hK
     have hMC:=hMC.trans hMa
     have hX:=hX.mod hMa hB0s
     have hB6:=hB6.mod hMa (by decide)
     have hF0:=hF0.modB hMa hlo
     have hK:=hK1.mono (S':=fun j=>B0≤j) (fun _ _ h=>h.elim id fun h=>Nat.le_trans (by rw[hB0];exact hBc) h)
     have hsz:a+Ay xf.2.1 a st1+(A8 xf.2.1 a - (a+Ay xf.2.1 a st1))=A8 xf.2.1 a:=by omega
     rw[hsz] at hK
     refine Lst.cast (congrArg (fun z=>fr _ (upd _ _ (Value.slice pz2 z cz2))) hsz.symm) ?_
     refine pA (Ac (t_n (Aa ?_)))
     refine pM (pA (Ac (b_n ?_)))
     rw[hpe2,hif] at hpe
     exact t_n (aK ((fu2,A8 xf.2.1 a,a+Ay xf.2.1 a st1,_,pz2,cz2,st1.tail,adw pst cst 1 1,nst - 1,cst - 1)) ⟨rfl,rfl,rfl,rfl,trivial⟩ ⟨⟨hX,⟨hMC,hK,hB6,hF0,hE2_,by omega,hfu2,hpe,htl⟩⟩,by(dsimp only;omega)⟩)
    have hif:(if 0<Ay xf.2.1 a st1 then a+Ay xf.2.1 a st1 else m)=m:=if_neg (by rw[hpt];omega)
    refine Ai (t_n (Ab (Aa ?_)))
    refine pM (pM (pM ?_))
    refine p1 (Aj u23 rfl) ?_
    refine p1 ((Cz rfl rfl (Ag (by omega) (by omega))).cast (congrArg (Value.int .i64) (by omega:_=((A8 xf.2.1 a - (a+Ay xf.2.1 a st1):Nat):Int)))) ?_
    have hBc:=hMC.size
    refine Gj u23 u3 inf5 rfl rfl hK (by omega) ?_
    intro pz2 cz2 w13 hK1 hpp2 hO3 hKo2
    have hMa:Mod B0 5 w11 w13:=hO3.mod hK
    have hMC:=hMC.trans hMa
    have hX:=hX.mod hMa hB0s
    have hB6:=hB6.mod hMa (by decide)
    have hF0:=hF0.modB hMa hlo
    have hK:=hK1.mono (S':=fun j=>B0≤j) (fun _ _ h=>h.elim id fun h=>Nat.le_trans (by rw[hB0];exact hBc) h)
    have hsz:a+Ay xf.2.1 a st1+(A8 xf.2.1 a - (a+Ay xf.2.1 a st1))=A8 xf.2.1 a:=by omega
    rw[hsz] at hK
    refine Lst.cast (congrArg (fun z=>fr _ (upd _ _ (Value.slice pz2 z cz2))) hsz.symm) ?_
    refine pA (Ac (t_n (Aa ?_)))
    refine pM (pA (Ac (b_n ?_)))
    rw[hpe2,hif] at hpe
    exact t_n (aK ((fu2,A8 xf.2.1 a,m,_,pz2,cz2,st1.tail,adw pst cst 1 1,nst - 1,cst - 1)) ⟨rfl,rfl,rfl,rfl,trivial⟩ ⟨⟨hX,⟨hMC,hK,hB6,hF0,hE2_,by omega,hfu2,hpe,htl⟩⟩,by(dsimp only;omega)⟩)
   have hs0:st1=[]:=List.eq_nil_of_length_eq_zero (by omega)
   have hpt:Ay xf.2.1 a st1=0:=by rw[hs0];rfl
   have htl:st1.tail=st1:=by rw[hs0];rfl
   refine Ai (t_n (Ab ?_))
   have hTle:=Gg xf.2.1 a st1
   refine Aa ?_
   refine pM ?_
   refine p1 (Ad Dw sz23 rfl) ?_
   refine p1 (Ae un23 rfl (hB6.cell (rfl))) ?_
   refine pM (pM (pM ?_))
   refine p1 ((Aw rfl rfl (Ag (by omega) (by omega))).cast (congrArg (Value.int .i64) (by rw[hpt];omega:_=((a+Ay xf.2.1 a st1:Nat):Int)))) ?_
   refine p1 ((Ht u23 sz5 rfl rfl rfl (by omega) (by omega) (by omega)).cast (by simp only[Int.toNat_natCast,Nat.add_sub_cancel_left]:_=Value.slice (adw p0 c0 a 1) (Ay xf.2.1 a st1) (c0 - a))) ?_
   have hsrc:Sl kByte 5 0 w7 (adw p0 c0 a 1) (Ay xf.2.1 a st1) (c0 - a) ((xf.2.1.drop a).take (Ay xf.2.1 a st1)):=(hF0.sl.dropI a (by omega)).take _ (by omega)
   have hBX:∀ j,B0≤j→w.heap.size≤j:=fun j h=>Nat.le_trans hB0s h
   have hBc:=hMC.size
   refine Jy ((xf.2.1.drop a).take (Ay xf.2.1 a st1)) u23 inf5 rfl rfl hK (by rw[← Bp];exact C6 u23 hsrc (by decide)) hsrc.len (by omega) ?_
   intro pz cz w14 hK1 hpp hO2 hKo
   have hMa:Mod B0 5 w7 w14:=hO2.mod hK
   have hMC:=hMC.trans hMa
   have hX:=hX.mod hMa hB0s
   have hB6:=hB6.mod hMa (by decide)
   have hF0:=hF0.modB hMa hlo
   have hK:=hK1.mono (S':=fun j=>B0≤j) (fun _ _ h=>h.elim id fun h=>Nat.le_trans (by rw[hB0];exact hBc) h)
   skip
   refine pA (Ac (t_n (Ab (Ab (Aa ?_)))))
   refine pM ?_
   refine p1 (C0 rfl rfl) ?_
   refine Ac (t_n ?_)
   refine As rfl (fun hc85=>?_) (fun hc85=>?_)
   ·have hif:(if 0<Ay xf.2.1 a st1 then a+Ay xf.2.1 a st1 else m)=a+Ay xf.2.1 a st1:=if_pos (by rw[hpt];omega)
    refine Aa ?_
    refine pM (pM ?_)
    refine p1 ((Aw rfl rfl (Ag (by omega) (by omega))).cast (congrArg (Value.int .i64) (by rw[hpt];omega:_=((a+Ay xf.2.1 a st1:Nat):Int)))) ?_
    refine pA (Ac (t_n (Ab (Aa ?_))))
    refine pM (pM (pM ?_))
    refine p1 (Aj u23 rfl) ?_
    refine p1 ((Cz rfl rfl (Ag (by omega) (by omega))).cast (congrArg (Value.int .i64) (by omega:_=((A8 xf.2.1 a - (a+Ay xf.2.1 a st1):Nat):Int)))) ?_
    have hBc:=hMC.size
    refine Gj u23 u3 inf5 rfl rfl hK (by omega) ?_
    intro pz2 cz2 w15 hK1 hpp2 hO3 hKo2
    have hMa:Mod B0 5 w14 w15:=hO3.mod hK
    have hMC:=hMC.trans hMa
    have hX:=hX.mod hMa hB0s
    have hB6:=hB6.mod hMa (by decide)
    have hF0:=hF0.modB hMa hlo
    have hK:=hK1.mono (S':=fun j=>B0≤j) (fun _ _ h=>h.elim id fun h=>Nat.le_trans (by rw[hB0];exact hBc) h)
    have hsz:a+Ay xf.2.1 a st1+(A8 xf.2.1 a - (a+Ay xf.2.1 a st1))=A8 xf.2.1 a:=by omega
    rw[hsz] at hK
    refine Lst.cast (congrArg (fun z=>fr _ (upd _ _ (Value.slice pz2 z cz2))) hsz.symm) ?_
    refine pA (Ac (t_n (Aa ?_)))
    refine pM (pA (Ac (b_n ?_)))
    rw[hpe2,hif] at hpe
    exact t_n (aK ((fu2,A8 xf.2.1 a,a+Ay xf.2.1 a st1,_,pz2,cz2,st1.tail,pst,nst,cst)) ⟨rfl,rfl,rfl,rfl,trivial⟩ ⟨⟨hX,⟨hMC,hK,hB6,hF0,hE2_,by omega,hfu2,hpe,by rw[htl];exact hst1⟩⟩,by(dsimp only;omega)⟩)
   have hif:(if 0<Ay xf.2.1 a st1 then a+Ay xf.2.1 a st1 else m)=m:=if_neg (by rw[hpt];omega)
   refine Ai (t_n (Ab (Aa ?_)))
   refine pM (pM (pM ?_))
   refine p1 (Aj u23 rfl) ?_
   refine p1 ((Cz rfl rfl (Ag (by omega) (by omega))).cast (congrArg (Value.int .i64) (by omega:_=((A8 xf.2.1 a - (a+Ay xf.2.1 a st1):Nat):Int)))) ?_
   have hBc:=hMC.size
   refine Gj u23 u3 inf5 rfl rfl hK (by omega) ?_
   intro pz2 cz2 w16 hK1 hpp2 hO3 hKo2
   have hMa:Mod B0 5 w14 w16:=hO3.mod hK
   have hMC:=hMC.trans hMa
   have hX:=hX.mod hMa hB0s
   have hB6:=hB6.mod hMa (by decide)
   have hF0:=hF0.modB hMa hlo
   have hK:=hK1.mono (S':=fun j=>B0≤j) (fun _ _ h=>h.elim id fun h=>Nat.le_trans (by rw[hB0];exact hBc) h)
   have hsz:a+Ay xf.2.1 a st1+(A8 xf.2.1 a - (a+Ay xf.2.1 a st1))=A8 xf.2.1 a:=by omega
   rw[hsz] at hK
   refine Lst.cast (congrArg (fun z=>fr _ (upd _ _ (Value.slice pz2 z cz2))) hsz.symm) ?_
   refine pA (Ac (t_n (Aa ?_)))
   refine pM (pA (Ac (b_n ?_)))
   rw[hpe2,hif] at hpe
   exact t_n (aK ((fu2,A8 xf.2.1 a,m,_,pz2,cz2,st1.tail,pst,nst,cst)) ⟨rfl,rfl,rfl,rfl,trivial⟩ ⟨⟨hX,⟨hMC,hK,hB6,hF0,hE2_,by omega,hfu2,hpe,by rw[htl];exact hst1⟩⟩,by(dsimp only;omega)⟩)
  have hnlt:¬ a<xf.2.1.length:=by omega
  rw[O3 hnlt] at hpe
  have hw1:wakeF xf.2 (wakeL (D.l.take k) st).2=(kept.take m,m):=by unfold wakeF;rw[← hpe]
  have hw2:(wakeR xf.2 (wakeL (D.l.take k) st).2).2.2=st1:=by rw[← hpe]
  rw[hw2] at hst2
  rw[hw1] at hins hus
  refine Ba (t_e (t_e (Bu (t_n (Ab ?_)))))
  refine Cp 10 mixed (by kernel_rfl) ?_
  intro w17 hE17
  have hX:=hX.ext hE17
  have hMC:=hMC.ext hE17
  have hK:=hK.ext hE17
  refine s1 (Al (by conv=>lhs;whnf)) ?_
  refine s1 (Af rfl) ?_
  refine s1 (Ad Ct sz100 rfl) ?_
  refine s1 (Ae un100 rfl ((hBp.mod hMC (by decide)).cell rfl)) ?_
  refine s1 (Al (by conv=>lhs;whnf)) ?_
  refine s1 (Al (by conv=>lhs;whnf)) ?_
  refine s1 (Al (by conv=>lhs;whnf)) ?_
  refine s1 (D8 u23 sz5 rfl rfl (by omega)) ?_
  refine s1 (Al (by conv=>lhs;whnf)) ?_
  refine s1 (Oa pl113 (by conv=>lhs;whnf) (by conv=>lhs;whnf) rfl rfl) ?_
  refine Ca ?_
  have hB:=hBp.mod hMC (by decide)
  have hM:=hMp.mod hMC (Nat.zero_le _) (by decide)
  have hF:=hFp.modB hMC (by rw[hB0];exact Nat.le_refl _)
  have hN:=hNp.mod hMC (Nat.zero_le _) (by decide)
  have hap:=Z6 hFp (hK.take m (by omega)) (B:=B0) (fun _ h=>h) (by rw[hB0];exact Nat.le_refl _)
  have hKm:=(hK.take m (by omega)).mono (S':=(fun j=>S j∨w.heap.size≤j)) (fun _ _ h => .inr (Nat.le_trans hB0s h))
  have hMt18:=hM.tyOf
  refine Ej (a:=xf.1) (b:=(qk,m,ck,m)) u100 (Ce u9) rfl rfl rfl hM rfl (Nat.zero_le _) (by decide) ?_
  intro w18 hM hMm18 hne18
  have hO18:=One.ofMod hMm18 hMt18 hne18
  have hX:=hX.one hO18 ⟨.inl hSr,by decide⟩
  have hB:=hB.one hO18 (by decide)
  have hF:=hF.one hO18 (by decide)
  have hN:=hN.oneT hO18 (by decide)
  have hKm:=hKm.one hO18 (by decide)
  have hF:=hF.put (Km hok.rise (Rh D.l k st)) xf.1 (qk,m,ck,m) (kept.take m,m) rfl hKm (fun k' y _ hy=>hap k' y hy)
  rw[hins] at hF
  refine Ac (t_n (Aa ?_))
  refine pM ?_
  refine p1 (Af rfl) ?_
  refine p1 (Ad Eq sz3 rfl) ?_
  refine p1 (Ae un3 rfl (hB.cell (rfl))) ?_
  refine pM ?_
  have hul:=(Kf (l:=D.l.take k) (fun y hy=>hok.safe y (List.mem_of_mem_take hy)) st).1
  have hul2:=V8 D.l k
  refine p1 ((Aw rfl rfl (Ag (by omega) (by omega))).cast (congrArg (Value.int .i64) (by rw[hus];simp only[List.length_take];omega:_=((usedL (wakeL (D.l.take (k+1)) st).1:Nat):Int)))) ?_
  refine p1 (Af rfl) ?_
  refine p1 (Ad Eq sz3 rfl) ?_
  refine Ar rfl (by conv=>lhs;whnf) rfl rfl sz3 hB (by simp) ?_
  intro w19 hP19
  have hX:=hX.put hP19 (⟨.inl hSg,by decide⟩)
  have hM:=hM.mod (hP19.mod 0 (Nat.zero_le _)) (Nat.zero_le _) (by decide)
  have hF:=hF.one hP19.one (by decide)
  have hB:=hP19.blk
  try simp only[List.setIfInBounds_toArray,List.set_cons_zero,List.set_cons_succ] at hB
  have hN:=hN.oneT hP19.one (by decide)
  refine Ac (b_n (t_n (Aa ?_)))
  refine p1 (Aw rfl rfl (Ag (by omega) (by omega))) ?_
  refine pM (Ac ?_)
  refine t_n (At.mk ((k+1,mset μ1 xf.1 (some (qk,m,ck,m)),pst,nst,cst)) (by repeat (first | exact Agr.refl _ _ | exact Agr.hav _ _ _ | refine Agr.upd rfl ?_ | refine Agr.updR rfl ?_ | refine Agr.updL ?_ _ rfl | refine Agr.hav' rfl ?_)) ⟨rfl,rfl,trivial⟩ ?_)
  exact⟨⟨hX,⟨by omega,hB,hM,hF,hN,by rw[hst2];exact hst1⟩⟩,by show D.l.length - (k+1)<D.l.length - k;omega⟩
 have hke:D.l.length≤k:=by omega
 rw[Adv hke] at hF
 rw[List.take_of_length_le hke] at hB
 refine Ba (t_e (t_e (Bu (t_n (Aa ?_)))))
 refine pM (pM (pM ?_))
 refine p1 (Af rfl) ?_
 refine p1 (Ad H7 sz4 rfl) ?_
 refine Ar rfl (by conv=>lhs;whnf) rfl rfl sz4 hB (by simp) ?_
 intro w20 hP20
 have hX:=hX.put hP20 (⟨.inl hSg,by decide⟩)
 have hB:=hP20.blk
 try simp only[List.setIfInBounds_toArray,List.set_cons_zero,List.set_cons_succ] at hB
 have hM:=hM.mod (hP20.mod 0 (Nat.zero_le _)) (Nat.zero_le _) (by decide)
 have hF:=hF.one hP20.one (by decide)
 refine p1 (Af rfl) ?_
 refine p1 (Ad Gb sz3 rfl) ?_
 refine Ar rfl (by conv=>lhs;whnf) rfl rfl sz3 hB (by simp) ?_
 intro w21 hP21
 have hX:=hX.put hP21 (⟨.inl hSg,by decide⟩)
 have hB:=hP21.blk
 try simp only[List.setIfInBounds_toArray,List.set_cons_zero,List.set_cons_succ] at hB
 have hM:=hM.mod (hP21.mod 0 (Nat.zero_le _)) (Nat.zero_le _) (by decide)
 have hF:=hF.one hP21.one (by decide)
 refine p1 (Af rfl) ?_
 refine p1 (Ad Tj sz4 rfl) ?_
 refine Ar rfl (by conv=>lhs;whnf) rfl rfl sz4 hB (by simp) ?_
 intro w22 hP22
 have hX:=hX.put hP22 (⟨.inl hSg,by decide⟩)
 have hB:=hP22.blk
 try simp only[List.setIfInBounds_toArray,List.set_cons_zero,List.set_cons_succ] at hB
 have hM:=hM.mod (hP22.mod 0 (Nat.zero_le _)) (Nat.zero_le _) (by decide)
 have hF:=hF.one hP22.one (by decide)
 refine Ac ?_
 refine end0n rfl ?_
 first
   | exact⟨Dsk.of (D:=E5 D st) hB hM hSg (.inl hSr) hF (fun _ _ h=>h),hX⟩
end Go.Proofs.Eng
end
section
set_option maxRecDepth 100000
set_option maxHeartbeats 4000000
namespace Go.Proofs.Eng
open Go.RowKit
open Extern.Stop (cell)
theorem fb100:Tryz.f100.body.isNone=false:=by kernel_rfl
theorem fb101:Tryz.f101.body.isNone=false:=by kernel_rfl
theorem fb102:Tryz.f102.body.isNone=false:=by kernel_rfl
theorem fb18:Tryz.f18.body.isNone=false:=by kernel_rfl
theorem fb19:Tryz.f19.body.isNone=false:=by kernel_rfl
theorem fb20:Tryz.f20.body.isNone=false:=by kernel_rfl
theorem fb45:Tryz.f45.body.isNone=false:=by kernel_rfl
theorem fb98:Tryz.f98.body.isNone=false:=by kernel_rfl
theorem fb99:Tryz.f99.body.isNone=false:=by kernel_rfl
theorem fn100 : ngB Tryz.f100 = false := by kernel_rfl
theorem fn101 : ngB Tryz.f101 = false := by kernel_rfl
theorem fn102 : ngB Tryz.f102 = false := by kernel_rfl
theorem fn18 : ngB Tryz.f18 = false := by kernel_rfl
theorem fn19 : ngB Tryz.f19 = false := by kernel_rfl
theorem fn20 : ngB Tryz.f20 = false := by kernel_rfl
theorem fn45 : ngB Tryz.f45 = false := by kernel_rfl
theorem fn98 : ngB Tryz.f98 = false := by kernel_rfl
theorem fn99 : ngB Tryz.f99 = false := by kernel_rfl
theorem inf95:(Tryz.prog.info? 95).map (fun i=>(i.zero,i.size,i.bytes))=some (some (.nilFunc),1,8):=by kernel_rfl
theorem sz95:(Tryz.prog.info? 95).map (·.size)=some 1:=by kernel_rfl
theorem u149:Tryz.prog.underlying 149=some (.slice 95):=by kernel_rfl
theorem un95:(Tryz.prog.underlying 95).map TypeDesc.isRow=some false:=by kernel_rfl
theorem zr23:(Tryz.prog.info? 23).map (·.zero)=some (some (.slice none 0 0)):=by kernel_rfl
end Go.Proofs.Eng
end
