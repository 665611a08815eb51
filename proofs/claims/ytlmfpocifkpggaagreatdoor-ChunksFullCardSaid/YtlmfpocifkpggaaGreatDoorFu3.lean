import Derived.Test.YtlmfpocifkpggaaGreatDoorFu2
import Derived.Test.YtlmfpocifkpggaaGreatDoorSh
set_option linter.unusedVariables false
set_option linter.unusedSimpArgs false
set_option linter.unusedSectionVars false
section
set_option maxRecDepth 100000
set_option maxHeartbeats 4000000
namespace Go.Proofs.Eng
open Go.RowKit
open Extern.Stop (cell)
theorem N8 (N:Nat) (hN:N<18446744073709551616) (w:World) :
    Ret Tryz.prog 145 [.int .u64 (N:Int)] w (fun v w'=>(∃ p l c,v = .slice p l c∧Own kByte 5 0 w.heap.size w' p l c (lebU N))∧Ext w w'):=by
 have hX:=Ext.refl w
 refine eN 20 Tryz.func145 ?_
 refine Ab (Aa ?_)
 refine pA (Ac (t_n (Ab (Aa ?_))))
 refine Zk u23 inf5 rfl rfl (by omega) (by omega) (by omega) (by omega) ?_
 intro w1 g4 hN4
 have hE1:=hN4.ext
 have hX:=hX.ext hE1
 have hO:Own kByte 5 0 w.heap.size w1 (some ⟨g4,0,none⟩) 0 10 []:=Own.made kByte 5 0 _ hN4 [] [] 0 10 rfl trivial (by have:=hX.size;have:=hN4.g_eq;have:=hN4.ext.size;omega) (by omega) (by omega) (by rw[size_madeCells];rfl) (by simp)
 refine pA (Ac (t_n (Ab (Am ?_))))
 refine Bi (ι:=Nat×List UInt8×Option Addr×Nat×Nat) [0,3,5,6,7,8,9,10,11,12,13,14] (fun (m,acc,p,l,c)=>[(0,.int .u64 (m:Int)),(3,.slice p l c)]) (fun (m,acc,p,l,c) w'=>Ext w w'∧(Own kByte 5 0 w.heap.size w' p l c acc∧acc++lebU m=lebU N∧m<18446744073709551616)) (fun (m,acc,p,l,c)=>m) ((N,[],some ⟨g4,0,none⟩,0,10)) ⟨rfl,rfl,trivial⟩ ⟨hX,⟨hO,by simp,hN⟩⟩ ?_
 rintro⟨m,acc,p,l,c⟩ GL0 w2 ⟨hE2,hO,hacc,hm⟩
 have hX:=hE2
 refine Ab (Ab (Aa ?_))
 refine pM ?_
 refine p1 (Sj rfl rfl) ?_
 refine Ac (t_n ?_)
 refine As rfl (fun hc6=>?_) (fun hc6=>?_)
 ·refine Ah (t_n (Ab (Am (Aa ?_))))
  refine pM (pM ?_)
  refine p1 (Hu u5 us180 rfl) ?_
  refine p1 ((W9 rfl rfl).cast (congrArg _ (or128 m))) ?_
  refine Au u23 inf5 rfl (by decide) (fun base hb=>Ce (by rfl) base hb) ?_
  intro w3 g13 hN13
  have hE3:=hN13.ext
  have hX:=hX.ext hE3
  have hO:=hO.ext hE3
  have hS:Blk w3 g13 #[cell (UInt8.ofNat (m % 128+128))] 5:=hN13.blk
  have hlen:acc.length=l:=hO.len
  have hl10:=Dy hN
  rw[← hacc,List.length_append] at hl10
  have hB0:=hX.size
  refine Cr (d:=kByte) ([UInt8.ofNat (m % 128+128)]) u23 inf5 rfl Bz rfl rfl hO (S3 u23 hS) rfl (Cx _ _ _) (Bw _) (by omega) (by omega) (by omega) (by omega) (by decide) ?_
  intro p14 c14 w4 hO hM4
  have hX:=hX.mod hM4 (Nat.le_refl _)
  refine pA (Ac (b_n (t_n (Aa ?_))))
  refine pM ?_
  refine p1 ((Ht rfl rfl (by omega)).cast (congrArg _ (shr7 m))) ?_
  refine pA (Ac ?_)
  refine t_n (At.mk ((m / 128,acc++[UInt8.ofNat (m % 128+128)],p14,l+1,c14)) (by repeat (first | exact Agr.refl _ _ | exact Agr.hav _ _ _ | refine Agr.upd rfl ?_ | refine Agr.updR rfl ?_ | refine Agr.updL ?_ _ rfl | refine Agr.hav' rfl ?_)) ⟨rfl,rfl,trivial⟩ ?_)
  exact⟨⟨hX,⟨hO,by rw[← hacc,Hm (n:=m) (by omega)];simp,by omega⟩⟩,by(dsimp only;omega)⟩
 refine Ba (t_e (t_e (Bq (t_n (Ab (Aa ?_))))))
 refine pM (pM ?_)
 refine p1 ((Cs u5 us180 rfl (Ack (by omega) (by omega))).cast (congrArg _ (L7 (n:=m) (by omega)).symm)) ?_
 refine Au u23 inf5 rfl (by decide) (fun base hb=>Ce (by rfl) base hb) ?_
 intro w5 g18 hN18
 have hE5:=hN18.ext
 have hX:=hX.ext hE5
 have hO:=hO.ext hE5
 have hS:Blk w5 g18 #[cell (UInt8.ofNat m)] 5:=hN18.blk
 have hlen:acc.length=l:=hO.len
 have hl10:=Dy hN
 rw[← hacc,List.length_append] at hl10
 have hB0:=hX.size
 refine Cr (d:=kByte) ([UInt8.ofNat m]) u23 inf5 rfl Bz rfl rfl hO (S3 u23 hS) rfl (Cx _ _ _) (Bw _) (by omega) (by omega) (by omega) (by omega) (by decide) ?_
 intro p19 c19 w6 hO hM6
 have hX:=hX.mod hM6 (Nat.le_refl _)
 refine pA (Ac (t_n (Al ?_)))
 refine eR1 ?_
 rw[Fa (n:=m) (by omega)] at hacc
 exact⟨⟨_,_,_,rfl,by rw[← hacc];exact hO⟩,hX⟩
end Go.Proofs.Eng
end
section
set_option maxRecDepth 100000
set_option maxHeartbeats 4000000
namespace Go.Proofs.Eng
open Go.RowKit
open Extern.Stop (cell)
theorem Ma (xs : List UInt8) (B : Nat) (p : Option Addr) (n c : Nat) (w : World) (hl : Sl kByte 5 B w p n c xs) :
    Ret Tryz.prog 182 [.slice p n c] w (fun v w' => v = .tuple #[.int .u64 ((getU xs).1 : Int), .int .i64 ((getU xs).2.1 : Int), .int .i64 (getU xs).2.2] ∧ Ext w w') := by
 have hX := Ext.refl w
 refine enter 43 _ Tryz.func182 rfl rfl (Nat.le_of_ble_eq_true rfl) rfl ?_
 refine Ab (Aa ?_)
 refine p1 (A0 (by conv => lhs; whnf)) ?_
 refine p1 (A0 (by conv => lhs; whnf)) ?_
 refine p1 (A0 (by conv => lhs; whnf)) ?_
 refine Ac (t_n (Ab (Ab (Aa ?_))))
 refine p1 (Ai (by conv => lhs; whnf)) ?_
 refine p1 (Ak u23 rfl) ?_
 refine p1 (Ai (by conv => lhs; whnf)) ?_
 refine Ac (t_n (Am ?_))
 have hWL0 := Ext.refl w
 have hlen := hl.len
 have hfit := hl.fit
 have hcap := hl.cap
 refine Bi (ι := Nat × Nat) [2, 3, 4, 5, 6, 9, 10, 11, 12, 13, 14, 15, 16, 17, 18, 19, 20, 21, 22, 23, 24, 25, 26, 27, 28, 29, 30, 31, 32, 33, 34, 35, 36, 37, 38, 39, 40, 41, 42] (fun (i, m) => [(2, .int .u64 (m : Int)), (9, .int .i64 (i : Int))]) (fun (i, m) w' => Ext w w' ∧ (i ≤ n ∧ i ≤ 9 ∧ m < 2 ^ (7 * i) ∧ getUF i m (xs.drop i) = getU xs)) (fun (i, m) => n - i) ((0, 0)) ⟨rfl, rfl, trivial⟩ ⟨Ext.refl _, ⟨by omega, by omega, by simp, rfl⟩⟩ ?_
 rintro ⟨i, m⟩ GL0 w1 ⟨hE1, hi, hi9, hm, hL⟩
 have hX := hX.ext hE1
 have hWL0 := hE1
 refine Ab (Aa ?_)
 refine p1 (Bv rfl rfl) ?_
 refine Ac (t_n (Ab ?_))
 first | refine As rfl (fun hc10 => ?_) (fun hc10 => ?_) | refine Iq rfl (fun hc10 => ?_) (fun hc10 => ?_)
 ·try simp only [dA, dB, dC, dD, dE, dF, dG, Int.not_lt, Int.not_le] at hc10
  refine Ah (t_n (Ab (Am (Ab (Aa ?_)))))
  refine p1 (Ai (by conv => lhs; whnf)) ?_
  refine p1 (Dc u23 sz5 rfl rfl ((hl.ext hX).adr Bz (by omega)) (by omega)) ?_
  refine p1 (Ae un5 rfl ((hl.ext hX).byteAt _ (by omega))) ?_
  refine p1 (A0 (by conv => lhs; whnf)) ?_
  refine p1 (A0 (by conv => lhs; whnf)) ?_
  refine Ac (t_n (Ab (Ab ?_)))
  have hWr4 := Ext.refl w1
  refine Gv (ι := Unit) [14, 15, 16, 17, 18, 19, 20, 21, 22, 23, 24, 25, 26, 27] (fun _ => [(27, .bool (decide ((i = 9 ∧ 1 < (xs.getD i 0).toNat) ∨ (0 < i ∧ (xs.getD i 0).toNat = 0))))]) (fun _ w' => Ext w1 w') ?_ ?_
  ·skip
   refine Aa ?_
   refine p1 (Ai (by conv => lhs; whnf)) ?_
   refine p1 (Bs rfl rfl) ?_
   refine p1b (Ai (by conv => lhs; whnf)) (fun hb4_2 => ?_) (fun hb4_2 => ?_)
   ·try simp only [dA, dB, dC, dD, dE, dF, dG, Int.not_lt, Int.not_le] at hb4_2
    refine g1 16 rfl rfl (Ai (by conv => lhs; whnf)) ?_
    refine g1 16 rfl rfl (Da rfl rfl) ?_
    refine p1 (Ar rfl (by conv => lhs; whnf)) ?_
    refine p1b (Ai (by conv => lhs; whnf)) (fun hb4_6 => ?_) (fun hb4_6 => ?_)
    ·try simp only [dA, dB, dC, dD, dE, dF, dG, Int.not_lt, Int.not_le] at hb4_6
     refine g0 20 rfl (by first | exact .inl rfl | exact .inr rfl) ?_
     refine g0 20 rfl (by first | exact .inl rfl | exact .inr rfl) ?_
     refine g0 20 rfl (by first | exact .inl rfl | exact .inr rfl) ?_
     refine g0 23 rfl (by first | exact .inl rfl | exact .inr rfl) ?_
     refine g0 23 rfl (by first | exact .inl rfl | exact .inr rfl) ?_
     refine g0 20 rfl (by first | exact .inl rfl | exact .inr rfl) ?_
     refine p1 (Ar rfl (by conv => lhs; whnf)) ?_
     refine Ac ?_
     refine t_n (At.mk () (by repeat (first | exact Agr.refl _ _ | exact Agr.hav _ _ _ | refine Agr.upd rfl ?_ | refine Agr.updR rfl ?_ | refine Agr.updL ?_ _ rfl | refine Agr.hav' rfl ?_)) ⟨congrArg Value.bool (by first | rfl | exact (decide_eq_true (by omega)).symm | exact (decide_eq_false (by omega)).symm | exact decide_eq_decide.2 (by omega) | (simp_all; done) | grind), trivial⟩ hWr4)
    ·try simp only [dA, dB, dC, dD, dE, dF, dG, Int.not_lt, Int.not_le] at hb4_6
     refine g1 20 rfl rfl (Ai (by conv => lhs; whnf)) ?_
     refine g1 20 rfl rfl (Da rfl rfl) ?_
     refine g1b 20 rfl rfl (Ai (by conv => lhs; whnf)) (fun hb4_9 => ?_) (fun hb4_9 => ?_)
     ·try simp only [dA, dB, dC, dD, dE, dF, dG, Int.not_lt, Int.not_le] at hb4_9
      refine g1 23 rfl rfl (Ai (by conv => lhs; whnf)) ?_
      refine g1 23 rfl rfl (Bs rfl rfl) ?_
      refine g1 20 rfl rfl (Ar rfl (by conv => lhs; whnf)) ?_
      refine p1 (Ap rfl (by conv => lhs; whnf)) ?_
      refine Ac ?_
      refine t_n (At.mk () (by repeat (first | exact Agr.refl _ _ | exact Agr.hav _ _ _ | refine Agr.upd rfl ?_ | refine Agr.updR rfl ?_ | refine Agr.updL ?_ _ rfl | refine Agr.hav' rfl ?_)) ⟨congrArg Value.bool (by first | rfl | exact (decide_eq_true (by omega)).symm | exact (decide_eq_false (by omega)).symm | exact decide_eq_decide.2 (by omega) | (simp_all; done) | grind), trivial⟩ hWr4)
     ·try simp only [dA, dB, dC, dD, dE, dF, dG, Int.not_lt, Int.not_le] at hb4_9
      refine g0 23 rfl (by first | exact .inl rfl | exact .inr rfl) ?_
      refine g0 23 rfl (by first | exact .inl rfl | exact .inr rfl) ?_
      refine g1 20 rfl rfl (Ap rfl (by conv => lhs; whnf)) ?_
      refine p1 (Ap rfl (by conv => lhs; whnf)) ?_
      refine Ac ?_
      refine t_n (At.mk () (by repeat (first | exact Agr.refl _ _ | exact Agr.hav _ _ _ | refine Agr.upd rfl ?_ | refine Agr.updR rfl ?_ | refine Agr.updL ?_ _ rfl | refine Agr.hav' rfl ?_)) ⟨congrArg Value.bool (by first | rfl | exact (decide_eq_true (by omega)).symm | exact (decide_eq_false (by omega)).symm | exact decide_eq_decide.2 (by omega) | (simp_all; done) | grind), trivial⟩ hWr4)
   ·try simp only [dA, dB, dC, dD, dE, dF, dG, Int.not_lt, Int.not_le] at hb4_2
    refine g0 16 rfl (by first | exact .inl rfl | exact .inr rfl) ?_
    refine g0 16 rfl (by first | exact .inl rfl | exact .inr rfl) ?_
    refine p1 (Ap rfl (by conv => lhs; whnf)) ?_
    refine p1 (Ai (by conv => lhs; whnf)) ?_
    refine g1 20 rfl rfl (Ai (by conv => lhs; whnf)) ?_
    refine g1 20 rfl rfl (Da rfl rfl) ?_
    refine g1b 20 rfl rfl (Ai (by conv => lhs; whnf)) (fun hb4_9 => ?_) (fun hb4_9 => ?_)
    ·try simp only [dA, dB, dC, dD, dE, dF, dG, Int.not_lt, Int.not_le] at hb4_9
     refine g1 23 rfl rfl (Ai (by conv => lhs; whnf)) ?_
     refine g1 23 rfl rfl (Bs rfl rfl) ?_
     refine g1 20 rfl rfl (Ar rfl (by conv => lhs; whnf)) ?_
     refine p1 (Ap rfl (by conv => lhs; whnf)) ?_
     refine Ac ?_
     refine t_n (At.mk () (by repeat (first | exact Agr.refl _ _ | exact Agr.hav _ _ _ | refine Agr.upd rfl ?_ | refine Agr.updR rfl ?_ | refine Agr.updL ?_ _ rfl | refine Agr.hav' rfl ?_)) ⟨congrArg Value.bool (by first | rfl | exact (decide_eq_true (by omega)).symm | exact (decide_eq_false (by omega)).symm | exact decide_eq_decide.2 (by omega) | (simp_all; done) | grind), trivial⟩ hWr4)
    ·try simp only [dA, dB, dC, dD, dE, dF, dG, Int.not_lt, Int.not_le] at hb4_9
     refine g0 23 rfl (by first | exact .inl rfl | exact .inr rfl) ?_
     refine g0 23 rfl (by first | exact .inl rfl | exact .inr rfl) ?_
     refine g1 20 rfl rfl (Ap rfl (by conv => lhs; whnf)) ?_
     refine p1 (Ap rfl (by conv => lhs; whnf)) ?_
     refine Ac ?_
     refine t_n (At.mk () (by repeat (first | exact Agr.refl _ _ | exact Agr.hav _ _ _ | refine Agr.upd rfl ?_ | refine Agr.updR rfl ?_ | refine Agr.updL ?_ _ rfl | refine Agr.hav' rfl ?_)) ⟨congrArg Value.bool (by first | rfl | exact (decide_eq_true (by omega)).symm | exact (decide_eq_false (by omega)).symm | exact decide_eq_decide.2 (by omega) | (simp_all; done) | grind), trivial⟩ hWr4)
  ·rintro _ Gr4 w2 hE2
   have hX := hX.ext hE2
   have hWL0 := hWL0.ext hE2
   refine t_n ?_
   first | refine As rfl (fun hc27 => ?_) (fun hc27 => ?_) | refine Iq rfl (fun hc27 => ?_) (fun hc27 => ?_)
   ·try simp only [dA, dB, dC, dD, dE, dF, dG, Int.not_lt, Int.not_le] at hc27
    have hp : getU xs = (0, 0, 4) := by rw [← hL, Lu (by omega)]; unfold getUF; rw [if_pos hc27]
    refine Ab (Aa ?_)
    refine p1 (A0 (by conv => lhs; whnf)) ?_
    refine p1 (A0 (by conv => lhs; whnf)) ?_
    refine p1 (A0 (by conv => lhs; whnf)) ?_
    refine Ac (t_n (Al (t_r (b_r (t_r (t_r (b_r (t_r ?_))))))))
    refine end3 rfl (by conv => lhs; whnf) (by conv => lhs; whnf) (by conv => lhs; whnf) ?_
    exact ⟨by (rw [hp]; try rfl), hX⟩
   ·try simp only [dA, dB, dC, dD, dE, dF, dG, Int.not_lt, Int.not_le] at hc27
    have h9 : i = 9 → (xs.getD i 0).toNat % 128 ≤ 1 := by omega
    have hfit2 := Tx hm hi9 (Nat.mod_lt (xs.getD i 0).toNat (by omega : 0 < 128)) h9
    refine Ah (t_n (Ab (Aa ?_)))
    refine p1 (Ai (by conv => lhs; whnf)) ?_
    refine p1 (Ai (by conv => lhs; whnf)) ?_
    refine p1 ((Ys rfl rfl).cast (congrArg _ (Yj (xs.getD i 0)))) ?_
    refine p1 (Cs u180 us5 rfl (Eb (by omega) (by omega))) ?_
    refine p1 (Ai (by conv => lhs; whnf)) ?_
    refine p1 (M7 rfl rfl (Aj (by omega) (by omega))) ?_
    refine p1 (Cs u86 us3 rfl (Eb (by omega) (by omega))) ?_
    refine p1 ((Po rfl rfl (by omega)).cast (congrArg _ (shl7 (i := i) hi9 (Nat.mod_lt _ (by omega)) h9))) ?_
    refine p1 ((W9 rfl rfl).cast (congrArg _ (Adh hm hfit2))) ?_
    refine p1 (A0 (by conv => lhs; whnf)) ?_
    refine Ac (t_n (Ab (Aa ?_)))
    refine p1 (Ai (by conv => lhs; whnf)) ?_
    refine p1 (Bv rfl rfl) ?_
    refine Ac (t_n ?_)
    first | refine As rfl (fun hc38 => ?_) (fun hc38 => ?_) | refine Iq rfl (fun hc38 => ?_) (fun hc38 => ?_)
    ·try simp only [dA, dB, dC, dD, dE, dF, dG, Int.not_lt, Int.not_le] at hc38
     have hp : getU xs = (m + (xs.getD i 0).toNat % 128 * 2 ^ (7 * i), i + 1, 0) := by rw [← hL, Lu (by omega)]; unfold getUF; rw [if_neg hc27, if_pos (by omega)]
     refine Ab (Aa ?_)
     refine p1 (Ai (by conv => lhs; whnf)) ?_
     refine p1 (Ai (by conv => lhs; whnf)) ?_
     refine p1 (A1 rfl rfl (Aj (by omega) (by omega))) ?_
     refine p1 (A0 (by conv => lhs; whnf)) ?_
     refine p1 (A0 (by conv => lhs; whnf)) ?_
     refine p1 (A0 (by conv => lhs; whnf)) ?_
     refine Ac (t_n (Al (b_r (t_r (t_r (b_r (t_r ?_)))))))
     refine end3 rfl (by conv => lhs; whnf) (by conv => lhs; whnf) (by conv => lhs; whnf) ?_
     exact ⟨by (rw [hp]; try rfl), hX⟩
    ·try simp only [dA, dB, dC, dD, dE, dF, dG, Int.not_lt, Int.not_le] at hc38
     have hp2 : getUF (i + 1) (m + (xs.getD i 0).toNat % 128 * 2 ^ (7 * i)) (xs.drop (i + 1)) = getU xs := by rw [← hL, Lu (by omega : i < xs.length)]; conv => rhs; unfold getUF; rw [if_neg hc27, if_neg (by omega)]
     refine Ah (b_n (t_n (Aa ?_)))
     refine p1 (A1 rfl rfl (Aj (by omega) (by omega))) ?_
     refine p1 (Ai (by conv => lhs; whnf)) ?_
     refine Ac ?_
     refine t_n (At.mk ((i + 1, m + (xs.getD i 0).toNat % 128 * 2 ^ (7 * i))) (by repeat (first | exact Agr.refl _ _ | exact Agr.hav _ _ _ | refine Agr.upd rfl ?_ | refine Agr.updR rfl ?_ | refine Agr.updL ?_ _ rfl | refine Agr.hav' rfl ?_)) ⟨rfl, rfl, trivial⟩ ?_)
     exact ⟨⟨hWL0, ⟨by omega, by omega, Oj hm (Nat.mod_lt _ (by omega)), hp2⟩⟩, by first | (dsimp only; omega) | ((show _ < _); omega)⟩
 ·try simp only [dA, dB, dC, dD, dE, dF, dG, Int.not_lt, Int.not_le] at hc10
  have hp : getU xs = (0, 0, 3) := by rw [← hL, List.drop_of_length_le (by omega)]; rfl
  refine Ba (t_e (t_e (Bq (t_n (Ab (Aa ?_))))))
  refine p1 (A0 (by conv => lhs; whnf)) ?_
  refine p1 (A0 (by conv => lhs; whnf)) ?_
  refine p1 (A0 (by conv => lhs; whnf)) ?_
  refine Ac (t_n (Al ?_))
  refine end3 rfl (by conv => lhs; whnf) (by conv => lhs; whnf) (by conv => lhs; whnf) ?_
  exact ⟨by (rw [hp]; try rfl), hX⟩
end Go.Proofs.Eng
end
section
set_option maxRecDepth 100000
set_option maxHeartbeats 4000000
namespace Go.Proofs.Eng
open Go.RowKit
open Extern.Stop (cell)
theorem fb161:Tryz.f161.body.isNone=false:=by kernel_rfl
theorem fb204:Tryz.f204.body.isNone=false:=by kernel_rfl
theorem fb39:Tryz.f39.body.isNone=false:=by kernel_rfl
theorem fn161 : ngB Tryz.f161 = false := by kernel_rfl
theorem fn204 : ngB Tryz.f204 = false := by kernel_rfl
theorem fn39 : ngB Tryz.f39 = false := by kernel_rfl
theorem u164:Tryz.prog.underlying 164=some (.map 64 4):=by kernel_rfl
theorem u4:Tryz.prog.underlying 4=some (.bool):=by kernel_rfl
theorem zr4:(Tryz.prog.info? 4).map (·.zero)=some (some (.bool false)):=by kernel_rfl
theorem zr64:(Tryz.prog.info? 64).map (·.zero)=some (some (.agg #[.int .u8 0,.int .u8 0,.int .u8 0,.int .u8 0,.int .u8 0,.int .u8 0,.int .u8 0,.int .u8 0,.int .u8 0,.int .u8 0,.int .u8 0,.int .u8 0,.int .u8 0,.int .u8 0,.int .u8 0,.int .u8 0,.int .u8 0,.int .u8 0,.int .u8 0,.int .u8 0,.int .u8 0,.int .u8 0,.int .u8 0,.int .u8 0,.int .u8 0,.int .u8 0,.int .u8 0,.int .u8 0,.int .u8 0,.int .u8 0,.int .u8 0,.int .u8 0])):=by kernel_rfl
end Go.Proofs.Eng
end
section
set_option maxRecDepth 100000
set_option maxHeartbeats 4000000
namespace Go.Proofs.Eng
open Go.RowKit
open Extern.Stop (cell)
theorem fb194:Tryz.f194.body.isNone=false:=by kernel_rfl
theorem fn194 : ngB Tryz.f194 = false := by kernel_rfl
theorem sz174:(Tryz.prog.info? 174).map (·.size)=some 1:=by kernel_rfl
theorem sz23:(Tryz.prog.info? 23).map (·.size)=some 1:=by kernel_rfl
theorem u174:Tryz.prog.underlying 174=some (.int .u32):=by kernel_rfl
theorem u22:Tryz.prog.underlying 22=some (.slice 23):=by kernel_rfl
theorem u274:Tryz.prog.underlying 274=some (.array 16 174):=by kernel_rfl
theorem un174:(Tryz.prog.underlying 174).map TypeDesc.isRow=some false:=by kernel_rfl
theorem un23:(Tryz.prog.underlying 23).map TypeDesc.isRow=some false:=by kernel_rfl
theorem us174:(Tryz.prog.underlying 174).isSome=true:=by kernel_rfl
end Go.Proofs.Eng
end
section
set_option maxRecDepth 100000
set_option maxHeartbeats 4000000
namespace Go.Proofs.Eng
open Go.RowKit
open Extern.Stop (cell)
theorem Yb (xs:List UInt8) (B:Nat) (p:Option Addr) (n c:Nat) (w:World) (hl:Sl kByte 5 B w p n c xs) (hq:Qt w) :
    Ret Tryz.prog 194 [.slice p n c] w (fun v w'=>v = .int .u32 ((crcF xs:Nat):Int)∧Ext w w'):=by
 have hX:=Ext.refl w
 refine eN 33 Tryz.func194 ?_
 refine Ab (Aa ?_)
 refine pA (Ac (t_n (Ab (Aa ?_))))
 refine pA (Ac (t_n (Ab (Ab (Aa ?_)))))
 refine pM ?_
 refine p1 (Ak u23 rfl) ?_
 refine pM (Ac (t_n (Am ?_)))
 have hWL0:=Ext.refl w
 have hlen:=hl.len
 have hfit:=hl.fit
 have hcap:=hl.cap
 refine Bi (ι:=Nat×Nat) [3,5,8,9,10,11,12,13,14,15,16,17,18,19,20,21,22,23,24,25,26,27,28,29,30] (fun (k,s)=>[(3,.int .u32 (s:Int)),(8,.int .i64 (k:Int))]) (fun (k,s) w'=>Ext w w'∧(k≤n∧s<4294967296∧s=(xs.take k).foldl byteC 4294967295)) (fun (k,s)=>n - k) ((0,4294967295)) ⟨rfl,rfl,trivial⟩ ⟨Ext.refl _,⟨by omega,by decide,rfl⟩⟩ ?_
 rintro⟨k,s⟩ GL0 w1 ⟨hE1,hk,hs,hL⟩
 have hX:=hX.ext hE1
 have hWL0:=hE1
 refine Ab (Aa ?_)
 refine p1 (Bv rfl rfl) ?_
 refine Ac (t_n (Ab ?_))
 refine As rfl (fun hc9=>?_) (fun hc9=>?_)
 ·have hx8:=(xs.getD k 0).toNat_lt
  have hs1:(s ^^^ (xs.getD k 0).toNat)<4294967296:=Ac3 hs (by omega)
  refine Ah (t_n (Ab (Am (Ab (Aa ?_)))))
  refine p1 (Dc u23 sz5 rfl rfl ((hl.ext hX).adr Bz (by omega)) (by omega)) ?_
  refine p1 (Ae un5 rfl ((hl.ext hX).byteAt _ (by omega))) ?_
  refine pA (Ac (t_n (Ab (Aa ?_))))
  refine pM (pM ?_)
  refine p1 (Cs u174 us5 rfl (Ie (by omega) (by omega))) ?_
  refine p1 ((Gf rfl rfl).cast (congrArg _ (Qk hs (by omega)))) ?_
  refine pA (Ac (t_n (Ab (Aa ?_))))
  refine pM ?_
  refine p1 ((Ht rfl rfl (by omega)).cast (congrArg _ (shr4 (s ^^^ (xs.getD k 0).toNat)))) ?_
  refine pM ?_
  refine p1 ((Nb rfl rfl).cast (congrArg _ (and15 (s ^^^ (xs.getD k 0).toNat) hs1))) ?_
  refine p1 (Br (i:=(s ^^^ (xs.getD k 0).toNat) % 16) u274 sz174 rfl rfl (by omega)) ?_
  refine p1 (Ae un174 rfl (hq.ext hX ((s ^^^ (xs.getD k 0).toNat) % 16) (by omega))) ?_
  refine p1 ((Gf rfl rfl).cast (congrArg _ (look4 hs1))) ?_
  refine pA (Ac (t_n (Aa ?_)))
  refine pM ?_
  refine p1 ((Ht rfl rfl (by omega)).cast (congrArg _ (shr4 (step4 (s ^^^ (xs.getD k 0).toNat))))) ?_
  refine pM ?_
  refine p1 ((Nb rfl rfl).cast (congrArg _ (and15 (step4 (s ^^^ (xs.getD k 0).toNat)) (J9 hs1)))) ?_
  refine p1 (Br (i:=(step4 (s ^^^ (xs.getD k 0).toNat)) % 16) u274 sz174 rfl rfl (by omega)) ?_
  refine p1 (Ae un174 rfl (hq.ext hX ((step4 (s ^^^ (xs.getD k 0).toNat)) % 16) (by omega))) ?_
  refine p1 ((Gf rfl rfl).cast (congrArg _ (look4 (J9 hs1)))) ?_
  refine pA (Ac (b_n (t_n (Aa ?_))))
  refine p1 (A1 rfl rfl (Aj (by omega) (by omega))) ?_
  refine pM (Ac ?_)
  refine t_n (At.mk ((k+1,byteC s (xs.getD k 0))) (by repeat (first | exact Agr.refl _ _ | exact Agr.hav _ _ _ | refine Agr.upd rfl ?_ | refine Agr.updR rfl ?_ | refine Agr.updL ?_ _ rfl | refine Agr.hav' rfl ?_)) ⟨rfl,rfl,trivial⟩ ?_)
  exact⟨⟨hWL0,⟨by omega,Aax hs _,by rw[Vl (by omega),← hL]⟩⟩,by(dsimp only;omega)⟩
 have hp:crcF xs=4294967295 ^^^ s:=by rw[hL,List.take_of_length_le (by omega)];rfl
 refine Ba (t_e (t_e (Bq (t_n (Ab (Aa ?_))))))
 refine pM ?_
 refine p1 (V1 rfl |>.cast (congrArg _ (cplP hs))) ?_
 refine pA (Ac (t_n (Al ?_)))
 refine eR1 ?_
 exact⟨by rw[hp],hX⟩
theorem Z0 {w w':World} {g s:Nat} (hN:New w w' g #[.int .u8 (UInt8.ofNat s).toNat,.int .u8 (UInt8.ofNat (s / 256)).toNat,.int .u8 (UInt8.ofNat (s / 65536)).toNat,.int .u8 (UInt8.ofNat (s / 16777216)).toNat] 5) {B0:Nat} (hB:B0≤w.heap.size) :
    Own kByte 5 0 B0 w' (some ⟨g,0,none⟩) 4 4 (le4 s) :=
  Own.made kByte 5 0 B0 hN (le4 s) ((le4 s).map fun b=>[cell b]) 4 4 rfl (Cx _ _ _) hB (by omega) (by omega) (by rfl) (by rfl)
theorem Qf (xs:List UInt8) (B:Nat) (p:Option Addr) (n c:Nat) (w:World) (hl:Sl kByte 5 B w p n c xs) (hq:Qt w) :
    Ret Tryz.prog 148 [.slice p n c] w (fun v w'=>(∃ q c',v = .slice q 4 c'∧Own kByte 5 0 w.heap.size w' q 4 c' (sumB xs))∧Ext w w'):=by
 have hX:=Ext.refl w
 refine eN 18 Tryz.func148 ?_
 refine Ab (Aa ?_)
 refine pA (Ac (t_n (Ab (Aa ?_))))
 refine pM ?_
 refine Ag Tryz.func194 fn194 fb194 (Yb xs _ _ _ _ _ (hl.ext hX) (hq.ext hX)) rfl ?_
 rintro v1 w1 ⟨rfl,hE1⟩
 have hX:=hX.ext hE1
 refine pA (Ac (t_n (Ab (Aa ?_))))
 refine pM ?_
 refine p1 ((Hu u5 us174 rfl).cast (congrArg _ (low8 (crcF xs)))) ?_
 refine pM ?_
 refine p1 ((Ht rfl rfl (by omega)).cast (congrArg _ (shr8 (crcF xs)))) ?_
 refine p1 ((Hu u5 us174 rfl).cast (congrArg _ (low8 ((crcF xs) / 256)))) ?_
 refine pM ?_
 refine p1 ((Ht rfl rfl (by omega)).cast (congrArg _ (shr16 (crcF xs)))) ?_
 refine p1 ((Hu u5 us174 rfl).cast (congrArg _ (low8 ((crcF xs) / 65536)))) ?_
 refine pM ?_
 refine p1 ((Ht rfl rfl (by omega)).cast (congrArg _ (shr24 (crcF xs)))) ?_
 refine p1 ((Hu u5 us174 rfl).cast (congrArg _ (low8 ((crcF xs) / 16777216)))) ?_
 have hXs:=hX.size
 refine Au u23 inf5 rfl (by decide) (fun base hb=>fill4 (by rfl) (by rfl) (by rfl) (by rfl) base hb) ?_
 intro w2 g17 hN17
 have hE2:=hN17.ext
 have hX:=hX.ext hE2
 have hO:=Z0 hN17 (B0:=w.heap.size) hXs
 refine pA (Ac (t_n (Al ?_)))
 refine eR1 ?_
 exact⟨⟨_,_,rfl,hO⟩,hX⟩
theorem Ho (xss:List (List UInt8)) (B:Nat) (p:Option Addr) (n c:Nat) (w:World) (hl:Sl (kSl kByte 5) 23 B w p n c xss) (hs:xss.flatten.length≤140737490000000) :
    Ret Tryz.prog 147 [.slice p n c] w (fun v w'=>(∃ q m c',v = .slice q m c'∧Own kByte 5 0 w.heap.size w' q m c' xss.flatten)∧Ext w w'):=by
 have hX:=Ext.refl w
 refine eN 17 Tryz.func147 ?_
 refine Ab (Aa ?_)
 refine pA (Ac (t_n (Ab (Aa ?_))))
 refine pA (Ac (t_n (Ab (Ab (Aa ?_)))))
 refine pM ?_
 refine p1 (Ak u22 rfl) ?_
 refine pM (Ac (t_n (Am ?_)))
 have hO:Own kByte 5 0 w.heap.size w none 0 0 []:=Own.nil _ _ _ _ _
 have hlen:=hl.len
 have hfit:=hl.fit
 have hcap:=hl.cap
 refine Bi (ι:=Nat×Option Addr×Nat×Nat) [3,5,8,9,10,11,12,13,14,15] (fun (k,q,m,d)=>[(3,.slice q m d),(8,.int .i64 (k:Int))]) (fun (k,q,m,d) w'=>Ext w w'∧(k≤n∧Own kByte 5 0 w.heap.size w' q m d (xss.take k).flatten)) (fun (k,q,m,d)=>n - k) ((0,none,0,0)) ⟨rfl,rfl,trivial⟩ ⟨hX,⟨by omega,hO⟩⟩ ?_
 rintro⟨k,q,m,d⟩ GL0 w1 ⟨hE1,hk,hO⟩
 have hX:=hE1
 refine Ab (Aa ?_)
 refine p1 (Bv rfl rfl) ?_
 refine Ac (t_n (Ab ?_))
 refine As rfl (fun hc9=>?_) (fun hc9=>?_)
 ·obtain⟨r,i,j,hcell,hrow⟩:=(hl.ext hX).slAt k (by omega)
  refine Ah (t_n (Ab (Am (Ab (Aa ?_)))))
  refine p1 (Dc u22 sz23 rfl rfl ((hl.ext hX).adr Jd (by omega)) (by omega)) ?_
  refine p1 (Ae un23 rfl hcell) ?_
  refine pA (Ac (t_n (Aa ?_)))
  refine pM (pM ?_)
  have hol:=hO.len
  have hrl:=hrow.len
  have hft:=Gx (xss:=xss) (k:=k) (by omega)
  have hB0:=hX.size
  refine Cr (d:=kByte) (xss.getD k []) u23 inf5 rfl Bz rfl rfl hO (Y4 u23 hrow) hrow.len (Cx _ _ _) (Bw _) (by omega) (by omega) (by omega) (by omega) (by decide) ?_
  intro p14 c14 w2 hO hM2
  have hX:=hX.mod hM2 (Nat.le_refl _)
  refine pA (Ac (b_n (t_n (Aa ?_))))
  refine p1 (A1 rfl rfl (Aj (by omega) (by omega))) ?_
  refine pM (Ac ?_)
  refine t_n (aK ((k+1,p14,m+i,c14)) ⟨rfl,rfl,trivial⟩ ?_)
  exact⟨⟨hX,⟨by omega,by rw[Et (by omega)];exact hO⟩⟩,by(dsimp only;omega)⟩
 have hp:xss.flatten=(xss.take k).flatten:=by rw[List.take_of_length_le (by omega)]
 refine Ba (t_e (t_e (Bq (t_n (Ab (Aa ?_))))))
 refine pM (pA (Ac (t_n (Al ?_))))
 refine eR1 ?_
 exact⟨⟨_,_,_,rfl,by rw[hp];exact hO⟩,hX⟩
end Go.Proofs.Eng
end
section
set_option maxRecDepth 100000
set_option maxHeartbeats 4000000
namespace Go.Proofs.Eng
open Go.RowKit
open Extern.Stop (cell)
theorem fb104:Tryz.f104.body.isNone=false:=by kernel_rfl
theorem fb145:Tryz.f145.body.isNone=false:=by kernel_rfl
theorem fb147:Tryz.f147.body.isNone=false:=by kernel_rfl
theorem fb148:Tryz.f148.body.isNone=false:=by kernel_rfl
theorem fn104 : ngB Tryz.f104 = false := by kernel_rfl
theorem fn145 : ngB Tryz.f145 = false := by kernel_rfl
theorem fn147 : ngB Tryz.f147 = false := by kernel_rfl
theorem fn148 : ngB Tryz.f148 = false := by kernel_rfl
theorem inf23:(Tryz.prog.info? 23).map (fun i=>(i.zero,i.size,i.bytes))=some (some (.slice none 0 0),1,24):=by kernel_rfl
end Go.Proofs.Eng
end
section
set_option maxRecDepth 100000
set_option maxHeartbeats 4000000
namespace Go.Proofs.Eng
open Go.RowKit
open Extern.Stop (cell)
theorem Oo (xs:List UInt8) (B:Nat) (p:Option Addr) (n c:Nat) (w:World) (hl:Sl kByte 5 B w p n c xs) (hq:Qt w) (kd:UInt8) (hk:kd≠0) :
    Ret Tryz.prog 104 [.int .u8 (kd.toNat:Int),.slice p n c] w (fun v w'=>(∃ q m c' e,v = .tuple #[.slice q m c',.int .i64 e]∧((e=0∧n≤1048576∧Own kByte 5 0 w.heap.size w' q m c' (sealF kd xs))∨(e=5∧1048576<n)))∧Ext w w'):=by
 have hX:=Ext.refl w
 refine eN 28 Tryz.func104 ?_
 refine Ab (Aa ?_)
 refine pA (pA (Ac (t_n (Ab (Am (Ab (Aa ?_)))))))
 refine pM ?_
 refine p1 ((Bs rfl rfl).cast (congrArg _ (decide_eq_false (fun h=>hk (Jr.1 h))))) ?_
 refine pA (Ac (t_n ?_))
 refine c_f rfl ?_
 refine Ab ?_
 have hlen:=hl.len
 have hfit:=hl.fit
 have hcap:=hl.cap
 refine Aa ?_
 refine pM ?_
 refine p1 (Ak u23 rfl) ?_
 refine p1 (Da rfl rfl) ?_
 refine pA (Ac (t_n ?_))
 refine As rfl (fun hc10=>?_) (fun hc10=>?_)
 ·refine Ab (Aa ?_)
  refine pA (pA (Ac (t_n (Al (b_r (t_r ?_))))))
  refine eR2 ?_
  exact⟨⟨_,_,_,_,rfl,.inr ⟨rfl,by omega⟩⟩,hX⟩
 refine Ah (b_n (t_n (Ab ?_)))
 have hXs:=hX.size
 refine Aa ?_
 refine pM ?_
 refine Au u23 inf5 rfl (by decide) (fun base hb=>Ce (by rfl) base hb) ?_
 intro w1 g15 hN15
 have hE1:=hN15.ext
 have hX:=hX.ext hE1
 have hO1:=N3 (b:=kd) hN15 hXs
 refine pM ?_
 refine p1 (Ak u23 rfl) ?_
 refine p1 (Cs u180 us3 rfl (Eb (by omega) (by omega))) ?_
 refine Ag Tryz.func145 fn145 fb145 (N8 n (by omega) _) rfl ?_
 rintro v2 w2 ⟨⟨q19,l19,c19,rfl,hU⟩,hE2⟩
 have hX:=hX.ext hE2
 have hO1:=hO1.ext hE2
 refine pM ?_
 refine Au u22 inf23 rfl (by decide) (fun base hb=>fill3 (by rfl) (by rfl) (by rfl) base hb) ?_
 intro w3 g21 hN21
 have hE3:=hN21.ext
 have hX:=hX.ext hE3
 have hO1:=hO1.ext hE3
 have hU:=hU.ext hE3
 have hJ:=S4 hN21 (hO1.sl.mono (Nat.zero_le B)) (hU.sl.mono (Nat.zero_le B)) (hl.ext hX)
 have e3:=flat3 kd xs n hl.len
 have hl10:=Dy (n:=n) (by omega)
 have hbl:=Ji kd xs
 rw[hlen] at hbl
 refine Ag Tryz.func147 fn147 fb147 (Ho _ _ _ _ _ _ hJ (by rw[e3];omega)) rfl ?_
 rintro v4 w4 ⟨⟨q22,m22,c22,rfl,hA⟩,hE4⟩
 have hX:=hX.ext hE4
 have hU:=hU.ext hE4
 have hJ:=hJ.ext hE4
 rw[e3] at hA
 have hXs22:=hX.size
 refine pA (Ac (t_n (Ab (Aa ?_))))
 refine pM (pM ?_)
 refine Ag Tryz.func148 fn148 fb148 (Qf _ _ _ _ _ _ hA.sl (hq.ext hX)) rfl ?_
 rintro v5 w5 ⟨⟨q25,c25,rfl,hU⟩,hE5⟩
 have hX:=hX.ext hE5
 have hA:=hA.ext hE5
 refine Au u22 inf23 rfl (by decide) (fun base hb=>fill2 (by rfl) (by rfl) base hb) ?_
 intro w6 g26 hN26
 have hE6:=hN26.ext
 have hX:=hX.ext hE6
 have hA:=hA.ext hE6
 have hU:=hU.ext hE6
 have hJ:=Y5 hN26 hA.sl hU.sl
 have e2:=flat2 (bodyF kd xs)
 have hXs26:=hX.size
 refine Ag Tryz.func147 fn147 fb147 (Ho _ _ _ _ _ _ hJ (by rw[e2,List.length_append,Nf];omega)) rfl ?_
 rintro v7 w7 ⟨⟨q27,m27,c27,rfl,hO⟩,hE7⟩
 have hX:=hX.ext hE7
 rw[e2] at hO
 have hO:=hO.lower hXs26
 refine pA (pA (Ac (t_n (Al ?_))))
 refine eR2 ?_
 exact⟨⟨_,_,_,_,rfl,.inl ⟨rfl,by omega,hO⟩⟩,hX⟩
theorem L3 (xss:List (List UInt8)) (B:Nat) (p:Option Addr) (n c:Nat) (w:World) (hl:Sl (kSl kByte 5) 23 B w p n c xss) (hs:(xss.flatMap (sealF 1)).length≤140737490000000) (hq:Qt w) :
    Ret Tryz.prog 54 [.slice p n c] w (fun v w'=>(∃ q m c',v = .tuple #[.slice q m c',.int .i64 (putF xss).2]∧Own kByte 5 0 w.heap.size w' q m c' (putF xss).1)∧Ext w w'):=by
 have hX:=Ext.refl w
 refine eN 28 Tryz.func54 ?_
 refine Ab (Aa ?_)
 refine pA (pA (Ac (t_n (Ab (Aa ?_)))))
 refine pA (Ac (t_n (Ab (Ab (Aa ?_)))))
 refine pM ?_
 refine p1 (Ak u22 rfl) ?_
 refine pM (Ac (t_n (Am ?_)))
 have hO:Own kByte 5 0 w.heap.size w none 0 0 []:=Own.nil _ _ _ _ _
 have hlen:=hl.len
 have hfit:=hl.fit
 have hcap:=hl.cap
 refine Bi (ι:=Nat×Option Addr×Nat×Nat) [2,3,4,6,7,8,11,12,13,14,15,16,17,18,19,20,21,22,23,24,25,26] (fun (k,q,m,d)=>[(4,.slice q m d),(11,.int .i64 (k:Int))]) (fun (k,q,m,d) w'=>Ext w w'∧(k≤n∧(∀ i,i<k→(xss.getD i []).length≤1048576)∧Own kByte 5 0 w.heap.size w' q m d ((xss.take k).flatMap (sealF 1)))) (fun (k,q,m,d)=>n - k) ((0,none,0,0)) ⟨rfl,rfl,trivial⟩ ⟨hX,⟨by omega,fun i hi=>by omega,hO⟩⟩ ?_
 rintro⟨k,q,m,d⟩ GL0 w1 ⟨hE1,hk,hok,hO⟩
 have hX:=hE1
 refine Ab (Aa ?_)
 refine p1 (Bv rfl rfl) ?_
 refine Ac (t_n (Ab ?_))
 refine As rfl (fun hc12=>?_) (fun hc12=>?_)
 ·obtain⟨r,i,j,hcell,hrow⟩:=(hl.ext hX).slAt k (by omega)
  refine Ah (t_n (Ab (Am (Ab (Aa ?_)))))
  refine p1 (Dc u22 sz23 rfl rfl ((hl.ext hX).adr Jd (by omega)) (by omega)) ?_
  refine p1 (Ae un23 rfl hcell) ?_
  refine pA (Ac (t_n (Ab (Aa ?_))))
  refine pM ?_
  refine Ag Tryz.func104 fn104 fb104 (Oo _ _ _ _ _ _ hrow (hq.ext hX) 1 (by decide)) rfl ?_
  rintro v2 w2 ⟨⟨qs,ms,cs,es,rfl,hS⟩,hE2⟩
  have hX:=hX.ext hE2
  have hO:=hO.ext hE2
  have hrl:=hrow.len
  have hB0:=hX.size
  refine pM ?_
  refine p1 (Ao rfl rfl) ?_
  refine p1 (Ao rfl rfl) ?_
  refine pA (pA (Ac (t_n (Ab (Ab (Aa ?_))))))
  refine pM ?_
  refine p1 (A4 rfl rfl) ?_
  refine Ac (t_n ?_)
  refine As rfl (fun hc21=>?_) (fun hc21=>?_)
  ·have hp:putF xss=([],5):=Zd (i:=k) (by omega) (by rcases hS with ⟨h,_⟩ | ⟨_,h⟩;(· exact absurd h hc21);(· omega))
   have he5:es=5:=by rcases hS with ⟨h,_⟩ | ⟨h,_⟩;(· exact absurd h hc21);(· exact h)
   subst he5
   refine Ab (Aa ?_)
   refine pM (pA (pA (Ac (t_n (Al (t_r (b_r (t_r (t_r (b_r (t_r ?_)))))))))))
   refine eR2 ?_
   exact⟨⟨_,_,_,by rw[hp],by rw[hp];exact Own.nil _ _ _ _ _⟩,hX⟩
  have hz:es=0:=Classical.byContradiction hc21
  have hsm:i≤1048576:=by rcases hS with ⟨_,h,_⟩ | ⟨h,_⟩;(· exact h);(· omega)
  have hS:=(hS.resolve_right (fun h=>by omega)).2.2
  refine Ah (t_n (Aa ?_))
  refine pM (pM ?_)
  have hol:=hO.len
  have hsl:=hS.len
  have hft:=Ls (f:=sealF 1) (xss:=xss) (k:=k) (z:=[]) (by omega)
  have hB0:=hX.size
  refine Cr (d:=kByte) (sealF 1 (xss.getD k [])) u23 inf5 rfl Bz rfl rfl hO (Y4 u23 hS.sl) hS.len (Cx _ _ _) (Bw _) (by omega) (by omega) (by omega) (by omega) (by decide) ?_
  intro p25 c25 w3 hO hM3
  have hX:=hX.mod hM3 (Nat.le_refl _)
  refine pA (Ac (b_n (t_n (Aa ?_))))
  refine p1 (A1 rfl rfl (Aj (by omega) (by omega))) ?_
  refine pM (Ac ?_)
  refine t_n (aK ((k+1,p25,m+ms,c25)) ⟨rfl,rfl,trivial⟩ ?_)
  exact⟨⟨hX,⟨by omega,fun j hj=>if h:j<k then hok j h else by rw[show j=k from by omega];omega,by rw[Gr (z:=[]) (by omega)];exact hO⟩⟩,by(dsimp only;omega)⟩
 have hp:putF xss=((xss.take k).flatMap (sealF 1),0):=by rw[Abq (fun i hi=>hok i (by omega)),List.take_of_length_le (by omega)]
 refine Ba (t_e (t_e (Bq (t_n (Ab (Aa ?_))))))
 refine pM (pA (pA (Ac (t_n (Al ?_)))))
 refine eR2 ?_
 exact⟨⟨_,_,_,by rw[hp],by rw[hp];exact hO⟩,hX⟩
end Go.Proofs.Eng
end
section
set_option maxRecDepth 100000
set_option maxHeartbeats 4000000
namespace Go.Proofs.Eng
open Go.RowKit
open Extern.Stop (cell)
theorem Ach:Bg Tryz.prog 232 0=some (31,0):=by kernel_rfl
theorem pl187:Cy Tryz.prog 187=some (.agg #[.int .u8 0,.slice none 0 0],[(0,1),(1,1)]):=by kernel_rfl
theorem pl232:Cy Tryz.prog 232=some (.agg #[.int .i64 0],[(0,1)]):=by kernel_rfl
theorem sz187:(Tryz.prog.info? 187).map (·.size)=some 2:=by kernel_rfl
theorem sz232:(Tryz.prog.info? 232).map (·.size)=some 1:=by kernel_rfl
theorem sz3:(Tryz.prog.info? 3).map (·.size)=some 1:=by kernel_rfl
theorem sz31:(Tryz.prog.info? 31).map (·.size)=some 1:=by kernel_rfl
theorem ua232:(Tryz.prog.underlying 232).map TypeDesc.isRow=some true:=by kernel_rfl
theorem un31:(Tryz.prog.underlying 31).map TypeDesc.isRow=some false:=by kernel_rfl
theorem zr232:(Tryz.prog.info? 232).map (·.zero)=some (some (.agg #[.int .i64 0])):=by kernel_rfl
end Go.Proofs.Eng
end
section
set_option maxRecDepth 100000
set_option maxHeartbeats 4000000
namespace Go.Proofs.Eng
open Go.RowKit
open Extern.Stop (cell)
theorem fb180:Tryz.f180.body.isNone=false:=by kernel_rfl
theorem fb181:Tryz.f181.body.isNone=false:=by kernel_rfl
theorem fb182:Tryz.f182.body.isNone=false:=by kernel_rfl
theorem fn180 : ngB Tryz.f180 = false := by kernel_rfl
theorem fn181 : ngB Tryz.f181 = false := by kernel_rfl
theorem fn182 : ngB Tryz.f182 = false := by kernel_rfl
theorem u3:Tryz.prog.underlying 3=some (.int .i64):=by kernel_rfl
theorem ua187:(Tryz.prog.underlying 187).map TypeDesc.isRow=some true:=by kernel_rfl
theorem un3:(Tryz.prog.underlying 3).map TypeDesc.isRow=some false:=by kernel_rfl
theorem zr187:(Tryz.prog.info? 187).map (·.zero)=some (some (.agg #[.int .u8 0,.slice none 0 0])):=by kernel_rfl
theorem zr3:(Tryz.prog.info? 3).map (·.zero)=some (some (.int .i64 0)):=by kernel_rfl
theorem zr31:(Tryz.prog.info? 31).map (·.zero)=some (some (.int .i64 0)):=by kernel_rfl
end Go.Proofs.Eng
end
section
set_option maxRecDepth 100000
set_option maxHeartbeats 4000000
namespace Go.Proofs.Eng
open Go.RowKit
open Extern.Stop (cell)
theorem fb132:Tryz.f132.body.isNone=false:=by kernel_rfl
theorem fb133:Tryz.f133.body.isNone=false:=by kernel_rfl
theorem fb87:Tryz.f87.body.isNone=false:=by kernel_rfl
theorem fn132 : ngB Tryz.f132 = false := by kernel_rfl
theorem fn133 : ngB Tryz.f133 = false := by kernel_rfl
theorem fn87 : ngB Tryz.f87 = false := by kernel_rfl
theorem Ws:Bg Tryz.prog 187 0=some (5,0):=by kernel_rfl
theorem Mz:Bg Tryz.prog 187 1=some (23,1):=by kernel_rfl
theorem sz22:(Tryz.prog.info? 22).map (·.size)=some 1:=by kernel_rfl
theorem un22:(Tryz.prog.underlying 22).map TypeDesc.isRow=some false:=by kernel_rfl
theorem zr22:(Tryz.prog.info? 22).map (·.zero)=some (some (.slice none 0 0)):=by kernel_rfl
end Go.Proofs.Eng
end
section
set_option maxRecDepth 100000
set_option maxHeartbeats 4000000
namespace Go.Proofs.Eng
open Go.RowKit
open Extern.Stop (cell)
theorem fb49:Tryz.f49.body.isNone=false:=by kernel_rfl
theorem fb85:Tryz.f85.body.isNone=false:=by kernel_rfl
theorem fb86:Tryz.f86.body.isNone=false:=by kernel_rfl
theorem fb96:Tryz.f96.body.isNone=false:=by kernel_rfl
theorem fn49 : ngB Tryz.f49 = false := by kernel_rfl
theorem fn85 : ngB Tryz.f85 = false := by kernel_rfl
theorem fn86 : ngB Tryz.f86 = false := by kernel_rfl
theorem fn96 : ngB Tryz.f96 = false := by kernel_rfl
end Go.Proofs.Eng
end
section
set_option maxRecDepth 100000
set_option maxHeartbeats 4000000
namespace Go.Proofs.Eng
open Go.RowKit
open Extern.Stop (cell)
theorem sz175:(Tryz.prog.info? 175).map (·.size)=some 8:=by kernel_rfl
theorem u175:Tryz.prog.underlying 175=some (.array 8 174):=by kernel_rfl
theorem u213:Tryz.prog.underlying 213=some (.array 64 174):=by kernel_rfl
theorem ua175:(Tryz.prog.underlying 175).map TypeDesc.isRow=some true:=by kernel_rfl
theorem zr175:(Tryz.prog.info? 175).map (·.zero)=some (some (.agg #[.int .u32 0,.int .u32 0,.int .u32 0,.int .u32 0,.int .u32 0,.int .u32 0,.int .u32 0,.int .u32 0])):=by kernel_rfl
theorem zr213:(Tryz.prog.info? 213).map (·.zero)=some (some (.agg #[.int .u32 0,.int .u32 0,.int .u32 0,.int .u32 0,.int .u32 0,.int .u32 0,.int .u32 0,.int .u32 0,.int .u32 0,.int .u32 0,.int .u32 0,.int .u32 0,.int .u32 0,.int .u32 0,.int .u32 0,.int .u32 0,.int .u32 0,.int .u32 0,.int .u32 0,.int .u32 0,.int .u32 0,.int .u32 0,.int .u32 0,.int .u32 0,.int .u32 0,.int .u32 0,.int .u32 0,.int .u32 0,.int .u32 0,.int .u32 0,.int .u32 0,.int .u32 0,.int .u32 0,.int .u32 0,.int .u32 0,.int .u32 0,.int .u32 0,.int .u32 0,.int .u32 0,.int .u32 0,.int .u32 0,.int .u32 0,.int .u32 0,.int .u32 0,.int .u32 0,.int .u32 0,.int .u32 0,.int .u32 0,.int .u32 0,.int .u32 0,.int .u32 0,.int .u32 0,.int .u32 0,.int .u32 0,.int .u32 0,.int .u32 0,.int .u32 0,.int .u32 0,.int .u32 0,.int .u32 0,.int .u32 0,.int .u32 0,.int .u32 0,.int .u32 0])):=by kernel_rfl
end Go.Proofs.Eng
end
section
set_option maxRecDepth 100000
set_option maxHeartbeats 4000000
namespace Go.Proofs.Eng
open Go.RowKit
open Extern.Stop (cell)
theorem fb162:Tryz.f162.body.isNone=false:=by kernel_rfl
theorem fn162 : ngB Tryz.f162 = false := by kernel_rfl
theorem u176:Tryz.prog.underlying 176=some (.array 64 5):=by kernel_rfl
end Go.Proofs.Eng
end
section
set_option maxRecDepth 100000
set_option maxHeartbeats 4000000
namespace Go.Proofs.Eng
open Go.RowKit
open Extern.Stop (cell)
theorem fb126:Tryz.f126.body.isNone=false:=by kernel_rfl
theorem fb81:Tryz.f81.body.isNone=false:=by kernel_rfl
theorem fb82:Tryz.f82.body.isNone=false:=by kernel_rfl
theorem fb83:Tryz.f83.body.isNone=false:=by kernel_rfl
theorem fn126 : ngB Tryz.f126 = false := by kernel_rfl
theorem fn81 : ngB Tryz.f81 = false := by kernel_rfl
theorem fn82 : ngB Tryz.f82 = false := by kernel_rfl
theorem fn83 : ngB Tryz.f83 = false := by kernel_rfl
theorem Rz:Bg Tryz.prog 178 0=some (175,0):=by kernel_rfl
theorem Wt:Bg Tryz.prog 178 1=some (176,8):=by kernel_rfl
theorem Jf:Bg Tryz.prog 178 2=some (3,72):=by kernel_rfl
theorem Ry:Bg Tryz.prog 178 3=some (3,73):=by kernel_rfl
theorem pl178:Cy Tryz.prog 178=some (.agg #[.int .u32 0,.int .u32 0,.int .u32 0,.int .u32 0,.int .u32 0,.int .u32 0,.int .u32 0,.int .u32 0,.int .u8 0,.int .u8 0,.int .u8 0,.int .u8 0,.int .u8 0,.int .u8 0,.int .u8 0,.int .u8 0,.int .u8 0,.int .u8 0,.int .u8 0,.int .u8 0,.int .u8 0,.int .u8 0,.int .u8 0,.int .u8 0,.int .u8 0,.int .u8 0,.int .u8 0,.int .u8 0,.int .u8 0,.int .u8 0,.int .u8 0,.int .u8 0,.int .u8 0,.int .u8 0,.int .u8 0,.int .u8 0,.int .u8 0,.int .u8 0,.int .u8 0,.int .u8 0,.int .u8 0,.int .u8 0,.int .u8 0,.int .u8 0,.int .u8 0,.int .u8 0,.int .u8 0,.int .u8 0,.int .u8 0,.int .u8 0,.int .u8 0,.int .u8 0,.int .u8 0,.int .u8 0,.int .u8 0,.int .u8 0,.int .u8 0,.int .u8 0,.int .u8 0,.int .u8 0,.int .u8 0,.int .u8 0,.int .u8 0,.int .u8 0,.int .u8 0,.int .u8 0,.int .u8 0,.int .u8 0,.int .u8 0,.int .u8 0,.int .u8 0,.int .u8 0,.int .i64 0,.int .i64 0],[(0,8),(8,64),(72,1),(73,1)]):=by kernel_rfl
theorem sz176:(Tryz.prog.info? 176).map (·.size)=some 64:=by kernel_rfl
theorem sz178:(Tryz.prog.info? 178).map (·.size)=some 74:=by kernel_rfl
theorem u132:Tryz.prog.underlying 132=some (.pointer 178):=by kernel_rfl
theorem u181:Tryz.prog.underlying 181=some (.array 8 5):=by kernel_rfl
theorem ua176:(Tryz.prog.underlying 176).map TypeDesc.isRow=some true:=by kernel_rfl
theorem ua178:(Tryz.prog.underlying 178).map TypeDesc.isRow=some true:=by kernel_rfl
theorem zr178:(Tryz.prog.info? 178).map (·.zero)=some (some (.agg #[.int .u32 0,.int .u32 0,.int .u32 0,.int .u32 0,.int .u32 0,.int .u32 0,.int .u32 0,.int .u32 0,.int .u8 0,.int .u8 0,.int .u8 0,.int .u8 0,.int .u8 0,.int .u8 0,.int .u8 0,.int .u8 0,.int .u8 0,.int .u8 0,.int .u8 0,.int .u8 0,.int .u8 0,.int .u8 0,.int .u8 0,.int .u8 0,.int .u8 0,.int .u8 0,.int .u8 0,.int .u8 0,.int .u8 0,.int .u8 0,.int .u8 0,.int .u8 0,.int .u8 0,.int .u8 0,.int .u8 0,.int .u8 0,.int .u8 0,.int .u8 0,.int .u8 0,.int .u8 0,.int .u8 0,.int .u8 0,.int .u8 0,.int .u8 0,.int .u8 0,.int .u8 0,.int .u8 0,.int .u8 0,.int .u8 0,.int .u8 0,.int .u8 0,.int .u8 0,.int .u8 0,.int .u8 0,.int .u8 0,.int .u8 0,.int .u8 0,.int .u8 0,.int .u8 0,.int .u8 0,.int .u8 0,.int .u8 0,.int .u8 0,.int .u8 0,.int .u8 0,.int .u8 0,.int .u8 0,.int .u8 0,.int .u8 0,.int .u8 0,.int .u8 0,.int .u8 0,.int .i64 0,.int .i64 0])):=by kernel_rfl
theorem zr181:(Tryz.prog.info? 181).map (·.zero)=some (some (.agg #[.int .u8 0,.int .u8 0,.int .u8 0,.int .u8 0,.int .u8 0,.int .u8 0,.int .u8 0,.int .u8 0])):=by kernel_rfl
end Go.Proofs.Eng
end
section
set_option maxRecDepth 100000
set_option maxHeartbeats 4000000
namespace Go.Proofs.Eng
open Go.RowKit
open Extern.Stop (cell)
theorem fb191:Tryz.f191.body.isNone=false:=by kernel_rfl
theorem fn191 : ngB Tryz.f191 = false := by kernel_rfl
theorem Je:Bg Tryz.prog 243 0=some (23,0):=by kernel_rfl
theorem Ks:Bg Tryz.prog 243 1=some (31,1):=by kernel_rfl
theorem pl243:Cy Tryz.prog 243=some (.agg #[.slice none 0 0,.int .i64 0],[(0,1),(1,1)]):=by kernel_rfl
theorem u192:Tryz.prog.underlying 192=some (.pointer 243):=by kernel_rfl
end Go.Proofs.Eng
end
section
set_option maxRecDepth 100000
set_option maxHeartbeats 4000000
namespace Go.Proofs.Eng
open Go.RowKit
open Extern.Stop (cell)
theorem fb106:Tryz.f106.body.isNone=false:=by kernel_rfl
theorem fn106 : ngB Tryz.f106 = false := by kernel_rfl
theorem Cg:Bg Tryz.prog 102 2=some (100,2):=by kernel_rfl
theorem Wv:Bg Tryz.prog 102 3=some (3,3):=by kernel_rfl
theorem Hp:Bg Tryz.prog 102 4=some (3,4):=by kernel_rfl
theorem Aci:Bg Tryz.prog 102 5=some (4,5):=by kernel_rfl
theorem Ku:Bg Tryz.prog 102 6=some (4,6):=by kernel_rfl
theorem sz100:(Tryz.prog.info? 100).map (·.size)=some 1:=by kernel_rfl
theorem sz113:(Tryz.prog.info? 113).map (·.size)=some 2:=by kernel_rfl
theorem sz4:(Tryz.prog.info? 4).map (·.size)=some 1:=by kernel_rfl
theorem sz9:(Tryz.prog.info? 9).map (·.size)=some 1:=by kernel_rfl
theorem u100:Tryz.prog.underlying 100=some (.map 9 113):=by kernel_rfl
theorem u34:Tryz.prog.underlying 34=some (.pointer 102):=by kernel_rfl
theorem u74:Tryz.prog.underlying 74=some (.slice 9):=by kernel_rfl
theorem un100:(Tryz.prog.underlying 100).map TypeDesc.isRow=some false:=by kernel_rfl
theorem un4:(Tryz.prog.underlying 4).map TypeDesc.isRow=some false:=by kernel_rfl
theorem un9:(Tryz.prog.underlying 9).map TypeDesc.isRow=some false:=by kernel_rfl
theorem zr113:(Tryz.prog.info? 113).map (·.zero)=some (some (.agg #[.slice none 0 0,.int .i64 0])):=by kernel_rfl
end Go.Proofs.Eng
end
section
set_option maxRecDepth 100000
set_option maxHeartbeats 4000000
namespace Go.Proofs.Eng
open Go.RowKit
open Extern.Stop (cell)
theorem Fs:Bg Tryz.prog 102 1=some (3,1):=by kernel_rfl
theorem Fe:Bg Tryz.prog 113 0=some (23,0):=by kernel_rfl
theorem Wu:Bg Tryz.prog 113 1=some (3,1):=by kernel_rfl
theorem pl113:Cy Tryz.prog 113=some (.agg #[.slice none 0 0,.int .i64 0],[(0,1),(1,1)]):=by kernel_rfl
theorem ua113:(Tryz.prog.underlying 113).map TypeDesc.isRow=some true:=by kernel_rfl
theorem un34:(Tryz.prog.underlying 34).map TypeDesc.isRow=some false:=by kernel_rfl
end Go.Proofs.Eng
end
section
set_option maxRecDepth 100000
set_option maxHeartbeats 4000000
namespace Go.Proofs.Eng
open Go.RowKit
open Extern.Stop (cell)
theorem fb141:Tryz.f141.body.isNone=false:=by kernel_rfl
theorem fb142:Tryz.f142.body.isNone=false:=by kernel_rfl
theorem fb146:Tryz.f146.body.isNone=false:=by kernel_rfl
theorem fb60:Tryz.f60.body.isNone=false:=by kernel_rfl
theorem fb61:Tryz.f61.body.isNone=false:=by kernel_rfl
theorem fb62:Tryz.f62.body.isNone=false:=by kernel_rfl
theorem fb63:Tryz.f63.body.isNone=false:=by kernel_rfl
theorem fb64:Tryz.f64.body.isNone=false:=by kernel_rfl
theorem fb65:Tryz.f65.body.isNone=false:=by kernel_rfl
theorem fn141 : ngB Tryz.f141 = false := by kernel_rfl
theorem fn142 : ngB Tryz.f142 = false := by kernel_rfl
theorem fn146 : ngB Tryz.f146 = false := by kernel_rfl
theorem fn60 : ngB Tryz.f60 = false := by kernel_rfl
theorem fn61 : ngB Tryz.f61 = false := by kernel_rfl
theorem fn62 : ngB Tryz.f62 = false := by kernel_rfl
theorem fn63 : ngB Tryz.f63 = false := by kernel_rfl
theorem fn64 : ngB Tryz.f64 = false := by kernel_rfl
theorem fn65 : ngB Tryz.f65 = false := by kernel_rfl
theorem Acj:Bg Tryz.prog 102 0=some (3,0):=by kernel_rfl
theorem inf9:(Tryz.prog.info? 9).map (fun i=>(i.zero,i.size,i.bytes))=some (some (.string ByteArray.empty),1,16):=by kernel_rfl
end Go.Proofs.Eng
end
section
set_option maxRecDepth 100000
set_option maxHeartbeats 4000000
namespace Go.Proofs.Eng
open Go.RowKit
open Extern.Stop (cell)
theorem fb58:Tryz.f58.body.isNone=false:=by kernel_rfl
theorem fb84:Tryz.f84.body.isNone=false:=by kernel_rfl
theorem fn58 : ngB Tryz.f58 = false := by kernel_rfl
theorem fn84 : ngB Tryz.f84 = false := by kernel_rfl
theorem pl102:Cy Tryz.prog 102=some (.agg #[.int .i64 0,.int .i64 0,.map none,.int .i64 0,.int .i64 0,.bool false,.bool false],[(0,1),(1,1),(2,1),(3,1),(4,1),(5,1),(6,1)]):=by kernel_rfl
end Go.Proofs.Eng
end
section
set_option maxRecDepth 100000
set_option maxHeartbeats 4000000
namespace Go.Proofs.Eng
open Go.RowKit
open Extern.Stop (cell)
theorem fb35:Tryz.f35.body.isNone=false:=by kernel_rfl
theorem fn35 : ngB Tryz.f35 = false := by kernel_rfl
end Go.Proofs.Eng
end
section
set_option maxRecDepth 100000
set_option maxHeartbeats 4000000
namespace Go.Proofs.Eng
open Go.RowKit
open Extern.Stop (cell)
theorem sz102:(Tryz.prog.info? 102).map (·.size)=some 7:=by kernel_rfl
theorem ua102:(Tryz.prog.underlying 102).map TypeDesc.isRow=some true:=by kernel_rfl
theorem zr102:(Tryz.prog.info? 102).map (·.zero)=some (some (.agg #[.int .i64 0,.int .i64 0,.map none,.int .i64 0,.int .i64 0,.bool false,.bool false])):=by kernel_rfl
end Go.Proofs.Eng
end
section
set_option maxRecDepth 100000
set_option maxHeartbeats 4000000
namespace Go.Proofs.Eng
open Go.RowKit
open Extern.Stop (cell)
theorem fb193:Tryz.f193.body.isNone=false:=by kernel_rfl
theorem fn193 : ngB Tryz.f193 = false := by kernel_rfl
end Go.Proofs.Eng
end
section
set_option maxRecDepth 100000
set_option maxHeartbeats 4000000
namespace Go.Proofs.Eng
open Go.RowKit
open Extern.Stop (cell)
theorem G4 (m:Nat) (w:World) (hs:m≤225179981368000) :
    Ret Tryz.prog 193 [.slice none 0 0,.int .i64 (m:Int)] w (fun v w'=>(∃ p c',v = .slice p 0 c'∧Own kByte 5 0 w.heap.size w' p 0 c' [])∧Ext w w'):=by
 have hX:=Ext.refl w
 refine eN 27 Tryz.func193 ?_
 refine Ab (Aa ?_)
 refine pA (Ac (t_n (Ab (Ab (Aa ?_)))))
 refine pM ?_
 refine p1 ((Bv rfl rfl).cast (congrArg _ (decide_eq_false (by omega)))) ?_
 refine Ac (t_n ?_)
 refine c_f rfl ?_
 refine Ah (t_n (Ab (Ab (Aa ?_))))
 refine pM (pM ?_)
 refine p1 (L1 u23 rfl) ?_
 refine pM ?_
 refine p1 (Ak u23 rfl) ?_
 refine p1 (Dt rfl rfl (Aj (by omega) (by omega))) ?_
 refine p1 ((Dt rfl rfl (Aj (by omega) (by omega))).cast (congrArg (Value.int .i64) (show _=(m:Int) by omega))) ?_
 refine pA (Ac (t_n (Ab (Aa ?_))))
 refine pM ?_
 refine p1 (Da rfl rfl) ?_
 refine Ac (t_n ?_)
 refine As rfl (fun hc16=>?_) (fun hc16=>?_)
 ·refine Aa ?_
  refine pM (pM ?_)
  refine p1 (L1 u23 rfl) ?_
  refine p1 (Ew u23 sz5 rfl rfl (Nat.le_refl _)) ?_
  refine pM ?_
  have hXs:=hX.size
  refine Xs (kByte) (m:=m) u23 u3 inf5 rfl Bz rfl rfl (by omega) (by omega) (by omega) ?_
  intro p22 c22 w1 hK22 hge22 hE1
  have hX:=hX.ext hE1
  have hO:=hK22 0 w.heap.size (hXs)
  refine pM ?_
  refine p1 (Ak u23 rfl) ?_
  refine p1 (Ew u23 sz5 rfl rfl (Nat.zero_le _)) ?_
  refine pA (Ac (t_n (Ab (Aa ?_))))
  refine pM (pA (Ac (t_n (Al ?_))))
  refine eR1 ?_
  exact⟨⟨_,_,rfl,hO⟩,hX⟩
 refine Ah (t_n (Ab (Aa ?_)))
 refine pM (pA (Ac (t_n (Al ?_))))
 refine eR1 ?_
 exact⟨⟨_,_,rfl,Own.nil _ _ _ _ _⟩,hX⟩
theorem Js {B:Nat} (xss:List _) (p:Option Addr) (n c:Nat) (w:World) (hl:Sl (kSl kByte 5) 23 B w p n c xss) (hs:xss.flatten.length≤225179981368000) :
    Ret Tryz.prog 144 [.slice p n c] w (fun v w'=>(∃ q m c',v = .slice q m c'∧Own kByte 5 0 w.heap.size w' q m c' xss.flatten)∧Ext w w'):=by
 have hX:=Ext.refl w
 refine eN 36 Tryz.func144 ?_
 refine Ab (Aa ?_)
 refine pA (Ac (t_n (Ab (Aa ?_))))
 refine pA (Ac (t_n (Ab (Ab (Aa ?_)))))
 refine pM ?_
 refine p1 (Ak u22 rfl) ?_
 refine pM (Ac (t_n (Am ?_)))
 have hWL0:=Ext.refl w
 have hlen:=hl.len
 have hfit:=hl.fit
 have hcap:=hl.cap
 refine Bi (ι:=Nat) [3,5,11,12,13,14,15,16,17,18,19,20,21,22] (fun k=>[(3,.int .i64 (((xss.take k).flatten.length:Nat):Int)),(11,.int .i64 (k:Int))]) (fun k w'=>Ext w w'∧(k≤n)) (fun k=>n - k) (0) ⟨rfl,rfl,trivial⟩ ⟨Ext.refl _,by omega⟩ ?_
 rintro k GL0 w1 ⟨hE1,hL⟩
 have hX:=hX.ext hE1
 have hWL0:=hE1
 refine Ab (Aa ?_)
 refine p1 (Bv rfl rfl) ?_
 refine Ac (t_n (Ab ?_))
 refine As rfl (fun hc12=>?_) (fun hc12=>?_)
 ·refine Ah (t_n (Ab (Am (Ab ?_))))
  obtain⟨q1,m1,c1,hcell1,hS1⟩:=(hl.ext hX).slAt k (by omega)
  have hS1l:=hS1.len
  have hadd:=Gx (xss:=xss) (k:=k) (by omega)
  have hsuc:=congrArg List.length (Et (xss:=xss) (k:=k) (by omega))
  rw[List.length_append] at hsuc
  refine Aa ?_
  refine p1 (Dc u22 sz23 rfl rfl ((hl.ext hX).adr Jd (by omega)) (by omega)) ?_
  refine p1 (Ae un23 rfl hcell1) ?_
  refine pA (Ac (t_n (Ab (Aa ?_))))
  refine pM (pM ?_)
  refine p1 (Ak u23 rfl) ?_
  refine p1 ((A1 rfl rfl (Aj (by omega) (by omega))).cast (congrArg (Value.int .i64) (show _=(((xss.take (k+1)).flatten.length:Nat):Int) by omega))) ?_
  refine pA (Ac (t_n (Ab (Aa ?_))))
  refine pM ?_
  refine p1 ((Bv rfl rfl).cast (congrArg _ (decide_eq_false (by omega)))) ?_
  refine Ac (t_n ?_)
  refine c_f rfl ?_
  refine Ah (b_n (t_n (Aa ?_)))
  refine p1 (A1 rfl rfl (Aj (by omega) (by omega))) ?_
  refine pM (Ac ?_)
  refine t_n (aK (k+1) ⟨rfl,rfl,trivial⟩ ?_)
  exact⟨⟨hWL0,by omega⟩,by((show _<_);omega)⟩
 refine Ba (t_e (t_e (Bq (t_n (Ab ?_)))))
 have hle9:=Kv xss k
 have hXs:=hX.size
 refine Aa ?_
 refine pM ?_
 refine Ag Tryz.func193 fn193 fb193 (G4 ((xss.take k).flatten.length:Nat) _ (by omega)) rfl ?_
 rintro v2 w2 ⟨⟨pG,cG,rfl,hO⟩,hE2⟩
 have hX:=hX.ext hE2
 have hO:=hO.lower hXs
 refine pA (Ac (t_n (Ab (Ab (Aa ?_)))))
 refine pM ?_
 refine p1 (Ak u22 rfl) ?_
 refine pM (Ac (t_n (Am ?_)))
 refine Bi (ι:=Nat×Option Addr×Nat×Nat) [6,8,27,28,29,30,31,32,33,34] (fun (k2,q,m,c2)=>[(6,.slice q m c2),(27,.int .i64 (k2:Int))]) (fun (k2,q,m,c2) w'=>Ext w w'∧(Own kByte 5 0 w.heap.size w' q m c2 (xss.take k2).flatten∧k2≤n)) (fun (k2,q,m,c2)=>n - k2) ((0,pG,0,cG)) ⟨rfl,rfl,trivial⟩ ⟨hX,⟨by simpa using hO,by omega⟩⟩ ?_
 rintro⟨k2,q,m,c2⟩ GL2 w3 ⟨hE3,hO,hk2⟩
 have hX:=hE3
 refine Ab (Aa ?_)
 refine p1 (Bv rfl rfl) ?_
 refine Ac (t_n (Ab ?_))
 refine As rfl (fun hc28=>?_) (fun hc28=>?_)
 ·refine Ah (t_n (Ab (Am (Ab ?_))))
  obtain⟨q2,m2,c3,hcell2,hS2⟩:=(hl.ext hX).slAt k2 (by omega)
  have hS2l:=hS2.len
  have hOl:=hO.len
  have hadd2:=Gx (xss:=xss) (k:=k2) (by omega)
  refine Aa ?_
  refine p1 (Dc u22 sz23 rfl rfl ((hl.ext hX).adr Jd (by omega)) (by omega)) ?_
  refine p1 (Ae un23 rfl hcell2) ?_
  refine pA (Ac (t_n (Aa ?_)))
  refine pM (pM ?_)
  have hq1:=hX.size
  refine Cr (d:=kByte) (xss.getD k2 []) u23 inf5 rfl Bz rfl rfl hO (Dv u23 hS2 (by decide)) hS2.len (Cx _ _ _) (rfl) (by omega) (by omega) (by omega) (by omega) (by decide) ?_
  intro p33 c33 w4 hO hM4
  have hX:=hX.mod hM4 (Nat.le_refl _)
  refine pA (Ac (b_n (t_n (Aa ?_))))
  refine p1 (A1 rfl rfl (Aj (by omega) (by omega))) ?_
  refine pM (Ac ?_)
  refine t_n (aK ((k2+1,p33,m+m2,c33)) ⟨rfl,rfl,trivial⟩ ?_)
  exact⟨⟨hX,⟨by rw[Et (by omega)];exact hO,by omega⟩⟩,by(dsimp only;omega)⟩
 have hkn:k2=n:=by omega
 rw[hkn,List.take_of_length_le (by omega)] at hO
 refine Ba (t_e (t_e (Bq (t_n (Ab (Aa ?_))))))
 refine pM (pA (Ac (t_n (Al ?_))))
 refine eR1 ?_
 exact⟨⟨_,_,_,rfl,hO⟩,hX⟩
end Go.Proofs.Eng
end
section
set_option maxRecDepth 100000
set_option maxHeartbeats 4000000
namespace Go.Proofs.Eng
open Go.RowKit
open Extern.Stop (cell)
theorem fb144:Tryz.f144.body.isNone=false:=by kernel_rfl
theorem fn144 : ngB Tryz.f144 = false := by kernel_rfl
theorem Ot:Bg Tryz.prog 99 0=some (3,0):=by kernel_rfl
theorem Id:Bg Tryz.prog 99 1=some (3,1):=by kernel_rfl
theorem Rx:Bg Tryz.prog 99 2=some (23,2):=by kernel_rfl
end Go.Proofs.Eng
end
section
set_option maxRecDepth 100000
set_option maxHeartbeats 4000000
namespace Go.Proofs.Eng
open Go.RowKit
open Extern.Stop (cell)
theorem Kj (seg size : Int) (xs : List UInt8) (B : Nat) (p : Option Addr) (n c : Nat) (w : World) (hl : Sl kByte 5 B w p n c xs) (hq : Qt w) :
    Ret Tryz.prog 97 [.agg #[.int .i64 seg, .int .i64 size, .slice p n c]] w (fun v w' => (∃ q m c' e, v = .tuple #[.slice q m c', .int .i64 e] ∧ e = errM seg size xs ∧ ((e = 0 ∧ (∃ s z : Nat, seg = (s : Int) ∧ size = (z : Int) ∧ (Mf.mk s z xs).Ok ∧ Own kByte 5 0 w.heap.size w' q m c' (manB ⟨s, z, xs⟩))) ∨ (e ≠ 0 ∧ ¬ (∃ s z : Nat, seg = (s : Int) ∧ size = (z : Int) ∧ (Mf.mk s z xs).Ok)))) ∧ Ext w w') := by
 have hX := Ext.refl w
 refine enter 43 _ Tryz.func97 rfl rfl (Nat.le_of_ble_eq_true rfl) rfl ?_
 refine Ab (Aa ?_)
 refine Eh (by conv => lhs; whnf) ?_
 intro w1 g1 hN1
 have hE1 := hN1.ext
 have hX := hX.ext hE1
 have hB1 := hN1.blk
 refine p1 (A0 (by conv => lhs; whnf)) ?_
 refine p1 (A0 (by conv => lhs; whnf)) ?_
 refine Ac (t_n (Ab (Am (Ab ?_))))
 have hWr1 := Ext.refl w1
 refine Gv (ι := Unit) [4, 5, 6, 7, 8, 9, 10, 11, 12, 13, 14, 15, 16, 17, 18, 19, 20, 21, 22] (fun _ => [(4, .bool (decide (seg < 1 ∨ 999999 < seg ∨ size < 0 ∨ 16777216 < size)))]) (fun _ w' => Ext w1 w') ?_ ?_
 ·skip
  refine Aa ?_
  refine p1 (Ad Ot sz3 rfl) ?_
  refine p1 (Ae un3 rfl (hB1.cell (rfl))) ?_
  refine p1b (Bv rfl rfl) (fun hb1_2 => ?_) (fun hb1_2 => ?_)
  ·try simp only [dA, dB, dC, dD, dE, dF, dG, Int.not_lt, Int.not_le] at hb1_2
   refine p1 (Ai (by conv => lhs; whnf)) ?_
   refine Eng.g0 8 rfl (by first | exact .inl rfl | exact .inr rfl) ?_
   refine Eng.g0 8 rfl (by first | exact .inl rfl | exact .inr rfl) ?_
   refine Eng.g0 8 rfl (by first | exact .inl rfl | exact .inr rfl) ?_
   refine p1 (Ar rfl (by conv => lhs; whnf)) ?_
   refine p1 (Ai (by conv => lhs; whnf)) ?_
   refine Eng.g0 13 rfl (by first | exact .inl rfl | exact .inr rfl) ?_
   refine Eng.g0 13 rfl (by first | exact .inl rfl | exact .inr rfl) ?_
   refine Eng.g0 13 rfl (by first | exact .inl rfl | exact .inr rfl) ?_
   refine p1 (Ar rfl (by conv => lhs; whnf)) ?_
   refine p1 (Ai (by conv => lhs; whnf)) ?_
   refine Eng.g0 18 rfl (by first | exact .inl rfl | exact .inr rfl) ?_
   refine Eng.g0 18 rfl (by first | exact .inl rfl | exact .inr rfl) ?_
   refine Eng.g0 18 rfl (by first | exact .inl rfl | exact .inr rfl) ?_
   refine p1 (Ar rfl (by conv => lhs; whnf)) ?_
   refine p1 (A0 (by conv => lhs; whnf)) ?_
   refine Ac ?_
   refine t_n (At.mk () (by repeat (first | exact Agr.refl _ _ | exact Agr.hav _ _ _ | refine Agr.upd rfl ?_ | refine Agr.updR rfl ?_ | refine Agr.updL ?_ _ rfl | refine Agr.hav' rfl ?_)) ⟨congrArg Value.bool (by first | rfl | exact (decide_eq_true (by omega)).symm | exact (decide_eq_false (by omega)).symm | exact decide_eq_decide.2 (by omega) | (simp_all; done) | grind), trivial⟩ hWr1)
  ·try simp only [dA, dB, dC, dD, dE, dF, dG, Int.not_lt, Int.not_le] at hb1_2
   refine p1 (Ai (by conv => lhs; whnf)) ?_
   refine Eng.g1 8 rfl rfl (Ad Ot sz3 rfl) ?_
   refine Eng.g1 8 rfl rfl (Ae un3 rfl (hB1.cell (rfl))) ?_
   refine g1b 8 rfl rfl (Da rfl rfl) (fun hb1_6 => ?_) (fun hb1_6 => ?_)
   ·try simp only [dA, dB, dC, dD, dE, dF, dG, Int.not_lt, Int.not_le] at hb1_6
    refine p1 (Ap rfl (by conv => lhs; whnf)) ?_
    refine p1 (Ai (by conv => lhs; whnf)) ?_
    refine Eng.g0 13 rfl (by first | exact .inl rfl | exact .inr rfl) ?_
    refine Eng.g0 13 rfl (by first | exact .inl rfl | exact .inr rfl) ?_
    refine Eng.g0 13 rfl (by first | exact .inl rfl | exact .inr rfl) ?_
    refine p1 (Ar rfl (by conv => lhs; whnf)) ?_
    refine p1 (Ai (by conv => lhs; whnf)) ?_
    refine Eng.g0 18 rfl (by first | exact .inl rfl | exact .inr rfl) ?_
    refine Eng.g0 18 rfl (by first | exact .inl rfl | exact .inr rfl) ?_
    refine Eng.g0 18 rfl (by first | exact .inl rfl | exact .inr rfl) ?_
    refine p1 (Ar rfl (by conv => lhs; whnf)) ?_
    refine p1 (A0 (by conv => lhs; whnf)) ?_
    refine Ac ?_
    refine t_n (At.mk () (by repeat (first | exact Agr.refl _ _ | exact Agr.hav _ _ _ | refine Agr.upd rfl ?_ | refine Agr.updR rfl ?_ | refine Agr.updL ?_ _ rfl | refine Agr.hav' rfl ?_)) ⟨congrArg Value.bool (by first | rfl | exact (decide_eq_true (by omega)).symm | exact (decide_eq_false (by omega)).symm | exact decide_eq_decide.2 (by omega) | (simp_all; done) | grind), trivial⟩ hWr1)
   ·try simp only [dA, dB, dC, dD, dE, dF, dG, Int.not_lt, Int.not_le] at hb1_6
    refine p1 (Ap rfl (by conv => lhs; whnf)) ?_
    refine p1 (Ai (by conv => lhs; whnf)) ?_
    refine Eng.g1 13 rfl rfl (Ad Id sz3 rfl) ?_
    refine Eng.g1 13 rfl rfl (Ae un3 rfl (hB1.cell (rfl))) ?_
    refine g1b 13 rfl rfl (Bv rfl rfl) (fun hb1_11 => ?_) (fun hb1_11 => ?_)
    ·try simp only [dA, dB, dC, dD, dE, dF, dG, Int.not_lt, Int.not_le] at hb1_11
     refine p1 (Ap rfl (by conv => lhs; whnf)) ?_
     refine p1 (Ai (by conv => lhs; whnf)) ?_
     refine Eng.g0 18 rfl (by first | exact .inl rfl | exact .inr rfl) ?_
     refine Eng.g0 18 rfl (by first | exact .inl rfl | exact .inr rfl) ?_
     refine Eng.g0 18 rfl (by first | exact .inl rfl | exact .inr rfl) ?_
     refine p1 (Ar rfl (by conv => lhs; whnf)) ?_
     refine p1 (A0 (by conv => lhs; whnf)) ?_
     refine Ac ?_
     refine t_n (At.mk () (by repeat (first | exact Agr.refl _ _ | exact Agr.hav _ _ _ | refine Agr.upd rfl ?_ | refine Agr.updR rfl ?_ | refine Agr.updL ?_ _ rfl | refine Agr.hav' rfl ?_)) ⟨congrArg Value.bool (by first | rfl | exact (decide_eq_true (by omega)).symm | exact (decide_eq_false (by omega)).symm | exact decide_eq_decide.2 (by omega) | (simp_all; done) | grind), trivial⟩ hWr1)
    ·try simp only [dA, dB, dC, dD, dE, dF, dG, Int.not_lt, Int.not_le] at hb1_11
     refine p1 (Ap rfl (by conv => lhs; whnf)) ?_
     refine p1 (Ai (by conv => lhs; whnf)) ?_
     refine Eng.g1 18 rfl rfl (Ad Id sz3 rfl) ?_
     refine Eng.g1 18 rfl rfl (Ae un3 rfl (hB1.cell (rfl))) ?_
     refine g1b 18 rfl rfl (Da rfl rfl) (fun hb1_16 => ?_) (fun hb1_16 => ?_)
     ·try simp only [dA, dB, dC, dD, dE, dF, dG, Int.not_lt, Int.not_le] at hb1_16
      refine p1 (Ap rfl (by conv => lhs; whnf)) ?_
      refine p1 (A0 (by conv => lhs; whnf)) ?_
      refine Ac ?_
      refine t_n (At.mk () (by repeat (first | exact Agr.refl _ _ | exact Agr.hav _ _ _ | refine Agr.upd rfl ?_ | refine Agr.updR rfl ?_ | refine Agr.updL ?_ _ rfl | refine Agr.hav' rfl ?_)) ⟨congrArg Value.bool (by first | rfl | exact (decide_eq_true (by omega)).symm | exact (decide_eq_false (by omega)).symm | exact decide_eq_decide.2 (by omega) | (simp_all; done) | grind), trivial⟩ hWr1)
     ·try simp only [dA, dB, dC, dD, dE, dF, dG, Int.not_lt, Int.not_le] at hb1_16
      refine p1 (Ap rfl (by conv => lhs; whnf)) ?_
      refine p1 (A0 (by conv => lhs; whnf)) ?_
      refine Ac ?_
      refine t_n (At.mk () (by repeat (first | exact Agr.refl _ _ | exact Agr.hav _ _ _ | refine Agr.upd rfl ?_ | refine Agr.updR rfl ?_ | refine Agr.updL ?_ _ rfl | refine Agr.hav' rfl ?_)) ⟨congrArg Value.bool (by first | rfl | exact (decide_eq_true (by omega)).symm | exact (decide_eq_false (by omega)).symm | exact decide_eq_decide.2 (by omega) | (simp_all; done) | grind), trivial⟩ hWr1)
 ·rintro _ Gr1 w2 hE2
  have hX := hX.ext hE2
  have hB1 := hB1.ext hE2
  refine t_n ?_
  first | refine As rfl (fun hc4 => ?_) (fun hc4 => ?_) | refine Iq rfl (fun hc4 => ?_) (fun hc4 => ?_)
  ·try simp only [dA, dB, dC, dD, dE, dF, dG, Int.not_lt, Int.not_le] at hc4
   refine Ab (Aa ?_)
   refine p1 (A0 (by conv => lhs; whnf)) ?_
   refine p1 (A0 (by conv => lhs; whnf)) ?_
   refine Ac (t_n (Al (b_r (t_r ?_))))
   refine end2 rfl (by conv => lhs; whnf) (by conv => lhs; whnf) ?_
   first
     | exact ⟨⟨_, _, _, _, rfl, by unfold errM; first | (rw [if_pos (by omega)]) | (rw [if_neg (by omega), if_pos (by omega)]), .inr ⟨by decide, fun ⟨s, z, h1, h2, h3⟩ => by have := h3.lo; have := h3.hi; have := h3.sz; have := h3.ix; simp only at *; omega⟩⟩, hX⟩
     | exact ⟨⟨_, _, _, _, rfl, (M0.2 hok).symm, .inl ⟨rfl, s, z, rfl, rfl, hok, hS⟩⟩, hX⟩
  ·try simp only [dA, dB, dC, dD, dE, dF, dG, Int.not_lt, Int.not_le] at hc4
   refine Ab ?_
   have hlen := hl.len
   have hfit := hl.fit
   have hcap := hl.cap
   refine Aa ?_
   refine p1 (Ad Rx sz23 rfl) ?_
   refine p1 (Ae un23 rfl (hB1.cell (rfl))) ?_
   refine p1 (Ak u23 rfl) ?_
   refine p1 (Da rfl rfl) ?_
   refine p1 (A0 (by conv => lhs; whnf)) ?_
   refine Ac (t_n ?_)
   first | refine As rfl (fun hc23 => ?_) (fun hc23 => ?_) | refine Iq rfl (fun hc23 => ?_) (fun hc23 => ?_)
   ·try simp only [dA, dB, dC, dD, dE, dF, dG, Int.not_lt, Int.not_le] at hc23
    refine Ab (Aa ?_)
    refine p1 (A0 (by conv => lhs; whnf)) ?_
    refine p1 (A0 (by conv => lhs; whnf)) ?_
    refine Ac (t_n (Al (b_r (t_r ?_))))
    refine end2 rfl (by conv => lhs; whnf) (by conv => lhs; whnf) ?_
    first
      | exact ⟨⟨_, _, _, _, rfl, by unfold errM; first | (rw [if_pos (by omega)]) | (rw [if_neg (by omega), if_pos (by omega)]), .inr ⟨by decide, fun ⟨s, z, h1, h2, h3⟩ => by have := h3.lo; have := h3.hi; have := h3.sz; have := h3.ix; simp only at *; omega⟩⟩, hX⟩
      | exact ⟨⟨_, _, _, _, rfl, (M0.2 hok).symm, .inl ⟨rfl, s, z, rfl, rfl, hok, hS⟩⟩, hX⟩
   ·try simp only [dA, dB, dC, dD, dE, dF, dG, Int.not_lt, Int.not_le] at hc23
    obtain ⟨s, rfl⟩ : ∃ s : Nat, seg = (s : Int) := ⟨seg.toNat, by omega⟩
    obtain ⟨z, rfl⟩ : ∃ z : Nat, size = (z : Int) := ⟨size.toNat, by omega⟩
    have hok : (Mf.mk s z xs).Ok := ⟨by show 1 ≤ s; omega, by show s ≤ 999999; omega, by show z ≤ 16777216; omega, by show xs.length ≤ 524288; omega⟩
    have hmb := H2 hok
    refine Ah (b_n (t_n (Ab ?_)))
    refine Bx (fun w1 w2 => Ext w1 w2) mixed ?_
    intro w3 hE3
    have hX := hX.ext hE3
    have hB1 := hB1.ext hE3
    have hSr5 : (fun w1 w2 => Ext w1 w2) w3 w3 := Ext.refl w3
    refine Aab 0 rfl (by kernel_rfl) (by kernel_rfl) (by kernel_rfl) hSr5 (fun wS hSS => by (have hX := hX.ext hSS; have hB1 := hB1.ext hSS; exact (Ad Ot sz3 rfl))) ?_
    refine Aab 1 rfl (by kernel_rfl) (by kernel_rfl) (by kernel_rfl) hSr5 (fun wS hSS => by (have hX := hX.ext hSS; have hB1 := hB1.ext hSS; exact (Ae un3 rfl (hB1.cell (rfl))))) ?_
    refine Aab 2 rfl (by kernel_rfl) (by kernel_rfl) (by kernel_rfl) hSr5 (fun wS hSS => by (have hX := hX.ext hSS; have hB1 := hB1.ext hSS; exact (Cs u180 us3 rfl (Eb (by omega) (by omega))))) ?_
    refine Aab 4 rfl (by kernel_rfl) (by kernel_rfl) (by kernel_rfl) hSr5 (fun wS hSS => by (have hX := hX.ext hSS; have hB1 := hB1.ext hSS; exact (Ad Id sz3 rfl))) ?_
    refine Aab 5 rfl (by kernel_rfl) (by kernel_rfl) (by kernel_rfl) hSr5 (fun wS hSS => by (have hX := hX.ext hSS; have hB1 := hB1.ext hSS; exact (Ae un3 rfl (hB1.cell (rfl))))) ?_
    refine Aab 6 rfl (by kernel_rfl) (by kernel_rfl) (by kernel_rfl) hSr5 (fun wS hSS => by (have hX := hX.ext hSS; have hB1 := hB1.ext hSS; exact (Cs u180 us3 rfl (Eb (by omega) (by omega))))) ?_
    refine Aab 8 rfl (by kernel_rfl) (by kernel_rfl) (by kernel_rfl) hSr5 (fun wS hSS => by (have hX := hX.ext hSS; have hB1 := hB1.ext hSS; exact (Ad Rx sz23 rfl))) ?_
    refine Aab 9 rfl (by kernel_rfl) (by kernel_rfl) (by kernel_rfl) hSr5 (fun wS hSS => by (have hX := hX.ext hSS; have hB1 := hB1.ext hSS; exact (Ae un23 rfl (hB1.cell (rfl))))) ?_
    refine Aek 3 _ rfl (by kernel_rfl) (Cd (fun Q3 hQ3 => ?_))
    refine Ag Tryz.func145 fn145 fb145 (N8 s (by omega) _) rfl ?_
    rintro v4 w4 ⟨⟨q31, l31, c31, rfl, hU⟩, hE4⟩
    have hX := hX.ext hE4
    have hB1 := hB1.ext hE4
    have hSr5 := hSr5.ext hE4
    refine An hQ3 ⟨hSr5, ?_⟩
    refine Aek 7 _ rfl (by kernel_rfl) (Cd (fun Q7 hQ7 => ?_))
    refine Ag Tryz.func145 fn145 fb145 (N8 z (by omega) _) rfl ?_
    rintro v5 w5 ⟨⟨q35, l35, c35, rfl, hV⟩, hE5⟩
    have hX := hX.ext hE5
    have hB1 := hB1.ext hE5
    have hSr5 := hSr5.ext hE5
    have hU := hU.ext hE5
    refine An hQ7 ⟨hSr5, ?_⟩
    refine Aek 10 _ rfl (by kernel_rfl) (Cd (fun Q10 hQ10 => ?_))
    refine Au u22 inf23 rfl (by decide) (fun base hb => fill3 (by rfl) (by rfl) (by rfl) base hb) ?_
    intro w6 g38 hN38
    have hE6 := hN38.ext
    have hX := hX.ext hE6
    have hB1 := hB1.ext hE6
    have hSr5 := hSr5.ext hE6
    have hU := hU.ext hE6
    have hV := hV.ext hE6
    have hJ := S4 hN38 (hU.sl.mono (Nat.zero_le B)) (hV.sl.mono (Nat.zero_le B)) (hl.ext hX)
    have e3 : [lebU s, lebU z, xs].flatten = Db ⟨s, z, xs⟩ := by simp [Db]
    refine An hQ10 ⟨hSr5, ?_⟩
    refine Aek 11 _ rfl (by kernel_rfl) (Cd (fun Q11 hQ11 => ?_))
    refine Ag Tryz.func144 fn144 fb144 (Js _ _ _ _ _ hJ (by rw [e3]; omega)) rfl ?_
    rintro v7 w7 ⟨⟨q39, m39, c39, rfl, hO⟩, hE7⟩
    have hX := hX.ext hE7
    have hB1 := hB1.ext hE7
    have hSr5 := hSr5.ext hE7
    have hU := hU.ext hE7
    have hV := hV.ext hE7
    have hJ := hJ.ext hE7
    rw [e3] at hO
    have hol := hO.len
    have hXs := hX.size
    refine An hQ11 ⟨hSr5, ?_⟩
    refine Aek 12 _ rfl (by kernel_rfl) (Cd (fun Q12 hQ12 => ?_))
    refine Ag Tryz.func104 fn104 fb104 (Oo _ _ _ _ _ _ hO.sl (hq.ext hX) 3 (by decide)) rfl ?_
    rintro v8 w8 ⟨⟨qs, ms, cs, es, rfl, hS⟩, hE8⟩
    have hX := hX.ext hE8
    have hB1 := hB1.ext hE8
    have hSr5 := hSr5.ext hE8
    have hO := hO.ext hE8
    obtain ⟨rfl, _, hS⟩ := hS.resolve_right (fun h => by omega)
    have hS := hS.lower hXs
    refine An hQ12 ⟨hSr5, ?_⟩
    refine Aab 13 rfl (by kernel_rfl) (by kernel_rfl) (by kernel_rfl) hSr5 (fun wS hSS => by ( exact (Ao rfl rfl))) ?_
    refine Aab 14 rfl (by kernel_rfl) (by kernel_rfl) (by kernel_rfl) hSr5 (fun wS hSS => by ( exact (Ao rfl rfl))) ?_
    refine Aab 15 rfl (by kernel_rfl) (by kernel_rfl) (by kernel_rfl) hSr5 (fun wS hSS => by ( exact (A0 (by conv => lhs; whnf)))) ?_
    refine Aab 16 rfl (by kernel_rfl) (by kernel_rfl) (by kernel_rfl) hSr5 (fun wS hSS => by ( exact (A0 (by conv => lhs; whnf)))) ?_
    refine Bo (by kernel_rfl) ?_
    refine t_n (Al ?_)
    refine end2 rfl (by conv => lhs; whnf) (by conv => lhs; whnf) ?_
    first
      | exact ⟨⟨_, _, _, _, rfl, by unfold errM; first | (rw [if_pos (by omega)]) | (rw [if_neg (by omega), if_pos (by omega)]), .inr ⟨by decide, fun ⟨s, z, h1, h2, h3⟩ => by have := h3.lo; have := h3.hi; have := h3.sz; have := h3.ix; simp only at *; omega⟩⟩, hX⟩
      | exact ⟨⟨_, _, _, _, rfl, (M0.2 hok).symm, .inl ⟨rfl, s, z, rfl, rfl, hok, hS⟩⟩, hX⟩
end Go.Proofs.Eng
end
section
set_option maxRecDepth 100000
set_option maxHeartbeats 4000000
namespace Go.Proofs.Eng
open Go.RowKit
open Extern.Stop (cell)
def Rdr (w:World) (g:Nat) (R:List UInt8) (err:Int):Prop:=∃ q m c,Blk w g #[.slice q m c,.int .i64 err] 243∧Sl kByte 5 0 w q m c R
theorem Rdr.ext {w w':World} {g:Nat} {R:List UInt8} {err:Int} (h:Rdr w g R err) (x:Ext w w'):Rdr w' g R err:=by
  obtain⟨q,m,c,h1,h2⟩:=h
  exact⟨q,m,c,h1.ext x,h2.ext x⟩
theorem Rdr.mod {w w':World} {g:Nat} {R:List UInt8} {err:Int} (h:Rdr w g R err) {B:Nat} {t:TypeId} (m:Mod B t w w') (_:0≤B) (ht:t∉[243,5]):Rdr w' g R err:=by
  obtain⟨q,m',c,h1,h2⟩:=h
  exact⟨q,m',c,h1.mod m (fun e=>ht (by simp[e])),h2.mod m (Nat.zero_le _) (fun e=>ht (by simp[kByte,Kind.pure] at e;simp[e]))⟩
theorem Zx (xs:List UInt8) (B:Nat) (p:Option Addr) (n c:Nat) (w:World) (hl:Sl kByte 5 B w p n c xs) (hs:n≤140737490000000) :
    Ret Tryz.prog 136 [.slice p n c] w (fun v w'=>(∃ g,v = .pointer (some ⟨g,0,none⟩)∧w.heap.size≤g∧Rdr w' g xs 0)∧Ext w w'):=by
 have hX:=Ext.refl w
 refine eN 14 Tryz.func136 ?_
 refine Ab (Aa ?_)
 refine pA (Ac (t_n (Ab (Aa ?_))))
 refine pM ?_
 have hO0:Own kByte 5 0 w.heap.size w none 0 0 []:=Own.nil _ _ _ _ _
 have hB0:=hX.size
 have hl2:=hl.ext hX
 refine Cr (d:=kByte) (xs) u23 inf5 rfl Bz rfl rfl hO0 (Dv u23 hl2 (by decide)) hl.len (Cx _ _ _) (rfl) (by omega) (by omega) (by omega) (by omega) (by decide) ?_
 intro p5 c5 w1 hO hM1
 have hX:=hX.mod hM1 (Nat.le_refl _)
 rw[List.nil_append,Nat.zero_add] at hO
 refine pA (Ac (t_n (Ab (Aa ?_))))
 refine pM (pM ?_)
 refine p1 (Ak u23 rfl) ?_
 refine pM ?_
 refine p1 (Ak u23 rfl) ?_
 refine p1 (Sg u23 sz5 rfl rfl rfl (Nat.le_refl _) (by have:=hO.small;omega)) ?_
 refine p1 (L2 pl243 (by conv=>lhs;whnf) rfl) ?_
 have hX2:=hX.size
 have hsm:=hO.small
 refine Eh (by conv=>lhs;whnf) ?_
 intro w2 g13 hN13
 have hE2:=hN13.ext
 have hX:=hX.ext hE2
 have hO:=hO.ext hE2
 have hB13:=hN13.blk
 refine pA (Ac (t_n (Al ?_)))
 refine eR1 ?_
 exact⟨⟨_,rfl,by have:=hN13.g_eq;omega,_,_,_,hB13,by have h9:=hO.sl;exact⟨h9.len,Nat.le_refl _,by omega,h9.row⟩⟩,hX⟩
theorem U0 (R:List UInt8) (g:Nat) (err:Int) (w:World) (hR:Rdr w g R err) :
    Ret Tryz.prog 139 [.pointer (some ⟨g,0,none⟩)] w (fun v w'=>v = .int .i64 err∧Ext w w'):=by
 obtain⟨q,m,c,hB,hS⟩:=hR
 have hX:=Ext.refl w
 refine eN 9 Tryz.func139 ?_
 refine Ab (Aa ?_)
 refine pA (Ac (t_n (Ab (Ab (Aa ?_)))))
 refine pM ?_
 refine p1 ((A9 u192 rfl rfl).cast (congrArg _ (decide_eq_false (by simp)))) ?_
 refine Ac (t_n ?_)
 refine c_f rfl ?_
 refine Ah (t_n (Ab (Aa ?_)))
 refine pM ?_
 refine p1 (Af rfl) ?_
 refine p1 (Ad Ks sz31 rfl) ?_
 refine p1 (Ae un31 rfl (hB.cell (rfl))) ?_
 refine pA (Ac (t_n (Al ?_)))
 refine eR1 ?_
 exact⟨rfl,hX⟩
theorem Td (R:List UInt8) (g:Nat) (err:Int) (w:World) (hR:Rdr w g R err) :
    Ret Tryz.prog 138 [.pointer (some ⟨g,0,none⟩)] w (fun v w'=>v = .int .i64 (R.length:Int)∧Ext w w'):=by
 obtain⟨q,m,c,hB,hS⟩:=hR
 have hX:=Ext.refl w
 refine eN 10 Tryz.func138 ?_
 refine Ab (Aa ?_)
 refine pA (Ac (t_n (Ab (Ab (Aa ?_)))))
 refine pM ?_
 refine p1 ((A9 u192 rfl rfl).cast (congrArg _ (decide_eq_false (by simp)))) ?_
 refine Ac (t_n ?_)
 refine c_f rfl ?_
 refine Ah (t_n (Ab (Aa ?_)))
 refine pM ?_
 refine p1 (Af rfl) ?_
 refine p1 (Ad Je sz23 rfl) ?_
 refine p1 (Ae un23 rfl (hB.cell (rfl))) ?_
 refine p1 (Ak u23 rfl) ?_
 refine pA (Ac (t_n (Al ?_)))
 refine eR1 ?_
 exact⟨by rw[hS.len],hX⟩
theorem L6 (R:List UInt8) (g:Nat) (err:Int) (w:World) (hR:Rdr w g R err) (e:Int) (used:Nat) (hu:used≤R.length) :
    Ret Tryz.prog 191 [.pointer (some ⟨g,0,none⟩),.int .i64 (used:Int),.int .i64 e] w (fun v w'=>v = .bool (decide ((if err=0 then e else err)=0))∧Rdr w' g (if (if err=0 then e else err)=0 then R.drop used else R) (if err=0 then e else err)∧Mod g 243 w w'):=by
 obtain⟨q,m,c,hB,hS⟩:=hR
 have hX:=Mod.refl g 243 w
 refine eN 30 Tryz.func191 ?_
 refine Ab (Aa ?_)
 refine pA (Ac (t_n (Ab (Ab ?_))))
 have hlen:=hS.len
 refine Aa ?_
 refine pM ?_
 refine p1 (Af rfl) ?_
 refine p1 (Ad Ks sz31 rfl) ?_
 refine p1 (Ae un31 rfl (hB.cell (rfl))) ?_
 refine p1 (Bs rfl rfl) ?_
 refine Ac (t_n ?_)
 refine As rfl (fun hc11=>?_) (fun hc11=>?_)
 ·have h2:(if err=0 then e else err)=e:=if_pos hc11
  refine Aa ?_
  refine pM (pM ?_)
  refine p1 (Af rfl) ?_
  refine p1 (Ad Ks sz31 rfl) ?_
  refine Aq rfl (by conv=>lhs;whnf) rfl rfl sz31 hB (by simp) ?_
  intro w1 hP1
  have hX:=hX.putB hP1 (Nat.le_refl _)
  have hB:=hP1.blk
  try simp only[List.setIfInBounds_toArray,List.set_cons_zero,List.set_cons_succ] at hB
  have hS:=hS.mod (hP1.mod 0 (Nat.zero_le _)) (Nat.zero_le _) (by decide)
  refine Ac (t_n (Ab (Ab (Aa ?_))))
  refine pM ?_
  refine p1 (Af rfl) ?_
  refine p1 (Ad Ks sz31 rfl) ?_
  refine p1 (Ae un31 rfl (hB.cell (rfl))) ?_
  refine p1 (A4 rfl rfl) ?_
  refine Ac (t_n ?_)
  refine As rfl (fun hc20=>?_) (fun hc20=>?_)
  ·refine Ab (Aa ?_)
   refine pA (Ac (t_n (Al (t_r ?_))))
   refine eR1 ?_
   rw[h2]
   exact⟨congrArg Value.bool (decide_eq_false (by omega)).symm,by rw[if_neg (by omega)];exact⟨_,_,_,hB,hS⟩,hX⟩
  refine Ah (t_n (Ab (Aa ?_)))
  refine pM (pM ?_)
  refine p1 (Af rfl) ?_
  refine p1 (Ad Je sz23 rfl) ?_
  refine p1 (Ae un23 rfl (hB.cell (rfl))) ?_
  refine pM ?_
  refine p1 (Ef u23 sz5 rfl rfl (by omega)) ?_
  refine p1 (Af rfl) ?_
  refine p1 (Ad Je sz23 rfl) ?_
  refine Aq rfl (by conv=>lhs;whnf) rfl rfl sz23 hB (by simp) ?_
  intro w2 hP2
  have hX:=hX.putB hP2 (Nat.le_refl _)
  have hB:=hP2.blk
  try simp only[List.setIfInBounds_toArray,List.set_cons_zero,List.set_cons_succ] at hB
  have hS:=hS.mod (hP2.mod 0 (Nat.zero_le _)) (Nat.zero_le _) (by decide)
  refine Ac (t_n (Ab (Aa ?_)))
  refine pA (Ac (t_n (Al ?_)))
  refine eR1 ?_
  rw[h2]
  exact⟨congrArg Value.bool (decide_eq_true (by omega)).symm,by rw[if_pos (by omega)];exact⟨_,_,_,hB,hS.dropI used (by omega)⟩,hX⟩
 have h2:(if err=0 then e else err)=err:=if_neg hc11
 refine Ah (t_n (Ab (Ab (Aa ?_))))
 refine pM ?_
 refine p1 (Af rfl) ?_
 refine p1 (Ad Ks sz31 rfl) ?_
 refine p1 (Ae un31 rfl (hB.cell (rfl))) ?_
 refine p1 (A4 rfl rfl) ?_
 refine Ac (t_n ?_)
 refine As rfl (fun hc20=>?_) (fun hc20=>?_)
 ·refine Ab (Aa ?_)
  refine pA (Ac (t_n (Al (t_r ?_))))
  refine eR1 ?_
  rw[h2]
  exact⟨congrArg Value.bool (decide_eq_false (by omega)).symm,by rw[if_neg (by omega)];exact⟨_,_,_,hB,hS⟩,hX⟩
 refine Ah (t_n (Ab (Aa ?_)))
 refine pM (pM ?_)
 refine p1 (Af rfl) ?_
 refine p1 (Ad Je sz23 rfl) ?_
 refine p1 (Ae un23 rfl (hB.cell (rfl))) ?_
 refine pM ?_
 refine p1 (Ef u23 sz5 rfl rfl (by omega)) ?_
 refine p1 (Af rfl) ?_
 refine p1 (Ad Je sz23 rfl) ?_
 refine Aq rfl (by conv=>lhs;whnf) rfl rfl sz23 hB (by simp) ?_
 intro w3 hP3
 have hX:=hX.putB hP3 (Nat.le_refl _)
 have hB:=hP3.blk
 try simp only[List.setIfInBounds_toArray,List.set_cons_zero,List.set_cons_succ] at hB
 have hS:=hS.mod (hP3.mod 0 (Nat.zero_le _)) (Nat.zero_le _) (by decide)
 refine Ac (t_n (Ab (Aa ?_)))
 refine pA (Ac (t_n (Al ?_)))
 refine eR1 ?_
 rw[h2]
 exact⟨congrArg Value.bool (decide_eq_true (by omega)).symm,by rw[if_pos (by omega)];exact⟨_,_,_,hB,hS.dropI used (by omega)⟩,hX⟩
theorem Kg (R : List UInt8) (g : Nat) (err : Int) (w : World) (hR : Rdr w g R err) (mo : Nat) :
    Ret Tryz.prog 137 [.pointer (some ⟨g, 0, none⟩), .int .u64 (mo : Int)] w (fun v w' => ∃ (N : Nat) (err' : Int) (R' : List UInt8), v = .int .u64 (N : Int) ∧ N ≤ mo ∧ Rdr w' g R' err' ∧ Took (pNum mo R) (err ≠ 0) (err' ≠ 0) N R R' ∧ Mod g 243 w w') := by
 obtain ⟨q, m, c, hB, hS⟩ := hR
 have hX := Mod.refl g 243 w
 refine enter 32 _ Tryz.func137 rfl rfl (Nat.le_of_ble_eq_true rfl) rfl ?_
 refine Ab (Aa ?_)
 refine p1 (A0 (by conv => lhs; whnf)) ?_
 refine Ac (t_n (Ab (Ab (Aa ?_))))
 refine p1 (Ai (by conv => lhs; whnf)) ?_
 refine p1 ((A9 u192 rfl rfl).cast (congrArg _ (decide_eq_false (by simp)))) ?_
 refine Ac (t_n ?_)
 refine c_f rfl ?_
 refine Ah (t_n (Ab (Aa ?_)))
 refine p1 (Ai (by conv => lhs; whnf)) ?_
 refine p1 (Af rfl) ?_
 refine p1 (Ad Je sz23 rfl) ?_
 refine p1 (Ae un23 rfl (hB.cell (rfl))) ?_
 refine Ag Tryz.func182 fn182 fb182 (Ma R _ _ _ _ _ hS) rfl ?_
 rintro v1 w1 ⟨rfl, hE1⟩
 have hX := hX.ext hE1
 have hB := hB.ext hE1
 have hS := hS.ext hE1
 refine p1 (Ai (by conv => lhs; whnf)) ?_
 refine p1 (Ao rfl rfl) ?_
 refine p1 (Ao rfl rfl) ?_
 refine p1 (Ao rfl rfl) ?_
 refine p1 (A0 (by conv => lhs; whnf)) ?_
 refine p1 (A0 (by conv => lhs; whnf)) ?_
 refine p1 (A0 (by conv => lhs; whnf)) ?_
 refine Ac (t_n (Ab (Ab (Aa ?_))))
 refine p1 (Ai (by conv => lhs; whnf)) ?_
 refine Aei 6 [20, 21, 22, 23, 24, 25] [(25, .bool (decide ((getU R).2.2 = 0 ∧ (mo : Int) < ((getU R).1 : Int))))] ?_ ?_
 ·skip
  refine p1 (Bs rfl rfl) ?_
  refine p1b (Ai (by conv => lhs; whnf)) (fun hb4_2 => ?_) (fun hb4_2 => ?_)
  ·try simp only [dA, dB, dC, dD, dE, dF, dG, Int.not_lt, Int.not_le] at hb4_2
   refine Eng.g1 21 rfl rfl (Ai (by conv => lhs; whnf)) ?_
   refine Eng.g1 21 rfl rfl (Ai (by conv => lhs; whnf)) ?_
   refine Eng.g1 21 rfl rfl (Da rfl rfl) ?_
   refine p1 (Ar rfl (by conv => lhs; whnf)) ?_
   exact Tq rfl (by repeat (first | exact Agr.refl _ _ | exact Agr.hav _ _ _ | refine Agr.upd rfl ?_ | refine Agr.updR rfl ?_ | refine Agr.updL ?_ _ rfl | refine Agr.hav' rfl ?_)) ⟨congrArg Value.bool (by first | rfl | exact (decide_eq_true (by omega)).symm | exact (decide_eq_false (by omega)).symm | exact decide_eq_decide.2 (by omega) | (simp_all; done) | grind), trivial⟩
  ·try simp only [dA, dB, dC, dD, dE, dF, dG, Int.not_lt, Int.not_le] at hb4_2
   refine Eng.g0 21 rfl (by first | exact .inl rfl | exact .inr rfl) ?_
   refine Eng.g0 21 rfl (by first | exact .inl rfl | exact .inr rfl) ?_
   refine Eng.g0 21 rfl (by first | exact .inl rfl | exact .inr rfl) ?_
   refine p1 (Ap rfl (by conv => lhs; whnf)) ?_
   exact Tq rfl (by repeat (first | exact Agr.refl _ _ | exact Agr.hav _ _ _ | refine Agr.upd rfl ?_ | refine Agr.updR rfl ?_ | refine Agr.updL ?_ _ rfl | refine Agr.hav' rfl ?_)) ⟨congrArg Value.bool (by first | rfl | exact (decide_eq_true (by omega)).symm | exact (decide_eq_false (by omega)).symm | exact decide_eq_decide.2 (by omega) | (simp_all; done) | grind), trivial⟩
 ·intro Gr4_1
  refine Ac (t_n ?_)
  first | refine As rfl (fun hc25 => ?_) (fun hc25 => ?_) | refine Iq rfl (fun hc25 => ?_) (fun hc25 => ?_)
  ·try simp only [dA, dB, dC, dD, dE, dF, dG, Int.not_lt, Int.not_le] at hc25
   obtain ⟨e5, he5⟩ : ∃ x : Int, x = 5 := ⟨_, rfl⟩
   refine Aa ?_
   refine p1 (A0 (by conv => lhs; whnf)) ?_
   refine Ac (t_n (Ab (Ab (Aa ?_))))
   refine p1 (Ai (by conv => lhs; whnf)) ?_
   refine p1 (Ai (by conv => lhs; whnf)) ?_
   refine p1 (Ai (by conv => lhs; whnf)) ?_
   refine Ag Tryz.func191 fn191 fb191 (L6 R g err _ ⟨_, _, _, hB, hS⟩ _ _ (Qd R)) rfl ?_
   rintro v2 w2 ⟨rfl, hR2, hM2⟩
   have hX := hX.mod hM2 (trivial)
   first | refine p1 (Ha rfl) ?_ | refine p1 (Ff rfl) ?_
   refine Ac (t_n ?_)
   first | refine As rfl (fun hc30 => ?_) (fun hc30 => ?_) | refine Iq rfl (fun hc30 => ?_) (fun hc30 => ?_)
   ·try simp only [dA, dB, dC, dD, dE, dF, dG, Int.not_lt, Int.not_le] at hc30
    subst he5
    have hne := hc30
    refine Ab (Aa ?_)
    refine p1 (A0 (by conv => lhs; whnf)) ?_
    refine Ac (t_n (Al (t_r ?_)))
    refine end1 rfl (by conv => lhs; whnf) ?_
    first
      | (rw [if_neg hne] at hR2
         exact ⟨0, _, _, rfl, by omega, hR2, Su hne fun hn => by
           unfold pNum; rw [if_pos (by omega)] at hne; exact if_neg (by omega), hX⟩)
      | (rw [if_pos h0] at hR2
         have he0 : err = 0 := Classical.byContradiction fun hn => by rw [if_neg hn] at h0; exact hn h0
         rw [if_pos he0] at h0
         exact ⟨_, _, _, rfl, by omega, hR2, Wc (by rw [if_pos he0]; omega) (by omega) (by unfold pNum; exact if_pos (by omega)), hX⟩)
   ·try simp only [dA, dB, dC, dD, dE, dF, dG, Int.not_lt, Int.not_le] at hc30
    subst he5
    have h0 := Classical.byContradiction hc30
    refine Ah (t_n (Ab (Aa ?_)))
    refine p1 (Ai (by conv => lhs; whnf)) ?_
    refine p1 (A0 (by conv => lhs; whnf)) ?_
    refine Ac (t_n (Al ?_))
    refine end1 rfl (by conv => lhs; whnf) ?_
    first
      | (rw [if_neg hne] at hR2
         exact ⟨0, _, _, rfl, by omega, hR2, Su hne fun hn => by
           unfold pNum; rw [if_pos (by omega)] at hne; exact if_neg (by omega), hX⟩)
      | (rw [if_pos h0] at hR2
         have he0 : err = 0 := Classical.byContradiction fun hn => by rw [if_neg hn] at h0; exact hn h0
         rw [if_pos he0] at h0
         exact ⟨_, _, _, rfl, by omega, hR2, Wc (by rw [if_pos he0]; omega) (by omega) (by unfold pNum; exact if_pos (by omega)), hX⟩)
  ·try simp only [dA, dB, dC, dD, dE, dF, dG, Int.not_lt, Int.not_le] at hc25
   obtain ⟨e5, he5⟩ : ∃ x : Int, x = (getU R).2.2 := ⟨_, rfl⟩
   refine Ah (t_n (Ab (Ab (Aa ?_))))
   refine p1 (Ai (by conv => lhs; whnf)) ?_
   refine p1 (Ai (by conv => lhs; whnf)) ?_
   refine p1 (Ai (by conv => lhs; whnf)) ?_
   refine Ag Tryz.func191 fn191 fb191 (L6 R g err _ ⟨_, _, _, hB, hS⟩ _ _ (Qd R)) rfl ?_
   rintro v3 w3 ⟨rfl, hR2, hM3⟩
   have hX := hX.mod hM3 (trivial)
   first | refine p1 (Ha rfl) ?_ | refine p1 (Ff rfl) ?_
   refine Ac (t_n ?_)
   first | refine As rfl (fun hc30 => ?_) (fun hc30 => ?_) | refine Iq rfl (fun hc30 => ?_) (fun hc30 => ?_)
   ·try simp only [dA, dB, dC, dD, dE, dF, dG, Int.not_lt, Int.not_le] at hc30
    subst he5
    have hne := hc30
    refine Ab (Aa ?_)
    refine p1 (A0 (by conv => lhs; whnf)) ?_
    refine Ac (t_n (Al (t_r ?_)))
    refine end1 rfl (by conv => lhs; whnf) ?_
    first
      | (rw [if_neg hne] at hR2
         exact ⟨0, _, _, rfl, by omega, hR2, Su hne fun hn => by
           unfold pNum; rw [if_pos (by omega)] at hne; exact if_neg (by omega), hX⟩)
      | (rw [if_pos h0] at hR2
         have he0 : err = 0 := Classical.byContradiction fun hn => by rw [if_neg hn] at h0; exact hn h0
         rw [if_pos he0] at h0
         exact ⟨_, _, _, rfl, by omega, hR2, Wc (by rw [if_pos he0]; omega) (by omega) (by unfold pNum; exact if_pos (by omega)), hX⟩)
   ·try simp only [dA, dB, dC, dD, dE, dF, dG, Int.not_lt, Int.not_le] at hc30
    subst he5
    have h0 := Classical.byContradiction hc30
    refine Ah (t_n (Ab (Aa ?_)))
    refine p1 (Ai (by conv => lhs; whnf)) ?_
    refine p1 (A0 (by conv => lhs; whnf)) ?_
    refine Ac (t_n (Al ?_))
    refine end1 rfl (by conv => lhs; whnf) ?_
    first
      | (rw [if_neg hne] at hR2
         exact ⟨0, _, _, rfl, by omega, hR2, Su hne fun hn => by
           unfold pNum; rw [if_pos (by omega)] at hne; exact if_neg (by omega), hX⟩)
      | (rw [if_pos h0] at hR2
         have he0 : err = 0 := Classical.byContradiction fun hn => by rw [if_neg hn] at h0; exact hn h0
         rw [if_pos he0] at h0
         exact ⟨_, _, _, rfl, by omega, hR2, Wc (by rw [if_pos he0]; omega) (by omega) (by unfold pNum; exact if_pos (by omega)), hX⟩)
end Go.Proofs.Eng
end
section
set_option maxRecDepth 100000
set_option maxHeartbeats 4000000
namespace Go.Proofs.Eng
open Go.RowKit
open Extern.Stop (cell)
theorem Vn (s : ByteArray) (w : World) (hs : s.size ≤ 9223372036854775807) :
    Ret Tryz.prog 106 [.string s] w (fun v w' => v = .bool (Ay s) ∧ Ext w w') := by
 have hX := Ext.refl w
 refine enter 28 _ Tryz.func106 rfl rfl (Nat.le_of_ble_eq_true rfl) rfl ?_
 refine Ab (Aa ?_)
 refine p1 (A0 (by conv => lhs; whnf)) ?_
 refine Ac (t_n (Ab (Ab ?_)))
 have hWr1 := Ext.refl w
 refine Gv (ι := Unit) [4, 5, 6, 7, 8, 9, 10, 11] (fun _ => [(11, .bool (decide (s.size = 0 ∨ 32 < s.size)))]) (fun _ w' => Ext w w') ?_ ?_
 ·skip
  refine Aa ?_
  refine p1 (Ai (by conv => lhs; whnf)) ?_
  refine p1 (Ir u9 rfl) ?_
  refine p1 (Bs rfl rfl) ?_
  refine p1b (Ai (by conv => lhs; whnf)) (fun hb1_3 => ?_) (fun hb1_3 => ?_)
  ·try simp only [dA, dB, dC, dD, dE, dF, dG, Int.not_lt, Int.not_le] at hb1_3
   refine g0 7 rfl (by first | exact .inl rfl | exact .inr rfl) ?_
   refine g0 7 rfl (by first | exact .inl rfl | exact .inr rfl) ?_
   refine g0 7 rfl (by first | exact .inl rfl | exact .inr rfl) ?_
   refine p1 (Ar rfl (by conv => lhs; whnf)) ?_
   refine Ac ?_
   refine t_n (At.mk () (by repeat (first | exact Agr.refl _ _ | exact Agr.hav _ _ _ | refine Agr.upd rfl ?_ | refine Agr.updR rfl ?_ | refine Agr.updL ?_ _ rfl | refine Agr.hav' rfl ?_)) ⟨congrArg Value.bool (by first | rfl | exact (decide_eq_true (by omega)).symm | exact (decide_eq_false (by omega)).symm | exact decide_eq_decide.2 (by omega) | (simp_all; done) | grind), trivial⟩ hWr1)
  ·try simp only [dA, dB, dC, dD, dE, dF, dG, Int.not_lt, Int.not_le] at hb1_3
   refine g1 7 rfl rfl (Ai (by conv => lhs; whnf)) ?_
   refine g1 7 rfl rfl (Ir u9 rfl) ?_
   refine g1 7 rfl rfl (Da rfl rfl) ?_
   refine p1 (Ap rfl (by conv => lhs; whnf)) ?_
   refine Ac ?_
   refine t_n (At.mk () (by repeat (first | exact Agr.refl _ _ | exact Agr.hav _ _ _ | refine Agr.upd rfl ?_ | refine Agr.updR rfl ?_ | refine Agr.updL ?_ _ rfl | refine Agr.hav' rfl ?_)) ⟨congrArg Value.bool (by first | rfl | exact (decide_eq_true (by omega)).symm | exact (decide_eq_false (by omega)).symm | exact decide_eq_decide.2 (by omega) | (simp_all; done) | grind), trivial⟩ hWr1)
 ·rintro _ Gr1 w1 hE1
  have hX := hX.ext hE1
  refine t_n ?_
  first | refine As rfl (fun hc11 => ?_) (fun hc11 => ?_) | refine Iq rfl (fun hc11 => ?_) (fun hc11 => ?_)
  ·try simp only [dA, dB, dC, dD, dE, dF, dG, Int.not_lt, Int.not_le] at hc11
   have hp := U9 hc11
   refine Ab (Aa ?_)
   refine p1 (A0 (by conv => lhs; whnf)) ?_
   refine Ac (t_n (Al (t_r ?_)))
   refine end1 rfl (by conv => lhs; whnf) ?_
   exact ⟨by rw [hp], hX⟩
  ·try simp only [dA, dB, dC, dD, dE, dF, dG, Int.not_lt, Int.not_le] at hc11
   refine Ah (t_n (Ab (Ab (Aa ?_))))
   refine p1 (Ai (by conv => lhs; whnf)) ?_
   refine p1 (Ir u9 rfl) ?_
   refine p1 (Ai (by conv => lhs; whnf)) ?_
   refine Ac (t_n (Am ?_))
   have hWL0 := Ext.refl w1
   refine Bi (ι := Nat) [2, 3, 14, 15, 16, 17, 18, 19, 20, 21, 22, 23, 24, 25, 26, 27] (fun k => [(14, .int .i64 (k : Int))]) (fun k w' => Ext w1 w' ∧ (k ≤ s.size ∧ ∀ i, i < k → 33 ≤ (btAt s i).toNat ∧ (btAt s i).toNat ≤ 126)) (fun k => s.size - k) (0) ⟨rfl, trivial⟩ ⟨Ext.refl _, ⟨by omega, fun i hi => by omega⟩⟩ ?_
   rintro k GL0 w2 ⟨hE2, hk, hL⟩
   have hX := hX.ext hE2
   have hWL0 := hE2
   refine Ab (Aa ?_)
   refine p1 (Bv rfl rfl) ?_
   refine Ac (t_n (Ab ?_))
   first | refine As rfl (fun hc15 => ?_) (fun hc15 => ?_) | refine Iq rfl (fun hc15 => ?_) (fun hc15 => ?_)
   ·try simp only [dA, dB, dC, dD, dE, dF, dG, Int.not_lt, Int.not_le] at hc15
    refine Ah (t_n (Ab (Am (Ab (Aa ?_)))))
    refine p1 (Ai (by conv => lhs; whnf)) ?_
    refine p1 (A0 (by conv => lhs; whnf)) ?_
    refine Ac (t_n (Ab ?_))
    have hWr6 := Ext.refl w2
    refine Gv (ι := Unit) [17, 18, 19, 20, 21, 22, 23, 24, 25, 26] (fun _ => [(26, .bool (decide (((btAt s k).toNat : Int) < 33 ∨ 126 < ((btAt s k).toNat : Int))))]) (fun _ w' => Ext w2 w') ?_ ?_
    ·skip
     refine Aa ?_
     refine p1 (Ai (by conv => lhs; whnf)) ?_
     refine p1 (Ai (by conv => lhs; whnf)) ?_
     refine p1 (Si u9 rfl rfl (by omega)) ?_
     refine p1 (Bv rfl rfl) ?_
     refine p1b (Ai (by conv => lhs; whnf)) (fun hb6_4 => ?_) (fun hb6_4 => ?_)
     ·try simp only [dA, dB, dC, dD, dE, dF, dG, Int.not_lt, Int.not_le] at hb6_4
      refine g0 21 rfl (by first | exact .inl rfl | exact .inr rfl) ?_
      refine g0 21 rfl (by first | exact .inl rfl | exact .inr rfl) ?_
      refine g0 21 rfl (by first | exact .inl rfl | exact .inr rfl) ?_
      refine g0 21 rfl (by first | exact .inl rfl | exact .inr rfl) ?_
      refine p1 (Ar rfl (by conv => lhs; whnf)) ?_
      refine Ac ?_
      refine t_n (At.mk () (by repeat (first | exact Agr.refl _ _ | exact Agr.hav _ _ _ | refine Agr.upd rfl ?_ | refine Agr.updR rfl ?_ | refine Agr.updL ?_ _ rfl | refine Agr.hav' rfl ?_)) ⟨congrArg Value.bool (by first | rfl | exact (decide_eq_true (by omega)).symm | exact (decide_eq_false (by omega)).symm | exact decide_eq_decide.2 (by omega) | (simp_all; done) | grind), trivial⟩ hWr6)
     ·try simp only [dA, dB, dC, dD, dE, dF, dG, Int.not_lt, Int.not_le] at hb6_4
      refine g1 21 rfl rfl (Ai (by conv => lhs; whnf)) ?_
      refine g1 21 rfl rfl (Ai (by conv => lhs; whnf)) ?_
      refine g1 21 rfl rfl (Si u9 rfl rfl (by omega)) ?_
      refine g1 21 rfl rfl (Da rfl rfl) ?_
      refine p1 (Ap rfl (by conv => lhs; whnf)) ?_
      refine Ac ?_
      refine t_n (At.mk () (by repeat (first | exact Agr.refl _ _ | exact Agr.hav _ _ _ | refine Agr.upd rfl ?_ | refine Agr.updR rfl ?_ | refine Agr.updL ?_ _ rfl | refine Agr.hav' rfl ?_)) ⟨congrArg Value.bool (by first | rfl | exact (decide_eq_true (by omega)).symm | exact (decide_eq_false (by omega)).symm | exact decide_eq_decide.2 (by omega) | (simp_all; done) | grind), trivial⟩ hWr6)
    ·rintro _ Gr6 w3 hE3
     have hX := hX.ext hE3
     have hWL0 := hWL0.ext hE3
     refine t_n ?_
     first | refine As rfl (fun hc26 => ?_) (fun hc26 => ?_) | refine Iq rfl (fun hc26 => ?_) (fun hc26 => ?_)
     ·try simp only [dA, dB, dC, dD, dE, dF, dG, Int.not_lt, Int.not_le] at hc26
      have hp : Ay s = false := Xw (i := k) (by omega) (by omega)
      refine Ab (Aa ?_)
      refine p1 (A0 (by conv => lhs; whnf)) ?_
      refine Ac (t_n (Al (b_r (t_r (t_r (b_r (t_r ?_)))))))
      refine end1 rfl (by conv => lhs; whnf) ?_
      exact ⟨by rw [hp], hX⟩
     ·try simp only [dA, dB, dC, dD, dE, dF, dG, Int.not_lt, Int.not_le] at hc26
      refine Ah (b_n (t_n (Aa ?_)))
      refine p1 (A1 rfl rfl (Aj (by omega) (by omega))) ?_
      refine p1 (Ai (by conv => lhs; whnf)) ?_
      refine Ac ?_
      refine t_n (At.mk (k + 1) (by repeat (first | exact Agr.refl _ _ | exact Agr.hav _ _ _ | refine Agr.upd rfl ?_ | refine Agr.updR rfl ?_ | refine Agr.updL ?_ _ rfl | refine Agr.hav' rfl ?_)) ⟨rfl, trivial⟩ ?_)
      exact ⟨⟨hWL0, ⟨by omega, fun i hi => if h : i < k then hL i h else by rw [show i = k from by omega]; omega⟩⟩, by first | (dsimp only; omega) | ((show _ < _); omega)⟩
   ·try simp only [dA, dB, dC, dD, dE, dF, dG, Int.not_lt, Int.not_le] at hc15
    have hp : Ay s = true := Va (by omega) (fun i hi => hL i (by omega))
    refine Ba (t_e (t_e (Bq (t_n (Ab (Aa ?_))))))
    refine p1 (A0 (by conv => lhs; whnf)) ?_
    refine Ac (t_n (Al ?_))
    refine end1 rfl (by conv => lhs; whnf) ?_
    exact ⟨by rw [hp], hX⟩
theorem E7 (g:Nat) (S:Nat→Prop) (D:DS) (w:World) (hD:Dsk S w g D) (ns:List ByteArray) (B:Nat) (p:Option Addr) (n c:Nat) (hl:Sl kStr 9 B w p n c ns) (hs:∀ s∈ns,s.size≤9223372036854775807) :
    Ret Tryz.prog 60 [.pointer (some ⟨g,0,none⟩),.slice p n c] w (fun v w'=>v = .int .i64 (lookD D ns)∧Ext w w'):=by
 obtain⟨r,μ,hB,hM,hSg,hSr,hF⟩:=hD.ex
 have hX:=Ext.refl w
 refine eN 23 Tryz.func60 ?_
 refine Ab (Aa ?_)
 refine pA (Ac (t_n (Ab (Ab (Aa ?_)))))
 refine pM ?_
 refine p1 ((A9 u34 rfl rfl).cast (congrArg _ (decide_eq_false (by simp)))) ?_
 refine Ac (t_n ?_)
 refine c_f rfl ?_
 refine Ah (t_n (Ab (Ab (Aa ?_))))
 refine pM ?_
 refine p1 (Ak u74 rfl) ?_
 refine pM (Ac (t_n (Am ?_)))
 have hWL0:=Ext.refl w
 have hlen:=hl.len
 have hfit:=hl.fit
 have hcap:=hl.cap
 refine Bi (ι:=Nat) [4,6,11,12,13,14,15,16,17,18] (fun k=>[(11,.int .i64 (k:Int))]) (fun k w'=>Ext w w'∧(k≤n∧∀ i,i<k→Ay (ns.getD i ByteArray.empty)=true)) (fun k=>n - k) (0) ⟨rfl,trivial⟩ ⟨Ext.refl _,⟨by omega,fun i hi=>by omega⟩⟩ ?_
 rintro k GL0 w1 ⟨hE1,hk,hL⟩
 have hX:=hX.ext hE1
 have hB:=hB.ext hE1
 have hWL0:=hE1
 refine Ab (Aa ?_)
 refine p1 (Bv rfl rfl) ?_
 refine Ac (t_n (Ab ?_))
 refine As rfl (fun hc12=>?_) (fun hc12=>?_)
 ·refine Ah (t_n (Ab (Am (Ab (Aa ?_)))))
  refine p1 (Dc u74 sz9 rfl rfl ((hl.ext hX).adr Kn (by omega)) (by omega)) ?_
  refine p1 (Ae un9 rfl ((hl.ext hX).strAt _ (by omega))) ?_
  refine pA (Ac (t_n (Ab (Aa ?_))))
  refine pM ?_
  refine Ag Tryz.func106 fn106 fb106 (Vn _ _ (hs _ (C6 (z:=ByteArray.empty) (i:=k) (by omega) rfl))) rfl ?_
  rintro v2 w2 ⟨rfl,hE2⟩
  have hX:=hX.ext hE2
  have hWL0:=hWL0.ext hE2
  refine p1 (Ff rfl) ?_
  refine Ac (t_n ?_)
  refine Iq rfl (fun hc17=>?_) (fun hc17=>?_)
  ·have hp:lookD D ns=30:=by unfold lookD;rw[if_pos (Rh (k:=k) (by omega) (by simpa using hc17))]
   refine Ab (Aa ?_)
   refine pA (Ac (t_n (Al (b_r (t_r (t_r (b_r (t_r ?_))))))))
   refine eR1 ?_
   exact⟨by rw[hp],hX⟩
  have h1:Ay (ns.getD k ByteArray.empty)=true:=by simpa using hc17
  refine Ah (b_n (t_n (Aa ?_)))
  refine p1 (A1 rfl rfl (Aj (by omega) (by omega))) ?_
  refine pM (Ac ?_)
  refine t_n (aK (k+1) ⟨rfl,trivial⟩ ?_)
  exact⟨⟨hWL0,⟨by omega,fun i hi=>if h:i<k then hL i h else by rw[show i=k from by omega];exact h1⟩⟩,by((show _<_);omega)⟩
 have hall:=Pm hL (by omega)
 refine Ba (t_e (t_e (Bq (t_n (Ab (Ab (Aa ?_)))))))
 refine pM ?_
 refine p1 (Af rfl) ?_
 refine p1 (Ad Ku sz4 rfl) ?_
 refine p1 (Ae un4 rfl (hB.cell (rfl))) ?_
 refine Ac (t_n ?_)
 refine Iq rfl (fun hc22=>?_) (fun hc22=>?_)
 ·have hp:lookD D ns=20:=by unfold lookD;rw[if_neg (by rw[hall];simp),if_pos hc22]
  refine Ab (Aa ?_)
  refine pA (Ac (t_n (Al (t_r ?_))))
  refine eR1 ?_
  exact⟨by rw[hp],hX⟩
 have hp:lookD D ns=0:=by unfold lookD;rw[if_neg (by rw[hall];simp),if_neg (by rw[hc22];simp)]
 refine Ah (t_n (Ab (Aa ?_)))
 refine pA (Ac (t_n (Al ?_)))
 refine eR1 ?_
 exact⟨by rw[hp],hX⟩
theorem Ei (g:Nat) (S:Nat→Prop) (D:DS) (w:World) (hD:Dsk S w g D) (k:ByteArray) :
    Ret Tryz.prog 61 [.pointer (some ⟨g,0,none⟩),.string k] w (fun v w'=>v = .bool (decide (ascF D.l k≠none))∧Ext w w'):=by
 obtain⟨r,μ,hB,hM,hSg,hSr,hF⟩:=hD.ex
 have hX:=Ext.refl w
 refine eN 17 Tryz.func61 ?_
 refine Ab (Aa ?_)
 refine pA (Ac (t_n (Ab (Aa ?_))))
 refine pM ?_
 refine p1 (Af rfl) ?_
 refine p1 (Ad Cg sz100 rfl) ?_
 refine p1 (Ae un100 rfl (hB.cell (rfl))) ?_
 refine pM ?_
 obtain⟨⟨p0,n0,c0,s0⟩,hr0⟩:∃ x:Raw,x=(μ k).getD raw0:=⟨_,rfl⟩
 obtain⟨hF0,hs0⟩:=hF.get k
 rw[← hr0] at hF0 hs0
 simp only at hF0 hs0
 refine p1 (((lookF u100 zr113 (Cc u9) hM k rfl rfl).2).cast (by rw[← hr0];rfl:_=Value.tuple #[.agg #[.slice p0 n0 c0,.int .i64 (s0:Int)],.bool (decide (μ k≠none))])) ?_
 refine pM ?_
 refine p1 (Ao rfl rfl) ?_
 refine p1 (Ao rfl rfl) ?_
 have hXs5:=hX.size
 refine A7 zr113 ?_
 intro w1 g5 hN5
 have hE1:=hN5.ext
 have hX:=hX.ext hE1
 have hB5:=hN5.blk
 refine Ax rfl (by conv=>lhs;whnf) (by simp[Value.oneCell']) (by exact sz113) hB5 (by rfl) ?_
 intro w2 hP2
 have hX:=hX.put hP2 (by rw[hN5.g_eq];exact hXs5)
 have hB5:=hP2.blk
 refine pA (Ac (t_n (Ab (Aa ?_))))
 refine pM (pA (Ac (t_n (Al ?_))))
 refine eR1 ?_
 exact⟨congrArg Value.bool (decide_eq_decide.2 (not_congr (hF.iff k))),hX⟩
theorem F4 (g : Nat) (S : Nat → Prop) (D : DS) (w : World) (hD : Dsk S w g D) (hok : DOk D) (hst : D.steps < 4611686018427387904) (hle : D.left ≤ 9223372036854775807) (fdo : Nat) (fn : Func) (hf : Tryz.prog.funcs[fdo]? = some fn) (hn : (fn.name == "runtime.NumGoroutine") = false) (hb : fn.body.isNone = false) (cs : List Value) (act : List Fl) (failing always : Bool)
    (hdo:∀ w1,Ext w w1→Ret Tryz.prog fdo cs w1 (fun v w'=>Dsk (grow S w1 w') w' g { D with l:=act }∧ModS S ED w1 w')) :
    Ret Tryz.prog 62 [.pointer (some ⟨g,0,none⟩),.func (.func fdo) #[] cs.toArray,.bool failing,.bool always] w (fun v w'=>v = .int .i64 (stepD D act failing always).2∧Dsk (grow S w w') w' g (stepD D act failing always).1∧ModS S ED w w'):=by
 obtain⟨r,μ,hB,hM,hSg,hSr,hF⟩:=hD.ex
 have hXe:=Ext.refl w
 have hleft:=hok.left
 have hSg2:grow S w w g := .inl hSg
 have hW1:=Nat.le_refl w.heap.size
 have hX:=ModS.refl S ED w
 refine eN 50 Tryz.func62 ?_
 refine Ab (Aa ?_)
 refine pA (Ac (t_n (Ab (Ab (Aa ?_)))))
 refine pM ?_
 refine p1 (Af rfl) ?_
 refine p1 (Ad Hp sz3 rfl) ?_
 refine p1 (Ae un3 rfl (hB.cell (rfl))) ?_
 refine p1 (A4 rfl rfl) ?_
 refine Ac (t_n ?_)
 refine As rfl (fun hc13=>?_) (fun hc13=>?_)
 ·have hL0:D.left≠0:=hc13
  refine Ab (Aa ?_)
  refine pM ?_
  have hX0:Ext w w:=hXe
  refine I7 (fs:=[]) (cs:=cs) rfl hf hn hb rfl rfl (hdo _ hX0) ?_
  rintro v1 w1 ⟨hD2,hM2⟩
  have hX:ModS S ED w w1:=(ModS.ofExt hX0).trans hM2 (fun _ _ h=>h)
  obtain⟨r,μ,hB,hM,hSg2,hSr,hF⟩:=hD2.ex
  have hB:Blk w1 g #[.int .i64 (D.most:Int),.int .i64 ((usedL act:Nat):Int),.map (some r),.int .i64 (D.steps:Int),.int .i64 D.left,.bool D.done,.bool D.down] tDisk:=hB
  have hF:Fls _ _ μ act:=hF
  skip
  refine Ac (t_n (Ab (Aa ?_)))
  refine pM (pM ?_)
  refine p1 (Af rfl) ?_
  refine p1 (Ad Hp sz3 rfl) ?_
  refine p1 (Ae un3 rfl (hB.cell (rfl))) ?_
  refine p1 (Dt rfl rfl (Aj (by omega) (by omega))) ?_
  refine p1 ((Acv rfl rfl).cast (congrArg (Value.int .i64) (by split <;> omega:_=max (-1) (D.left - 1)))) ?_
  refine p1 (Af rfl) ?_
  refine p1 (Ad Hp sz3 rfl) ?_
  refine Aq rfl (by conv=>lhs;whnf) rfl rfl sz3 hB (by simp) ?_
  intro w2 hP2
  have hX:=hX.put hP2 (⟨.inl hSg,by decide⟩)
  have hB:=hP2.blk
  try simp only[List.setIfInBounds_toArray,List.set_cons_zero,List.set_cons_succ] at hB
  have hM:=hM.mod (hP2.mod 0 (Nat.zero_le _)) (Nat.zero_le _) (by decide)
  have hF:=hF.one hP2.one (by decide)
  refine Ac (t_n (Ab (Aa ?_)))
  refine pM ?_
  refine p1 (Af rfl) ?_
  refine p1 (Ad Wv sz3 rfl) ?_
  refine p1 (Ae un3 rfl (hB.cell (rfl))) ?_
  refine p1 (A1 rfl rfl (Aj (by omega) (by omega))) ?_
  refine p1 (Af rfl) ?_
  refine p1 (Ad Wv sz3 rfl) ?_
  refine Aq rfl (by conv=>lhs;whnf) rfl rfl sz3 hB (by simp) ?_
  intro w3 hP3
  have hX:=hX.put hP3 (⟨.inl hSg,by decide⟩)
  have hB:=hP3.blk
  try simp only[List.setIfInBounds_toArray,List.set_cons_zero,List.set_cons_succ] at hB
  have hM:=hM.mod (hP3.mod 0 (Nat.zero_le _)) (Nat.zero_le _) (by decide)
  have hF:=hF.one hP3.one (by decide)
  refine Ac (t_n (Ab (Aa ?_)))
  refine pA (Ac (t_n (Al (t_r ?_))))
  refine eR1 ?_
  (rw[J7 hL0]
   exact⟨rfl,Dsk.of hB hM hSg hSr hF (Oh (Nat.le_refl _)),hX⟩)
 have hL0:¬ D.left≠0:=hc13
 refine Ah (t_n (Ab (Ab (Aa ?_))))
 refine pM ?_
 refine p1b (Ai (by conv=>lhs;whnf)) (fun hb6_1=>?_) (fun hb6_1=>?_)
 ·refine gM 33 ?_
  refine g1b 33 rfl rfl (Ai (by conv=>lhs;whnf)) (fun hb6_3=>?_) (fun hb6_3=>?_)
  ·refine gF 35 (gF 35 (gF 35 (gF 35 ?_)))
   refine Eng.g1 33 rfl rfl (Ar rfl (by conv=>lhs;whnf)) ?_
   refine p1 (Ar rfl (by conv=>lhs;whnf)) ?_
   refine Ac (t_n ?_)
   refine c_t rfl ?_
   refine Aa ?_
   refine pM ?_
   have hX0:Ext w w:=hXe
   refine I7 (fs:=[]) (cs:=cs) rfl hf hn hb rfl rfl (hdo _ hX0) ?_
   rintro v4 w4 ⟨hD2,hM2⟩
   have hX:ModS S ED w w4:=(ModS.ofExt hX0).trans hM2 (fun _ _ h=>h)
   obtain⟨r,μ,hB,hM,hSg2,hSr,hF⟩:=hD2.ex
   have hB:Blk w4 g #[.int .i64 (D.most:Int),.int .i64 ((usedL act:Nat):Int),.map (some r),.int .i64 (D.steps:Int),.int .i64 D.left,.bool D.done,.bool D.down] tDisk:=hB
   have hF:Fls _ _ μ act:=hF
   skip
   refine Ac (t_n (Ab (Aa ?_)))
   refine pM (pM ?_)
   refine p1 (Af rfl) ?_
   refine p1 (Ad Ku sz4 rfl) ?_
   refine Aq rfl (by conv=>lhs;whnf) rfl rfl sz4 hB (by simp) ?_
   intro w5 hP5
   have hX:=hX.put hP5 (⟨.inl hSg,by decide⟩)
   have hB:=hP5.blk
   try simp only[List.setIfInBounds_toArray,List.set_cons_zero,List.set_cons_succ] at hB
   have hM:=hM.mod (hP5.mod 0 (Nat.zero_le _)) (Nat.zero_le _) (by decide)
   have hF:=hF.one hP5.one (by decide)
   refine p1 (Af rfl) ?_
   refine p1 (Ad Hp sz3 rfl) ?_
   refine Aq rfl (by conv=>lhs;whnf) rfl rfl sz3 hB (by simp) ?_
   intro w6 hP6
   have hX:=hX.put hP6 (⟨.inl hSg,by decide⟩)
   have hB:=hP6.blk
   try simp only[List.setIfInBounds_toArray,List.set_cons_zero,List.set_cons_succ] at hB
   have hM:=hM.mod (hP6.mod 0 (Nat.zero_le _)) (Nat.zero_le _) (by decide)
   have hF:=hF.one hP6.one (by decide)
   refine Ac (t_n (Ab (Aa ?_)))
   refine pA (Ac (t_n (Al ?_)))
   refine eR1 ?_
   (rw[Iw hL0 (by(rw[hb6_1,hb6_3];rfl))]
    exact⟨rfl,Dsk.of hB hM hSg hSr hF (Oh (Nat.le_refl _)),hX⟩)
  refine gM 35 ?_
  refine Eng.g1 35 rfl rfl (Af rfl) ?_
  refine Eng.g1 35 rfl rfl (Ad Aci sz4 rfl) ?_
  refine Eng.g1 35 rfl rfl (Ae un4 rfl (hB.cell (rfl))) ?_
  refine Eng.g1 33 rfl rfl (Ap rfl (by conv=>lhs;whnf)) ?_
  refine p1 (Ar rfl (by conv=>lhs;whnf)) ?_
  refine Ac (t_n ?_)
  refine Iq rfl (fun hc41=>?_) (fun hc41=>?_)
  ·refine Aa ?_
   refine pM ?_
   have hX0:Ext w w:=hXe
   refine I7 (fs:=[]) (cs:=cs) rfl hf hn hb rfl rfl (hdo _ hX0) ?_
   rintro v7 w7 ⟨hD2,hM2⟩
   have hX:ModS S ED w w7:=(ModS.ofExt hX0).trans hM2 (fun _ _ h=>h)
   obtain⟨r,μ,hB,hM,hSg2,hSr,hF⟩:=hD2.ex
   have hB:Blk w7 g #[.int .i64 (D.most:Int),.int .i64 ((usedL act:Nat):Int),.map (some r),.int .i64 (D.steps:Int),.int .i64 D.left,.bool D.done,.bool D.down] tDisk:=hB
   have hF:Fls _ _ μ act:=hF
   skip
   refine Ac (t_n (Ab (Aa ?_)))
   refine pM (pM ?_)
   refine p1 (Af rfl) ?_
   refine p1 (Ad Ku sz4 rfl) ?_
   refine Aq rfl (by conv=>lhs;whnf) rfl rfl sz4 hB (by simp) ?_
   intro w8 hP8
   have hX:=hX.put hP8 (⟨.inl hSg,by decide⟩)
   have hB:=hP8.blk
   try simp only[List.setIfInBounds_toArray,List.set_cons_zero,List.set_cons_succ] at hB
   have hM:=hM.mod (hP8.mod 0 (Nat.zero_le _)) (Nat.zero_le _) (by decide)
   have hF:=hF.one hP8.one (by decide)
   refine p1 (Af rfl) ?_
   refine p1 (Ad Hp sz3 rfl) ?_
   refine Aq rfl (by conv=>lhs;whnf) rfl rfl sz3 hB (by simp) ?_
   intro w9 hP9
   have hX:=hX.put hP9 (⟨.inl hSg,by decide⟩)
   have hB:=hP9.blk
   try simp only[List.setIfInBounds_toArray,List.set_cons_zero,List.set_cons_succ] at hB
   have hM:=hM.mod (hP9.mod 0 (Nat.zero_le _)) (Nat.zero_le _) (by decide)
   have hF:=hF.one hP9.one (by decide)
   refine Ac (t_n (Ab (Aa ?_)))
   refine pA (Ac (t_n (Al ?_)))
   refine eR1 ?_
   (rw[Iw hL0 (by simp_all)]
    exact⟨rfl,Dsk.of hB hM hSg hSr hF (Oh (Nat.le_refl _)),hX⟩)
  refine Ah (t_n (Ab (Aa ?_)))
  refine pM (pM ?_)
  refine p1 (Af rfl) ?_
  refine p1 (Ad Ku sz4 rfl) ?_
  refine Aq rfl (by conv=>lhs;whnf) rfl rfl sz4 hB (by simp) ?_
  intro w10 hP10
  have hX:=hX.put hP10 (⟨.inl hSg,by decide⟩)
  have hB:=hP10.blk
  try simp only[List.setIfInBounds_toArray,List.set_cons_zero,List.set_cons_succ] at hB
  have hM:=hM.mod (hP10.mod 0 (Nat.zero_le _)) (Nat.zero_le _) (by decide)
  have hF:=hF.one hP10.one (by decide)
  refine p1 (Af rfl) ?_
  refine p1 (Ad Hp sz3 rfl) ?_
  refine Aq rfl (by conv=>lhs;whnf) rfl rfl sz3 hB (by simp) ?_
  intro w11 hP11
  have hX:=hX.put hP11 (⟨.inl hSg,by decide⟩)
  have hB:=hP11.blk
  try simp only[List.setIfInBounds_toArray,List.set_cons_zero,List.set_cons_succ] at hB
  have hM:=hM.mod (hP11.mod 0 (Nat.zero_le _)) (Nat.zero_le _) (by decide)
  have hF:=hF.one hP11.one (by decide)
  refine Ac (t_n (Ab (Aa ?_)))
  refine pA (Ac (t_n (Al ?_)))
  refine eR1 ?_
  (rw[J6 hL0 (by simp_all)]
   exact⟨rfl,Dsk.of hB hM hSg hSr hF Em,hX⟩)
 refine gF 33 (gF 33 (gF 35 (gF 35 (gF 35 (gF 35 (gF 33 ?_))))))
 refine p1 (Ap rfl (by conv=>lhs;whnf)) ?_
 refine Ac (t_n ?_)
 refine c_f rfl ?_
 refine Ah (t_n (Ab (Aa ?_)))
 refine pM (pM ?_)
 refine p1 (Af rfl) ?_
 refine p1 (Ad Ku sz4 rfl) ?_
 refine Aq rfl (by conv=>lhs;whnf) rfl rfl sz4 hB (by simp) ?_
 intro w12 hP12
 have hX:=hX.put hP12 (⟨.inl hSg,by decide⟩)
 have hB:=hP12.blk
 try simp only[List.setIfInBounds_toArray,List.set_cons_zero,List.set_cons_succ] at hB
 have hM:=hM.mod (hP12.mod 0 (Nat.zero_le _)) (Nat.zero_le _) (by decide)
 have hF:=hF.one hP12.one (by decide)
 refine p1 (Af rfl) ?_
 refine p1 (Ad Hp sz3 rfl) ?_
 refine Aq rfl (by conv=>lhs;whnf) rfl rfl sz3 hB (by simp) ?_
 intro w13 hP13
 have hX:=hX.put hP13 (⟨.inl hSg,by decide⟩)
 have hB:=hP13.blk
 try simp only[List.setIfInBounds_toArray,List.set_cons_zero,List.set_cons_succ] at hB
 have hM:=hM.mod (hP13.mod 0 (Nat.zero_le _)) (Nat.zero_le _) (by decide)
 have hF:=hF.one hP13.one (by decide)
 refine Ac (t_n (Ab (Aa ?_)))
 refine pA (Ac (t_n (Al ?_)))
 refine eR1 ?_
 (rw[J6 hL0 (by(rw[hb6_1];rfl))]
  exact⟨rfl,Dsk.of hB hM hSg hSr hF Em,hX⟩)
end Go.Proofs.Eng
end
section
set_option maxRecDepth 100000
set_option maxHeartbeats 4000000
namespace Go.Proofs.Eng
open Go.RowKit
open Extern.Stop (cell)
theorem Oy (g:Nat) (S:Nat→Prop) (D:DS) (w:World) (hD:Dsk S w g D) (hok:DOk D) (k:ByteArray) (hk:ascA D.l k=none) (b0:Nat) (b1:Nat) (hb0:Blk w b0 #[.pointer (some ⟨g,0,none⟩)] 34) (hb1:Blk w b1 #[.string k] 9) :
    Ret Tryz.prog 63 [.pointer (some ⟨b0,0,none⟩),.pointer (some ⟨b1,0,none⟩)] w (fun v w'=>Dsk (grow S w w') w' g { D with l:=insA D.l k (some ([],0)) }∧ModS S ED w w'):=by
 obtain⟨r,μ,hB,hM,hSg,hSr,hF⟩:=hD.ex
 have hW1:=Nat.le_refl w.heap.size
 have hroom:=hok.room
 have hmost:=hok.most
 have hX:=ModS.refl S ED w
 refine eN 8 Tryz.func63 ?_
 refine Cn 6 mixed (by kernel_rfl) ?_
 intro w1 hE1
 have hX:=hX.ext hE1
 have hB:=hB.ext hE1
 have hM:=hM.ext hE1
 have hF:=hF.ext hE1
 have hb0:=hb0.ext hE1
 have hb1:=hb1.ext hE1
 refine s1 (Ae un34 rfl (hb0.cell (rfl))) ?_
 refine s1 (Af rfl) ?_
 refine s1 (Ad Cg sz100 rfl) ?_
 refine s1 (Ae un100 rfl (hB.cell (rfl))) ?_
 refine s1 (Ae un9 rfl (hb1.cell (rfl))) ?_
 refine s1 (Gz pl113 rfl) ?_
 refine Ca ?_
 have hMt2:=hM.tyOf
 refine D5 (a:=k) (b:=raw0) u100 (Cc u9) rfl rfl rfl hM rfl (Nat.zero_le _) (by decide) ?_
 intro w2 hM hMm2 hne2
 have hO2:=One.ofMod hMm2 hMt2 hne2
 have hX:=hX.one hO2 ⟨.inl hSr,by decide⟩
 have hB:=hB.one hO2 (by decide)
 have hF:=hF.one hO2 (by decide)
 have hF:=hF.put hok.rise k raw0 ([],0) rfl (FB.nil _ _) (fun _ _ _ _ => .inl rfl)
 refine Ac ?_
 refine end0n rfl ?_
 have hu:=Dn hok.rise k (some ([],0))
 rw[hk] at hu
 simp only[Option.map_some,Option.map_none,Option.getD_some,Option.getD_none,List.length_nil] at hu
 exact⟨Dsk.made hB (by omega) hM hSg hSr hF Em,hX⟩
theorem R6 (g:Nat) (S:Nat→Prop) (D:DS) (w:World) (hD:Dsk S w g D) (hok:DOk D) (k:ByteArray) (hk:ascA D.l k≠none) (b0:Nat) (b1:Nat) (hb0:Blk w b0 #[.pointer (some ⟨g,0,none⟩)] 34) (hb1:Blk w b1 #[.string k] 9) :
    Ret Tryz.prog 65 [.pointer (some ⟨b0,0,none⟩),.pointer (some ⟨b1,0,none⟩)] w (fun v w'=>Dsk (grow S w w') w' g { D with l:=insA D.l k (some ((getF D k).1,(getF D k).1.length)) }∧ModS S ED w w'):=by
 obtain⟨r,μ,hB,hM,hSg,hSr,hF⟩:=hD.ex
 have hW1:=Nat.le_refl w.heap.size
 have hroom:=hok.room
 have hmost:=hok.most
 obtain⟨hk1,hk2⟩:=hF.there hk
 have hX:=ModS.refl S ED w
 refine eN 19 Tryz.func65 ?_
 refine Ab ?_
 refine Bx (fun w1 w2=>Ext w1 w2) mixed ?_
 intro w1 hE1
 have hX:=hX.ext hE1
 have hB:=hB.ext hE1
 have hM:=hM.ext hE1
 have hF:=hF.ext hE1
 have hb0:=hb0.ext hE1
 have hb1:=hb1.ext hE1
 have hSr0:(fun w1 w2=>Ext w1 w2) w1 w1:=Ext.refl w1
 refine hT 0 rfl hSr0 (fun wS hSS=>by(have hb0:=hb0.ext hSS;exact(Ae un34 rfl (hb0.cell (rfl))))) ?_
 refine hT 1 rfl hSr0 (fun wS hSS=>by(exact(Af rfl))) ?_
 refine hT 2 rfl hSr0 (fun wS hSS=>by(exact(Ad Cg sz100 rfl))) ?_
 refine hT 3 rfl hSr0 (fun wS hSS=>by(have hB:=hB.ext hSS;exact(Ae un100 rfl (hB.cell (rfl))))) ?_
 refine hT 4 rfl hSr0 (fun wS hSS=>by(have hb1:=hb1.ext hSS;exact(Ae un9 rfl (hb1.cell (rfl))))) ?_
 obtain⟨⟨p0,n0,c0,s0⟩,hr0⟩:∃ x:Raw,x=(μ k).getD raw0:=⟨_,rfl⟩
 obtain⟨hF0,hs0⟩:=hF.get k
 rw[← hr0] at hF0 hs0
 simp only at hF0 hs0
 refine hT 5 rfl hSr0 (fun wS hSS=>by(have hM:=hM.ext hSS;exact(((lookF u100 zr113 (Cc u9) hM k rfl rfl).1).cast (by rw[← hr0];rfl:_=Value.agg #[.slice p0 n0 c0,.int .i64 (s0:Int)])))) ?_
 refine h1L 6 (fun Q6 hQ6=>?_)
 have hXs:=hX.size
 refine A7 zr113 ?_
 intro w2 g2 hN2
 have hE2:=hN2.ext
 have hX:=hX.ext hE2
 have hB:=hB.ext hE2
 have hM:=hM.ext hE2
 have hF:=hF.ext hE2
 have hb0:=hb0.ext hE2
 have hb1:=hb1.ext hE2
 have hSr0:=hSr0.ext hE2
 have hB2:=hN2.blk
 refine An hQ6 ⟨hSr0,?_⟩
 refine h1L 7 (fun Q7 hQ7=>?_)
 have hg2:w.heap.size≤g2:=by rw[hN2.g_eq];exact hXs
 refine Ax rfl (by conv=>lhs;whnf) (by simp[Value.oneCell']) (by exact sz113) hB2 (by rfl) ?_
 intro w3 hP3
 have hX:=hX.put hP3 (⟨.inr (by rw[hN2.g_eq];exact hXs),by decide⟩)
 have hB:=hB.one hP3.one (by decide)
 have hM:=hM.mod (hP3.mod 0 (Nat.zero_le _)) (Nat.zero_le _) (by decide)
 have hF:=hF.one hP3.one (by decide)
 have hb0:=hb0.one hP3.one (by decide)
 have hb1:=hb1.one hP3.one (by decide)
 have hSr0:=hSr0.put hP3 (by rw[hN2.g_eq];exact Nat.le_refl _)
 have hB2:=hP3.blk
 refine An hQ7 ⟨hSr0,?_⟩
 refine Bo (by kernel_rfl) ?_
 refine t_n (Ab (Aa ?_))
 refine p1 (Ad Fe sz23 rfl) ?_
 refine p1 (Ae un23 rfl (hB2.cell (rfl))) ?_
 refine p1 (Ak u23 rfl) ?_
 refine p1 (Ad Wu sz3 rfl) ?_
 refine Aq rfl (by conv=>lhs;whnf) rfl rfl sz3 hB2 (by simp) ?_
 intro w4 hP4
 have hX:=hX.put hP4 (⟨.inr hg2,by decide⟩)
 have hB:=hB.one hP4.one (by decide)
 have hM:=hM.mod (hP4.mod 0 (Nat.zero_le _)) (Nat.zero_le _) (by decide)
 have hF:=hF.one hP4.one (by decide)
 have hb0:=hb0.one hP4.one (by decide)
 have hb1:=hb1.one hP4.one (by decide)
 have hB2:=hP4.blk
 try simp only[List.setIfInBounds_toArray,List.set_cons_zero,List.set_cons_succ] at hB2
 refine Ac (t_n ?_)
 refine Cn 6 mixed (by kernel_rfl) ?_
 intro w5 hE5
 have hX:=hX.ext hE5
 have hB:=hB.ext hE5
 have hM:=hM.ext hE5
 have hF:=hF.ext hE5
 have hb0:=hb0.ext hE5
 have hb1:=hb1.ext hE5
 have hB2:=hB2.ext hE5
 refine s1 (Ae un34 rfl (hb0.cell (rfl))) ?_
 refine s1 (Af rfl) ?_
 refine s1 (Ad Cg sz100 rfl) ?_
 refine s1 (Ae un100 rfl (hB.cell (rfl))) ?_
 refine s1 (Ae un9 rfl (hb1.cell (rfl))) ?_
 refine s1 (Bj ua113 rfl hB2 sz113) ?_
 refine Ca ?_
 have hMt6:=hM.tyOf
 refine D5 (a:=k) (b:=(p0,n0,c0,n0)) u100 (Cc u9) rfl rfl rfl hM rfl (Nat.zero_le _) (by decide) ?_
 intro w6 hM hMm6 hne6
 have hO6:=One.ofMod hMm6 hMt6 hne6
 have hX:=hX.one hO6 ⟨.inl hSr,by decide⟩
 have hB:=hB.one hO6 (by decide)
 have hF:=hF.one hO6 (by decide)
 have hF0:=(hF.get k).1
 rw[← hr0] at hF0
 simp only at hF0
 have hF:=hF.put hok.rise k (p0,n0,c0,n0) ((getF D k).1,(getF D k).1.length) hF0.len.symm hF0 (fun k' y hn hy=>by have h9:=Qj hF hk1 k' y hn hy;rw[← hr0] at h9;exact h9)
 refine Ac ?_
 refine end0n rfl ?_
 have hu:=Du hok hk (some ((getF D k).1,(getF D k).1.length))
 unfold getF ascF at hu
 simp only[Option.map_some,Option.getD_some] at hu
 exact⟨Dsk.made hB (by unfold getF ascF;omega) hM hSg hSr hF Em,hX⟩
theorem O0 (g:Nat) (S:Nat→Prop) (D:DS) (w:World) (hD:Dsk S w g D) (hok:DOk D) (k:ByteArray) (hk:ascA D.l k≠none) (e B:Nat) (p:Option Addr) (n c:Nat) (ys:List UInt8) (hl:Sl kByte e B w p n c ys) (hfit:(usedL D.l:Int)+n≤D.most) (b0:Nat) (b1:Nat) (b2:Nat) (hb0:Blk w b0 #[.pointer (some ⟨g,0,none⟩)] 34) (hb1:Blk w b1 #[.string k] 9) (hb2:Blk w b2 #[.slice p n c] 23) :
    Ret Tryz.prog 64 [.pointer (some ⟨b0,0,none⟩),.pointer (some ⟨b1,0,none⟩),.pointer (some ⟨b2,0,none⟩)] w (fun v w'=>Dsk (grow S w w') w' g { D with l:=insA D.l k (some ((getF D k).1++ys,(getF D k).2)) }∧ModS S ED w w'):=by
 obtain⟨r,μ,hB,hM,hSg,hSr,hF⟩:=hD.ex
 have hW1:=Nat.le_refl w.heap.size
 have hroom:=hok.room
 have hmost:=hok.most
 obtain⟨hk1,hk2⟩:=hF.there hk
 have hXe:=Ext.refl w
 have hX:=ModS.refl S ED w
 refine eN 30 Tryz.func64 ?_
 refine Ab ?_
 refine Bx (fun w1 w2=>Ext w1 w2) mixed ?_
 intro w1 hE1
 have hX:=hX.ext hE1
 have hB:=hB.ext hE1
 have hM:=hM.ext hE1
 have hF:=hF.ext hE1
 have hb0:=hb0.ext hE1
 have hb1:=hb1.ext hE1
 have hb2:=hb2.ext hE1
 have hXe:=hXe.ext hE1
 have hSr0:(fun w1 w2=>Ext w1 w2) w1 w1:=Ext.refl w1
 refine hT 0 rfl hSr0 (fun wS hSS=>by(have hb0:=hb0.ext hSS;exact(Ae un34 rfl (hb0.cell (rfl))))) ?_
 refine hT 1 rfl hSr0 (fun wS hSS=>by(exact(Af rfl))) ?_
 refine hT 2 rfl hSr0 (fun wS hSS=>by(exact(Ad Cg sz100 rfl))) ?_
 refine hT 3 rfl hSr0 (fun wS hSS=>by(have hB:=hB.ext hSS;exact(Ae un100 rfl (hB.cell (rfl))))) ?_
 refine hT 4 rfl hSr0 (fun wS hSS=>by(have hb1:=hb1.ext hSS;exact(Ae un9 rfl (hb1.cell (rfl))))) ?_
 obtain⟨⟨p0,n0,c0,s0⟩,hr0⟩:∃ x:Raw,x=(μ k).getD raw0:=⟨_,rfl⟩
 obtain⟨hF0,hs0⟩:=hF.get k
 rw[← hr0] at hF0 hs0
 simp only at hF0 hs0
 refine hT 5 rfl hSr0 (fun wS hSS=>by(have hM:=hM.ext hSS;exact(((lookF u100 zr113 (Cc u9) hM k rfl rfl).1).cast (by rw[← hr0];rfl:_=Value.agg #[.slice p0 n0 c0,.int .i64 (s0:Int)])))) ?_
 refine h1L 6 (fun Q6 hQ6=>?_)
 have hXs:=hX.size
 refine A7 zr113 ?_
 intro w2 g3 hN3
 have hE2:=hN3.ext
 have hX:=hX.ext hE2
 have hB:=hB.ext hE2
 have hM:=hM.ext hE2
 have hF:=hF.ext hE2
 have hb0:=hb0.ext hE2
 have hb1:=hb1.ext hE2
 have hb2:=hb2.ext hE2
 have hXe:=hXe.ext hE2
 have hSr0:=hSr0.ext hE2
 have hB3:=hN3.blk
 refine An hQ6 ⟨hSr0,?_⟩
 refine h1L 7 (fun Q7 hQ7=>?_)
 have hg3:w.heap.size≤g3:=by rw[hN3.g_eq];exact hXs
 refine Ax rfl (by conv=>lhs;whnf) (by simp[Value.oneCell']) (by exact sz113) hB3 (by rfl) ?_
 intro w3 hP3
 have hX:=hX.put hP3 (⟨.inr hg3,by decide⟩)
 have hB:=hB.one hP3.one (by decide)
 have hM:=hM.mod (hP3.mod 0 (Nat.zero_le _)) (Nat.zero_le _) (by decide)
 have hF:=hF.one hP3.one (by decide)
 have hb0:=hb0.one hP3.one (by decide)
 have hb1:=hb1.one hP3.one (by decide)
 have hb2:=hb2.one hP3.one (by decide)
 have hXe:=hXe.put hP3 (by omega)
 have hSr0:=hSr0.put hP3 (by rw[hN3.g_eq];exact Nat.le_refl _)
 have hB3:=hP3.blk
 refine An hQ7 ⟨hSr0,?_⟩
 refine Bo (by kernel_rfl) ?_
 refine t_n (Ab (Aa ?_))
 refine p1 (Ad Fe sz23 rfl) ?_
 refine p1 (Ae un23 rfl (hB3.cell (rfl))) ?_
 refine p1 (Ae un23 rfl (hb2.cell (rfl))) ?_
 have hX0s:=hX.size
 have hF0:=(hF.get k).1
 rw[← hr0] at hF0
 simp only at hF0
 have hl1:=hl.ext hXe
 have hlen0:=hF0.len
 have hgl:=(Fr hok k).1
 have hge:(ascA D.l k).getD ([],0)=getF D k:=rfl
 rw[hge] at hF0 hlen0
 refine Xu ys u23 inf5 rfl rfl hF0 (by rw[← Bw];exact Dv u23 hl1 (by decide)) hl.len (by omega) ?_
 intro pz cz w4 hF1 hpp hO hFo
 have hap:=Yh hF hk1 (p':=pz) (by rw[← hr0];exact hpp)
 have hB:=hB.oneR hO hF0 (by decide)
 have hB3:=hB3.oneR hO hF0 (by decide)
 have hb0:=hb0.oneR hO hF0 (by decide)
 have hb1:=hb1.oneR hO hF0 (by decide)
 have hb2:=hb2.oneR hO hF0 (by decide)
 have hM:=hM.oneR hO hF0 rfl
 have hF:=hF.app hk1 (by rw[← hr0];exact hO) (xs:=(getF D k).1) (by rw[← hr0,hk2,hge,hs0,hge]) (by rw[← hr0];exact hFo)
 have hX:=hX.oneR hO (.inl hF0) (by decide)
 have hF:=hF.mono (S':=fun j=>S j∨w.heap.size≤j) (fun _ _ h => .inl h)
 have hF1:=hF1.mono (S':=fun j=>S j∨w.heap.size≤j) (fun _ _ h=>h.imp id fun h=>by have:=hX0s;omega)
 skip
 refine p1 (Ad Fe sz23 rfl) ?_
 refine Aq rfl (by conv=>lhs;whnf) rfl rfl sz23 hB3 (by simp) ?_
 intro w5 hP5
 have hX:=hX.put hP5 (⟨.inr hg3,by decide⟩)
 have hB:=hB.one hP5.one (by decide)
 have hB3:=hP5.blk
 try simp only[List.setIfInBounds_toArray,List.set_cons_zero,List.set_cons_succ] at hB3
 have hb0:=hb0.one hP5.one (by decide)
 have hb1:=hb1.one hP5.one (by decide)
 have hb2:=hb2.one hP5.one (by decide)
 have hM:=hM.mod (hP5.mod 0 (Nat.zero_le _)) (Nat.zero_le _) (by decide)
 have hF:=hF.one hP5.one (by decide)
 have hF1:=hF1.one hP5.one (by decide)
 refine Ac (t_n (Ab ?_))
 refine Cn 6 mixed (by kernel_rfl) ?_
 intro w6 hE6
 have hX:=hX.ext hE6
 have hB:=hB.ext hE6
 have hB3:=hB3.ext hE6
 have hb0:=hb0.ext hE6
 have hb1:=hb1.ext hE6
 have hb2:=hb2.ext hE6
 have hM:=hM.ext hE6
 have hF:=hF.ext hE6
 have hF1:=hF1.ext hE6
 refine s1 (Ae un34 rfl (hb0.cell (rfl))) ?_
 refine s1 (Af rfl) ?_
 refine s1 (Ad Cg sz100 rfl) ?_
 refine s1 (Ae un100 rfl (hB.cell (rfl))) ?_
 refine s1 (Ae un9 rfl (hb1.cell (rfl))) ?_
 refine s1 (Bj ua113 rfl hB3 sz113) ?_
 refine Ca ?_
 have hMt7:=hM.tyOf
 refine D5 (a:=k) (b:=(pz,n0+n,cz,s0)) u100 (Cc u9) rfl rfl rfl hM rfl (Nat.zero_le _) (by decide) ?_
 intro w7 hM hMm7 hne7
 have hO7:=One.ofMod hMm7 hMt7 hne7
 have hX:=hX.one hO7 ⟨.inl hSr,by decide⟩
 have hB:=hB.one hO7 (by decide)
 have hb0:=hb0.one hO7 (by decide)
 have hb2:=hb2.one hO7 (by decide)
 have hF:=hF.one hO7 (by decide)
 have hF1:=hF1.one hO7 (by decide)
 have hF:=hF.put hok.rise k (pz,n0+n,cz,s0) ((getF D k).1++ys,(getF D k).2) hs0 hF1 hap
 refine Ac (t_n ?_)
 refine Cn 9 mixed (by kernel_rfl) ?_
 intro w8 hE8
 have hX:=hX.ext hE8
 have hM:=hM.ext hE8
 have hF:=hF.ext hE8
 have hB:=hB.ext hE8
 have hb0:=hb0.ext hE8
 have hb2:=hb2.ext hE8
 refine s1 (Ae un34 rfl (hb0.cell (rfl))) ?_
 refine s1 (Af rfl) ?_
 refine s1 (Ad Fs sz3 rfl) ?_
 refine s1 (Ae un3 rfl (hB.cell (rfl))) ?_
 refine s1 (Ae un23 rfl (hb2.cell (rfl))) ?_
 refine s1 (Ak u23 rfl) ?_
 have hnn:=hl.len
 refine s1 (A1 rfl rfl (Aj (by omega) (by omega))) ?_
 refine s1 (Af rfl) ?_
 refine s1 (Ad Fs sz3 rfl) ?_
 refine Ca ?_
 refine Aq rfl (by conv=>lhs;whnf) rfl rfl sz3 hB (by simp) ?_
 intro w9 hP9
 have hX:=hX.put hP9 (⟨.inl hSg,by decide⟩)
 have hM:=hM.mod (hP9.mod 0 (Nat.zero_le _)) (Nat.zero_le _) (by decide)
 have hF:=hF.one hP9.one (by decide)
 have hB:=hP9.blk
 try simp only[List.setIfInBounds_toArray,List.set_cons_zero,List.set_cons_succ] at hB
 refine Ac ?_
 refine end0n rfl ?_
 have hu:=Du hok hk (some ((getF D k).1++ys,(getF D k).2))
 unfold getF ascF at hu
 simp only[Option.map_some,Option.getD_some,List.length_append] at hu
 have hgl:=(Fr hok k).1
 have hnn:=hl.len
 unfold getF ascF at hgl
 exact⟨Dsk.made hB (by unfold getF ascF;omega) hM hSg (.inl hSr) hF (fun _ _ h=>h),hX⟩
theorem Ow (g:Nat) (S:Nat→Prop) (D:DS) (w:World) (hD:Dsk S w g D) (hok:DOk D) (k:ByteArray) (hk:ascA D.l k≠none) (b0:Nat) (b1:Nat) (hb0:Blk w b0 #[.pointer (some ⟨g,0,none⟩)] 34) (hb1:Blk w b1 #[.string k] 9) :
    Ret Tryz.prog 142 [.pointer (some ⟨b0,0,none⟩),.pointer (some ⟨b1,0,none⟩)] w (fun v w'=>Dsk (grow S w w') w' g { D with l:=insA D.l k none }∧ModS S ED w w'):=by
 obtain⟨r,μ,hB,hM,hSg,hSr,hF⟩:=hD.ex
 have hW1:=Nat.le_refl w.heap.size
 have hroom:=hok.room
 have hmost:=hok.most
 obtain⟨hk1,hk2⟩:=hF.there hk
 have hX:=ModS.refl S ED w
 refine eN 22 Tryz.func142 ?_
 refine Ab ?_
 refine Cn 15 mixed (by kernel_rfl) ?_
 intro w1 hE1
 have hX:=hX.ext hE1
 have hB:=hB.ext hE1
 have hM:=hM.ext hE1
 have hF:=hF.ext hE1
 have hb0:=hb0.ext hE1
 have hb1:=hb1.ext hE1
 refine s1 (Ae un34 rfl (hb0.cell (rfl))) ?_
 refine s1 (Af rfl) ?_
 refine s1 (Ad Fs sz3 rfl) ?_
 refine s1 (Ae un3 rfl (hB.cell (rfl))) ?_
 refine s1 (Ae un34 rfl (hb0.cell (rfl))) ?_
 refine s1 (Af rfl) ?_
 refine s1 (Ad Cg sz100 rfl) ?_
 refine s1 (Ae un100 rfl (hB.cell (rfl))) ?_
 refine s1 (Ae un9 rfl (hb1.cell (rfl))) ?_
 obtain⟨⟨p0,n0,c0,s0⟩,hr0⟩:∃ x:Raw,x=(μ k).getD raw0:=⟨_,rfl⟩
 obtain⟨hF0,hs0⟩:=hF.get k
 rw[← hr0] at hF0 hs0
 simp only at hF0 hs0
 refine s1 (((lookF u100 zr113 (Cc u9) hM k rfl rfl).1).cast (by rw[← hr0];rfl:_=Value.agg #[.slice p0 n0 c0,.int .i64 (s0:Int)])) ?_
 refine s1 (J1 Fe un23 rfl rfl) ?_
 refine s1 (Ak u23 rfl) ?_
 have hgl:=(Fr hok k).1
 have hlen0:=hF0.len
 unfold getF ascF at hgl
 refine s1 (Dt rfl rfl (Aj (by omega) (by omega))) ?_
 refine s1 (Af rfl) ?_
 refine s1 (Ad Fs sz3 rfl) ?_
 refine Ca ?_
 refine Aq rfl (by conv=>lhs;whnf) rfl rfl sz3 hB (by simp) ?_
 intro w2 hP2
 have hX:=hX.put hP2 (⟨.inl hSg,by decide⟩)
 have hB:=hP2.blk
 try simp only[List.setIfInBounds_toArray,List.set_cons_zero,List.set_cons_succ] at hB
 have hM:=hM.mod (hP2.mod 0 (Nat.zero_le _)) (Nat.zero_le _) (by decide)
 have hF:=hF.one hP2.one (by decide)
 have hb0:=hb0.one hP2.one (by decide)
 have hb1:=hb1.one hP2.one (by decide)
 refine Ac (t_n ?_)
 refine Cn 5 mixed (by kernel_rfl) ?_
 intro w3 hE3
 have hX:=hX.ext hE3
 have hB:=hB.ext hE3
 have hM:=hM.ext hE3
 have hF:=hF.ext hE3
 have hb0:=hb0.ext hE3
 have hb1:=hb1.ext hE3
 refine s1 (Ae un34 rfl (hb0.cell (rfl))) ?_
 refine s1 (Af rfl) ?_
 refine s1 (Ad Cg sz100 rfl) ?_
 refine s1 (Ae un100 rfl (hB.cell (rfl))) ?_
 refine s1 (Ae un9 rfl (hb1.cell (rfl))) ?_
 refine Ca ?_
 have hMt4:=hM.tyOf
 refine Px (a:=k) u100 (Cc u9) rfl rfl hM (Nat.zero_le _) (by decide) ?_
 intro w4 hM hMm4 hne4
 have hO4:=One.ofMod hMm4 hMt4 hne4
 have hX:=hX.one hO4 ⟨.inl hSr,by decide⟩
 have hB:=hB.one hO4 (by decide)
 have hF:=hF.one hO4 (by decide)
 have hF:=hF.del hok.rise k
 refine Ac ?_
 refine end0n rfl ?_
 have hu:=Du hok hk none
 unfold getF ascF at hu
 simp only[Option.map_none,Option.getD_none] at hu
 exact⟨Dsk.made hB (by omega) hM hSg hSr hF Em,hX⟩
theorem Ov (g:Nat) (S:Nat→Prop) (D:DS) (w:World) (hD:Dsk S w g D) (hok:DOk D) (old now:ByteArray) (hk:ascA D.l old≠none) (b0:Nat) (b1:Nat) (b2:Nat) (hb0:Blk w b0 #[.string old] 9) (hb1:Blk w b1 #[.string now] 9) (hb2:Blk w b2 #[.pointer (some ⟨g,0,none⟩)] 34) :
    Ret Tryz.prog 146 [.pointer (some ⟨b0,0,none⟩),.pointer (some ⟨b1,0,none⟩),.pointer (some ⟨b2,0,none⟩)] w (fun v w'=>Dsk (grow S w w') w' g { D with l:=renL D.l old now (getF D old) }∧ModS S ED w w'):=by
 obtain⟨r,μ,hB,hM,hSg,hSr,hF⟩:=hD.ex
 have hW1:=Nat.le_refl w.heap.size
 have hroom:=hok.room
 have hmost:=hok.most
 obtain⟨hk1,hk2⟩:=hF.there hk
 have hX:=ModS.refl S ED w
 refine eN 37 Tryz.func146 ?_
 refine Ab (Ab (Aa ?_))
 refine p1 (Ae un9 rfl (hb0.cell (rfl))) ?_
 refine p1 (Ae un9 rfl (hb1.cell (rfl))) ?_
 refine p1 (Is rfl rfl) ?_
 refine Ac (t_n ?_)
 refine As rfl (fun hc5=>?_) (fun hc5=>?_)
 ·have hll:renL D.l old now (getF D old)=D.l:=if_pos hc5
  refine Al (t_r ?_)
  refine end0 rfl ?_
  (rw[hll];exact⟨Dsk.made hB rfl hM hSg hSr hF Em,hX⟩)
 have hll:renL D.l old now (getF D old)=insA (insA D.l now (some (getF D old))) old none:=if_neg hc5
 refine Ah (t_n (Ab ?_))
 refine Cn 15 mixed (by kernel_rfl) ?_
 intro w1 hE1
 have hX:=hX.ext hE1
 have hB:=hB.ext hE1
 have hM:=hM.ext hE1
 have hF:=hF.ext hE1
 have hb0:=hb0.ext hE1
 have hb1:=hb1.ext hE1
 have hb2:=hb2.ext hE1
 refine s1 (Ae un34 rfl (hb2.cell (rfl))) ?_
 refine s1 (Af rfl) ?_
 refine s1 (Ad Fs sz3 rfl) ?_
 refine s1 (Ae un3 rfl (hB.cell (rfl))) ?_
 refine s1 (Ae un34 rfl (hb2.cell (rfl))) ?_
 refine s1 (Af rfl) ?_
 refine s1 (Ad Cg sz100 rfl) ?_
 refine s1 (Ae un100 rfl (hB.cell (rfl))) ?_
 refine s1 (Ae un9 rfl (hb1.cell (rfl))) ?_
 obtain⟨⟨p0,n0,c0,s0⟩,hr0⟩:∃ x:Raw,x=(μ now).getD raw0:=⟨_,rfl⟩
 obtain⟨hF0,hs0⟩:=hF.get now
 rw[← hr0] at hF0 hs0
 simp only at hF0 hs0
 refine s1 (((lookF u100 zr113 (Cc u9) hM now rfl rfl).1).cast (by rw[← hr0];rfl:_=Value.agg #[.slice p0 n0 c0,.int .i64 (s0:Int)])) ?_
 refine s1 (J1 Fe un23 rfl rfl) ?_
 refine s1 (Ak u23 rfl) ?_
 have hgl:=(Fr hok now).1
 have hlen0:=hF0.len
 unfold getF ascF at hgl
 refine s1 (Dt rfl rfl (Aj (by omega) (by omega))) ?_
 refine s1 (Af rfl) ?_
 refine s1 (Ad Fs sz3 rfl) ?_
 refine Ca ?_
 refine Aq rfl (by conv=>lhs;whnf) rfl rfl sz3 hB (by simp) ?_
 intro w2 hP2
 have hX:=hX.put hP2 (⟨.inl hSg,by decide⟩)
 have hB:=hP2.blk
 try simp only[List.setIfInBounds_toArray,List.set_cons_zero,List.set_cons_succ] at hB
 have hM:=hM.mod (hP2.mod 0 (Nat.zero_le _)) (Nat.zero_le _) (by decide)
 have hF:=hF.one hP2.one (by decide)
 have hb0:=hb0.one hP2.one (by decide)
 have hb1:=hb1.one hP2.one (by decide)
 have hb2:=hb2.one hP2.one (by decide)
 refine Ac (t_n (Ab ?_))
 refine Cn 11 mixed (by kernel_rfl) ?_
 intro w3 hE3
 have hX:=hX.ext hE3
 have hB:=hB.ext hE3
 have hM:=hM.ext hE3
 have hF:=hF.ext hE3
 have hb0:=hb0.ext hE3
 have hb1:=hb1.ext hE3
 have hb2:=hb2.ext hE3
 refine s1 (Ae un34 rfl (hb2.cell (rfl))) ?_
 refine s1 (Af rfl) ?_
 refine s1 (Ad Cg sz100 rfl) ?_
 refine s1 (Ae un100 rfl (hB.cell (rfl))) ?_
 refine s1 (Ae un9 rfl (hb1.cell (rfl))) ?_
 refine s1 (Ae un34 rfl (hb2.cell (rfl))) ?_
 refine s1 (Af rfl) ?_
 refine s1 (Ad Cg sz100 rfl) ?_
 refine s1 (Ae un100 rfl (hB.cell (rfl))) ?_
 refine s1 (Ae un9 rfl (hb0.cell (rfl))) ?_
 obtain⟨⟨p9,n9,c9,s9⟩,hr9⟩:∃ x:Raw,x=(μ old).getD raw0:=⟨_,rfl⟩
 obtain⟨hF9,hs9⟩:=hF.get old
 rw[← hr9] at hF9 hs9
 simp only at hF9 hs9
 refine s1 (((lookF u100 zr113 (Cc u9) hM old rfl rfl).1).cast (by rw[← hr9];rfl:_=Value.agg #[.slice p9 n9 c9,.int .i64 (s9:Int)])) ?_
 refine Ca ?_
 have hMt4:=hM.tyOf
 refine D5 (a:=now) (b:=(p9,n9,c9,s9)) u100 (Cc u9) rfl rfl rfl hM rfl (Nat.zero_le _) (by decide) ?_
 intro w4 hM hMm4 hne4
 have hO4:=One.ofMod hMm4 hMt4 hne4
 have hX:=hX.one hO4 ⟨.inl hSr,by decide⟩
 have hB:=hB.one hO4 (by decide)
 have hb0:=hb0.one hO4 (by decide)
 have hb2:=hb2.one hO4 (by decide)
 have hF:=hF.one hO4 (by decide)
 skip
 refine Ac (t_n ?_)
 refine Cn 5 mixed (by kernel_rfl) ?_
 intro w5 hE5
 have hX:=hX.ext hE5
 have hM:=hM.ext hE5
 have hF:=hF.ext hE5
 have hB:=hB.ext hE5
 have hb0:=hb0.ext hE5
 have hb2:=hb2.ext hE5
 refine s1 (Ae un34 rfl (hb2.cell (rfl))) ?_
 refine s1 (Af rfl) ?_
 refine s1 (Ad Cg sz100 rfl) ?_
 refine s1 (Ae un100 rfl (hB.cell (rfl))) ?_
 refine s1 (Ae un9 rfl (hb0.cell (rfl))) ?_
 refine Ca ?_
 have hMt6:=hM.tyOf
 refine Px (a:=old) u100 (Cc u9) rfl rfl hM (Nat.zero_le _) (by decide) ?_
 intro w6 hM hMm6 hne6
 have hO6:=One.ofMod hMm6 hMt6 hne6
 have hX:=hX.one hO6 ⟨.inl hSr,by decide⟩
 have hB:=hB.one hO6 (by decide)
 have hF:=hF.one hO6 (by decide)
 skip
 refine Ac ?_
 refine end0n rfl ?_
 (have h5:=(Y9 hok (now:=now) hk).2.2.2.2 hc5
  unfold getF ascF at h5
  rw[hr9] at hM
  have hF:=hF.ren hok.rise hc5 hk
  exact⟨Dsk.made hB (by unfold getF ascF;omega) hM hSg hSr (by rw[hll];exact hF) Em,hX⟩)
theorem Ua (g:Nat) (S:Nat→Prop) (D:DS) (w:World) (hD:Dsk S w g D) (hok:DOk D) (k:ByteArray) (hk:ascA D.l k≠none) (n:Nat) (hn:n≤(getF D k).1.length) (b0:Nat) (b1:Nat) (b2:Nat) (hb0:Blk w b0 #[.pointer (some ⟨g,0,none⟩)] 34) (hb1:Blk w b1 #[.string k] 9) (hb2:Blk w b2 #[.int .i64 (n:Int)] 3) :
    Ret Tryz.prog 141 [.pointer (some ⟨b0,0,none⟩),.pointer (some ⟨b1,0,none⟩),.pointer (some ⟨b2,0,none⟩)] w (fun v w'=>Dsk (grow S w w') w' g { D with l:=insA D.l k (some ((getF D k).1.take n,n)) }∧ModS S ED w w'):=by
 obtain⟨r,μ,hB,hM,hSg,hSr,hF⟩:=hD.ex
 have hW1:=Nat.le_refl w.heap.size
 have hroom:=hok.room
 have hmost:=hok.most
 obtain⟨hk1,hk2⟩:=hF.there hk
 have hX:=ModS.refl S ED w
 refine eN 34 Tryz.func141 ?_
 refine Ab ?_
 refine Bx (fun w1 w2=>Ext w1 w2) mixed ?_
 intro w1 hE1
 have hX:=hX.ext hE1
 have hB:=hB.ext hE1
 have hM:=hM.ext hE1
 have hF:=hF.ext hE1
 have hb0:=hb0.ext hE1
 have hb1:=hb1.ext hE1
 have hb2:=hb2.ext hE1
 have hSr0:(fun w1 w2=>Ext w1 w2) w1 w1:=Ext.refl w1
 refine hT 0 rfl hSr0 (fun wS hSS=>by(have hb0:=hb0.ext hSS;exact(Ae un34 rfl (hb0.cell (rfl))))) ?_
 refine hT 1 rfl hSr0 (fun wS hSS=>by(exact(Af rfl))) ?_
 refine hT 2 rfl hSr0 (fun wS hSS=>by(exact(Ad Cg sz100 rfl))) ?_
 refine hT 3 rfl hSr0 (fun wS hSS=>by(have hB:=hB.ext hSS;exact(Ae un100 rfl (hB.cell (rfl))))) ?_
 refine hT 4 rfl hSr0 (fun wS hSS=>by(have hb1:=hb1.ext hSS;exact(Ae un9 rfl (hb1.cell (rfl))))) ?_
 obtain⟨⟨p0,n0,c0,s0⟩,hr0⟩:∃ x:Raw,x=(μ k).getD raw0:=⟨_,rfl⟩
 obtain⟨hF0,hs0⟩:=hF.get k
 rw[← hr0] at hF0 hs0
 simp only at hF0 hs0
 refine hT 5 rfl hSr0 (fun wS hSS=>by(have hM:=hM.ext hSS;exact(((lookF u100 zr113 (Cc u9) hM k rfl rfl).1).cast (by rw[← hr0];rfl:_=Value.agg #[.slice p0 n0 c0,.int .i64 (s0:Int)])))) ?_
 refine h1L 6 (fun Q6 hQ6=>?_)
 have hXs:=hX.size
 refine A7 zr113 ?_
 intro w2 g3 hN3
 have hE2:=hN3.ext
 have hX:=hX.ext hE2
 have hB:=hB.ext hE2
 have hM:=hM.ext hE2
 have hF:=hF.ext hE2
 have hb0:=hb0.ext hE2
 have hb1:=hb1.ext hE2
 have hb2:=hb2.ext hE2
 have hSr0:=hSr0.ext hE2
 have hB3:=hN3.blk
 refine An hQ6 ⟨hSr0,?_⟩
 refine h1L 7 (fun Q7 hQ7=>?_)
 have hg3:w.heap.size≤g3:=by rw[hN3.g_eq];exact hXs
 refine Ax rfl (by conv=>lhs;whnf) (by simp[Value.oneCell']) (by exact sz113) hB3 (by rfl) ?_
 intro w3 hP3
 have hX:=hX.put hP3 (⟨.inr (by rw[hN3.g_eq];exact hXs),by decide⟩)
 have hB:=hB.one hP3.one (by decide)
 have hM:=hM.mod (hP3.mod 0 (Nat.zero_le _)) (Nat.zero_le _) (by decide)
 have hF:=hF.one hP3.one (by decide)
 have hb0:=hb0.one hP3.one (by decide)
 have hb1:=hb1.one hP3.one (by decide)
 have hb2:=hb2.one hP3.one (by decide)
 have hSr0:=hSr0.put hP3 (by rw[hN3.g_eq];exact Nat.le_refl _)
 have hB3:=hP3.blk
 refine An hQ7 ⟨hSr0,?_⟩
 refine Bo (by kernel_rfl) ?_
 refine t_n (Ab ?_)
 refine Cn 12 mixed (by kernel_rfl) ?_
 intro w4 hE4
 have hX:=hX.ext hE4
 have hB:=hB.ext hE4
 have hM:=hM.ext hE4
 have hF:=hF.ext hE4
 have hb0:=hb0.ext hE4
 have hb1:=hb1.ext hE4
 have hb2:=hb2.ext hE4
 have hB3:=hB3.ext hE4
 refine s1 (Ae un34 rfl (hb0.cell (rfl))) ?_
 refine s1 (Af rfl) ?_
 refine s1 (Ad Fs sz3 rfl) ?_
 refine s1 (Ae un3 rfl (hB.cell (rfl))) ?_
 refine s1 (Ad Fe sz23 rfl) ?_
 refine s1 (Ae un23 rfl (hB3.cell (rfl))) ?_
 refine s1 (Ak u23 rfl) ?_
 refine s1 (Ae un3 rfl (hb2.cell (rfl))) ?_
 have hF0:=(hF.get k).1
 rw[← hr0] at hF0
 simp only at hF0
 have hgl:=(Fr hok k).1
 have hlen0:=hF0.len
 unfold getF ascF at hgl
 try unfold getF ascF at hn
 refine s1 (Dt rfl rfl (Aj (by omega) (by omega))) ?_
 refine s1 (Dt rfl rfl (Aj (by omega) (by omega))) ?_
 refine s1 (Af rfl) ?_
 refine s1 (Ad Fs sz3 rfl) ?_
 refine Ca ?_
 refine Aq rfl (by conv=>lhs;whnf) rfl rfl sz3 hB (by simp) ?_
 intro w5 hP5
 have hX:=hX.put hP5 (⟨.inl hSg,by decide⟩)
 have hB:=hP5.blk
 try simp only[List.setIfInBounds_toArray,List.set_cons_zero,List.set_cons_succ] at hB
 have hM:=hM.mod (hP5.mod 0 (Nat.zero_le _)) (Nat.zero_le _) (by decide)
 have hF:=hF.one hP5.one (by decide)
 have hb0:=hb0.one hP5.one (by decide)
 have hb1:=hb1.one hP5.one (by decide)
 have hb2:=hb2.one hP5.one (by decide)
 have hB3:=hB3.one hP5.one (by decide)
 refine Ac (t_n ?_)
 refine Cn 12 mixed (by kernel_rfl) ?_
 intro w6 hE6
 have hX:=hX.ext hE6
 have hB:=hB.ext hE6
 have hM:=hM.ext hE6
 have hF:=hF.ext hE6
 have hb0:=hb0.ext hE6
 have hb1:=hb1.ext hE6
 have hb2:=hb2.ext hE6
 have hB3:=hB3.ext hE6
 refine s1 (Ae un34 rfl (hb0.cell (rfl))) ?_
 refine s1 (Af rfl) ?_
 refine s1 (Ad Cg sz100 rfl) ?_
 refine s1 (Ae un100 rfl (hB.cell (rfl))) ?_
 refine s1 (Ae un9 rfl (hb1.cell (rfl))) ?_
 refine s1 (Ad Fe sz23 rfl) ?_
 refine s1 (Ae un23 rfl (hB3.cell (rfl))) ?_
 refine s1 (Ae un3 rfl (hb2.cell (rfl))) ?_
 refine s1 (Ae un3 rfl (hb2.cell (rfl))) ?_
 have hcc:=hF0.cap
 have hlen0:=hF0.len
 try unfold getF ascF at hn
 refine s1 (M6 u23 sz5 rfl rfl rfl (by omega) (by omega) (by omega)) ?_
 refine s1 (Ae un3 rfl (hb2.cell (rfl))) ?_
 refine s1 (Na pl113 (by conv=>lhs;whnf) (by conv=>lhs;whnf) rfl rfl) ?_
 refine Ca ?_
 have hMt7:=hM.tyOf
 refine D5 (a:=k) (b:=(p0,n,n,n)) u100 (Cc u9) rfl rfl rfl hM rfl (Nat.zero_le _) (by decide) ?_
 intro w7 hM hMm7 hne7
 have hO7:=One.ofMod hMm7 hMt7 hne7
 have hX:=hX.one hO7 ⟨.inl hSr,by decide⟩
 have hB:=hB.one hO7 (by decide)
 have hF:=hF.one hO7 (by decide)
 have hF0:=(hF.get k).1
 rw[← hr0] at hF0
 simp only at hF0
 have hF:=hF.put hok.rise k (p0,n,n,n) ((getF D k).1.take n,n) rfl (hF0.cut n (by omega)) (fun k' y hn hy=>by have h9:=Qj hF hk1 k' y hn hy;rw[← hr0] at h9;exact h9)
 refine Ac ?_
 refine end0n rfl ?_
 have hu:=Du hok hk (some ((getF D k).1.take n,n))
 unfold getF ascF at hu
 simp only[Option.map_some,Option.getD_some,List.length_take] at hu
 try unfold getF ascF at hn
 exact⟨Dsk.made hB (by unfold getF ascF at *;omega) hM hSg hSr hF Em,hX⟩
end Go.Proofs.Eng
end
section
set_option maxRecDepth 100000
set_option maxHeartbeats 4000000
namespace Go.Proofs.Eng
open Go.RowKit
open Extern.Stop (cell)
theorem Ij (g:Nat) (S:Nat→Prop) (D:DS) (w:World) (hD:Dsk S w g D) (hok:DOk D) (hst:D.steps<4611686018427387904) (hle:D.left≤9223372036854775807) (k:ByteArray) (hks:k.size≤9223372036854775807) :
    Ret Tryz.prog 18 [.pointer (some ⟨g,0,none⟩),.string k] w (fun v w'=>v = .int .i64 (Bh D k).2∧Dsk (grow S w w') w' g (Bh D k).1∧ModS S ED w w'):=by
 have hX:=Ext.refl w
 refine eN 28 Tryz.func18 ?_
 refine Ab (Aa ?_)
 refine Ci (by conv=>lhs;whnf) rfl ?_
 intro w1 g2 hN2
 have hE1:=hN2.ext
 have hX:=hX.ext hE1
 have hD:=hD.ext hE1
 have hB2:=hN2.blk
 refine Ci (by conv=>lhs;whnf) rfl ?_
 intro w2 g3 hN3
 have hE2:=hN3.ext
 have hX:=hX.ext hE2
 have hD:=hD.ext hE2
 have hB2:=hB2.ext hE2
 have hB3:=hN3.blk
 refine pA (Ac (t_n (Ab (Ab (Aa ?_)))))
 refine p1 (Ae un34 rfl (hB2.cell (rfl))) ?_
 refine p1 (Ae un9 rfl (hB3.cell (rfl))) ?_
 refine Au u74 inf9 rfl (by decide) (fun base hb=>Ce (by rfl) base hb) ?_
 intro w3 g8 hN8
 have hE3:=hN8.ext
 have hX:=hX.ext hE3
 have hD:=hD.ext hE3
 have hB2:=hB2.ext hE3
 have hB3:=hB3.ext hE3
 have hS8:Sl kStr 9 0 w3 (some ⟨g8,0,none⟩) 1 1 [k]:=(Cu (B0:=0) [k] hN8 (Nat.zero_le _) (by simp)).sl
 refine Ag Tryz.func60 fn60 fb60 (E7 g S D _ hD [k] 0 _ _ _ hS8 (by intro s hs';simp only[List.mem_singleton] at hs';subst hs';exact hks)) rfl ?_
 rintro v4 w4 ⟨rfl,hE4⟩
 have hX:=hX.ext hE4
 have hD:=hD.ext hE4
 have hB2:=hB2.ext hE4
 have hB3:=hB3.ext hE4
 refine pA (Ac (t_n (Am (Ab (Aa ?_)))))
 refine pM ?_
 refine p1 (A4 rfl rfl) ?_
 refine pA (Ac (t_n ?_))
 refine As rfl (fun hc10=>?_) (fun hc10=>?_)
 ·have hp:Bh D k=(D,lookD D [k]):=if_pos hc10
  refine Ab (Aa ?_)
  refine pM (pA (Ac (t_n (Al (b_r (t_r ?_))))))
  refine eR1 ?_
  exact⟨by rw[hp],by rw[hp];exact hD.grown w,ModS.ofExt hX⟩
 refine Ab (Aa ?_)
 refine p1 (Ae un34 rfl (hB2.cell (rfl))) ?_
 refine p1 (Ae un9 rfl (hB3.cell (rfl))) ?_
 refine Ag Tryz.func61 fn61 fb61 (Ei g S D _ hD k) rfl ?_
 rintro v5 w5 ⟨rfl,hE5⟩
 have hX:=hX.ext hE5
 have hD:=hD.ext hE5
 have hB2:=hB2.ext hE5
 have hB3:=hB3.ext hE5
 refine pA (Ac (t_n ?_))
 refine As rfl (fun hc14=>?_) (fun hc14=>?_)
 ·have hp:Bh D k=(D,23):=by unfold Bh;rw[if_neg hc10,if_pos hc14]
  refine Ab (Aa ?_)
  refine pA (Ac (t_n (Al (b_r (t_r ?_)))))
  refine eR1 ?_
  exact⟨by rw[hp],by rw[hp];exact hD.grown w,ModS.ofExt hX⟩
 refine Ab (Aa ?_)
 obtain⟨r,μ,hB,hM,hSg,hSr,hF⟩:=hD.ex
 refine p1 (Ae un34 rfl (hB2.cell (rfl))) ?_
 refine p1 (Af rfl) ?_
 refine p1 (Ad Cg sz100 rfl) ?_
 refine p1 (Ae un100 rfl (hB.cell (rfl))) ?_
 refine p1 (Jn u100 hM hF hok.rise rfl) ?_
 refine p1 (Sj rfl rfl) ?_
 refine pA (Ac (t_n ?_))
 refine As rfl (fun hc18=>?_) (fun hc18=>?_)
 ·have hp:Bh D k=(D,21):=by unfold Bh;rw[if_neg hc10,if_neg hc14,if_pos (by omega)]
  refine Ab (Aa ?_)
  refine pA (Ac (t_n (Al (b_r (t_r ?_)))))
  refine eR1 ?_
  exact⟨by rw[hp],by rw[hp];exact hD.grown w,ModS.ofExt hX⟩
 have hp:Bh D k=stepD D (insA D.l k (some ([],0))) true false:=by unfold Bh;rw[if_neg hc10,if_neg hc14,if_neg (by omega)]
 have hk:ascA D.l k=none:=Classical.byContradiction fun e=>hc14 e
 refine Ah (b_n (t_n (Ab (Aa ?_))))
 refine p1 (Ae un34 rfl (hB2.cell (rfl))) ?_
 refine p1 (Bc (fs:=[]) (cs:=[.pointer (some ⟨g2,0,none⟩),.pointer (some ⟨g3,0,none⟩)]) rfl rfl) ?_
 have hXs:=hX.size
 refine Ag Tryz.func62 fn62 fb62 (F4 g S D _ hD hok hst hle 63 _ Tryz.func63 fn63 fb63 [.pointer (some ⟨g2,0,none⟩),.pointer (some ⟨g3,0,none⟩)] (insA D.l k (some ([],0))) true false (fun w1 hE1=>Oy g S D _ (hD.ext hE1) hok k hk g2 g3 (hB2.ext hE1) (hB3.ext hE1))) rfl ?_
 rintro v6 w6 ⟨rfl,hD2,hM2⟩
 refine pA (Ac (t_n (Al ?_)))
 refine eR1 ?_
 exact⟨by rw[hp],by rw[hp];exact hD2.wide hXs,(ModS.ofExt hX).trans hM2 (fun _ _ h=>h)⟩
theorem Lv (g:Nat) (S:Nat→Prop) (D:DS) (w:World) (hD:Dsk S w g D) (hok:DOk D) (hst:D.steps<4611686018427387904) (hle:D.left≤9223372036854775807) (k:ByteArray) (hks:k.size≤9223372036854775807) :
    Ret Tryz.prog 20 [.pointer (some ⟨g,0,none⟩),.string k] w (fun v w'=>v = .int .i64 (syncD D k).2∧Dsk (grow S w w') w' g (syncD D k).1∧ModS S ED w w'):=by
 have hX:=Ext.refl w
 refine eN 22 Tryz.func20 ?_
 refine Ab (Aa ?_)
 refine Ci (by conv=>lhs;whnf) rfl ?_
 intro w1 g2 hN2
 have hE1:=hN2.ext
 have hX:=hX.ext hE1
 have hD:=hD.ext hE1
 have hB2:=hN2.blk
 refine Ci (by conv=>lhs;whnf) rfl ?_
 intro w2 g3 hN3
 have hE2:=hN3.ext
 have hX:=hX.ext hE2
 have hD:=hD.ext hE2
 have hB2:=hB2.ext hE2
 have hB3:=hN3.blk
 refine pA (Ac (t_n (Ab (Ab (Aa ?_)))))
 refine p1 (Ae un34 rfl (hB2.cell (rfl))) ?_
 refine p1 (Ae un9 rfl (hB3.cell (rfl))) ?_
 refine Au u74 inf9 rfl (by decide) (fun base hb=>Ce (by rfl) base hb) ?_
 intro w3 g8 hN8
 have hE3:=hN8.ext
 have hX:=hX.ext hE3
 have hD:=hD.ext hE3
 have hB2:=hB2.ext hE3
 have hB3:=hB3.ext hE3
 have hS8:Sl kStr 9 0 w3 (some ⟨g8,0,none⟩) 1 1 [k]:=(Cu (B0:=0) [k] hN8 (Nat.zero_le _) (by simp)).sl
 refine Ag Tryz.func60 fn60 fb60 (E7 g S D _ hD [k] 0 _ _ _ hS8 (by intro s hs';simp only[List.mem_singleton] at hs';subst hs';exact hks)) rfl ?_
 rintro v4 w4 ⟨rfl,hE4⟩
 have hX:=hX.ext hE4
 have hD:=hD.ext hE4
 have hB2:=hB2.ext hE4
 have hB3:=hB3.ext hE4
 refine pA (Ac (t_n (Am (Ab (Aa ?_)))))
 refine pM ?_
 refine p1 (A4 rfl rfl) ?_
 refine pA (Ac (t_n ?_))
 refine As rfl (fun hc10=>?_) (fun hc10=>?_)
 ·have hp:syncD D k=(D,lookD D [k]):=if_pos hc10
  refine Ab (Aa ?_)
  refine pM (pA (Ac (t_n (Al (b_r (t_r ?_))))))
  refine eR1 ?_
  exact⟨by rw[hp],by rw[hp];exact hD.grown w,ModS.ofExt hX⟩
 refine Ab (Aa ?_)
 refine p1 (Ae un34 rfl (hB2.cell (rfl))) ?_
 refine p1 (Ae un9 rfl (hB3.cell (rfl))) ?_
 refine Ag Tryz.func61 fn61 fb61 (Ei g S D _ hD k) rfl ?_
 rintro v5 w5 ⟨rfl,hE5⟩
 have hX:=hX.ext hE5
 have hD:=hD.ext hE5
 have hB2:=hB2.ext hE5
 have hB3:=hB3.ext hE5
 refine p1 (Ha rfl) ?_
 refine pA (Ac (t_n ?_))
 refine As rfl (fun hc14=>?_) (fun hc14=>?_)
 ·have hk:ascF D.l k=none:=by simpa using hc14
  have hp:syncD D k=(D,22):=by unfold syncD;rw[if_neg hc10,if_pos hk]
  refine Ab (Aa ?_)
  refine pA (Ac (t_n (Al (b_r (t_r ?_)))))
  refine eR1 ?_
  exact⟨by rw[hp],by rw[hp];exact hD.grown w,ModS.ofExt hX⟩
 have hk:¬ ascF D.l k=none:=by simpa using hc14
 have hp:syncD D k=stepD D (insA D.l k (some ((getF D k).1,(getF D k).1.length))) false false:=by unfold syncD;rw[if_neg hc10,if_neg hk]
 refine Ah (b_n (t_n (Ab (Aa ?_))))
 refine p1 (Ae un34 rfl (hB2.cell (rfl))) ?_
 refine p1 (Bc (fs:=[]) (cs:=[.pointer (some ⟨g2,0,none⟩),.pointer (some ⟨g3,0,none⟩)]) rfl rfl) ?_
 have hXs:=hX.size
 refine Ag Tryz.func62 fn62 fb62 (F4 g S D _ hD hok hst hle 65 _ Tryz.func65 fn65 fb65 [.pointer (some ⟨g2,0,none⟩),.pointer (some ⟨g3,0,none⟩)] (insA D.l k (some ((getF D k).1,(getF D k).1.length))) false false (fun w1 hE1=>R6 g S D _ (hD.ext hE1) hok k hk g2 g3 (hB2.ext hE1) (hB3.ext hE1))) rfl ?_
 rintro v6 w6 ⟨rfl,hD2,hM2⟩
 refine pA (Ac (t_n (Al ?_)))
 refine eR1 ?_
 exact⟨by rw[hp],by rw[hp];exact hD2.wide hXs,(ModS.ofExt hX).trans hM2 (fun _ _ h=>h)⟩
theorem Co (g:Nat) (S:Nat→Prop) (D:DS) (w:World) (hD:Dsk S w g D) (hok:DOk D) (hst:D.steps<4611686018427387904) (hle:D.left≤9223372036854775807) (k:ByteArray) (hks:k.size≤9223372036854775807) :
    Ret Tryz.prog 95 [.pointer (some ⟨g,0,none⟩),.string k] w (fun v w'=>v = .int .i64 (Bf D k).2∧Dsk (grow S w w') w' g (Bf D k).1∧ModS S ED w w'):=by
 have hX:=Ext.refl w
 refine eN 22 Tryz.func95 ?_
 refine Ab (Aa ?_)
 refine Ci (by conv=>lhs;whnf) rfl ?_
 intro w1 g2 hN2
 have hE1:=hN2.ext
 have hX:=hX.ext hE1
 have hD:=hD.ext hE1
 have hB2:=hN2.blk
 refine Ci (by conv=>lhs;whnf) rfl ?_
 intro w2 g3 hN3
 have hE2:=hN3.ext
 have hX:=hX.ext hE2
 have hD:=hD.ext hE2
 have hB2:=hB2.ext hE2
 have hB3:=hN3.blk
 refine pA (Ac (t_n (Ab (Ab (Aa ?_)))))
 refine p1 (Ae un34 rfl (hB2.cell (rfl))) ?_
 refine p1 (Ae un9 rfl (hB3.cell (rfl))) ?_
 refine Au u74 inf9 rfl (by decide) (fun base hb=>Ce (by rfl) base hb) ?_
 intro w3 g8 hN8
 have hE3:=hN8.ext
 have hX:=hX.ext hE3
 have hD:=hD.ext hE3
 have hB2:=hB2.ext hE3
 have hB3:=hB3.ext hE3
 have hS8:Sl kStr 9 0 w3 (some ⟨g8,0,none⟩) 1 1 [k]:=(Cu (B0:=0) [k] hN8 (Nat.zero_le _) (by simp)).sl
 refine Ag Tryz.func60 fn60 fb60 (E7 g S D _ hD [k] 0 _ _ _ hS8 (by intro s hs';simp only[List.mem_singleton] at hs';subst hs';exact hks)) rfl ?_
 rintro v4 w4 ⟨rfl,hE4⟩
 have hX:=hX.ext hE4
 have hD:=hD.ext hE4
 have hB2:=hB2.ext hE4
 have hB3:=hB3.ext hE4
 refine pA (Ac (t_n (Am (Ab (Aa ?_)))))
 refine pM ?_
 refine p1 (A4 rfl rfl) ?_
 refine pA (Ac (t_n ?_))
 refine As rfl (fun hc10=>?_) (fun hc10=>?_)
 ·have hp:Bf D k=(D,lookD D [k]):=if_pos hc10
  refine Ab (Aa ?_)
  refine pM (pA (Ac (t_n (Al (b_r (t_r ?_))))))
  refine eR1 ?_
  exact⟨by rw[hp],by rw[hp];exact hD.grown w,ModS.ofExt hX⟩
 refine Ab (Aa ?_)
 refine p1 (Ae un34 rfl (hB2.cell (rfl))) ?_
 refine p1 (Ae un9 rfl (hB3.cell (rfl))) ?_
 refine Ag Tryz.func61 fn61 fb61 (Ei g S D _ hD k) rfl ?_
 rintro v5 w5 ⟨rfl,hE5⟩
 have hX:=hX.ext hE5
 have hD:=hD.ext hE5
 have hB2:=hB2.ext hE5
 have hB3:=hB3.ext hE5
 refine p1 (Ha rfl) ?_
 refine pA (Ac (t_n ?_))
 refine As rfl (fun hc14=>?_) (fun hc14=>?_)
 ·have hk:ascF D.l k=none:=by simpa using hc14
  have hp:Bf D k=(D,22):=by unfold Bf;rw[if_neg hc10,if_pos hk]
  refine Ab (Aa ?_)
  refine pA (Ac (t_n (Al (b_r (t_r ?_)))))
  refine eR1 ?_
  exact⟨by rw[hp],by rw[hp];exact hD.grown w,ModS.ofExt hX⟩
 have hk:¬ ascF D.l k=none:=by simpa using hc14
 have hp:Bf D k=stepD D (insA D.l k none) true false:=by unfold Bf;rw[if_neg hc10,if_neg hk]
 refine Ah (b_n (t_n (Ab (Aa ?_))))
 refine p1 (Ae un34 rfl (hB2.cell (rfl))) ?_
 refine p1 (Bc (fs:=[]) (cs:=[.pointer (some ⟨g2,0,none⟩),.pointer (some ⟨g3,0,none⟩)]) rfl rfl) ?_
 have hXs:=hX.size
 refine Ag Tryz.func62 fn62 fb62 (F4 g S D _ hD hok hst hle 142 _ Tryz.func142 fn142 fb142 [.pointer (some ⟨g2,0,none⟩),.pointer (some ⟨g3,0,none⟩)] (insA D.l k none) true false (fun w1 hE1=>Ow g S D _ (hD.ext hE1) hok k hk g2 g3 (hB2.ext hE1) (hB3.ext hE1))) rfl ?_
 rintro v6 w6 ⟨rfl,hD2,hM2⟩
 refine pA (Ac (t_n (Al ?_)))
 refine eR1 ?_
 exact⟨by rw[hp],by rw[hp];exact hD2.wide hXs,(ModS.ofExt hX).trans hM2 (fun _ _ h=>h)⟩
theorem T8 (g:Nat) (S:Nat→Prop) (D:DS) (w:World) (hD:Dsk S w g D) (hok:DOk D) (hst:D.steps<4611686018427387904) (hle:D.left≤9223372036854775807) (old now:ByteArray) (hos:old.size≤9223372036854775807) (hns:now.size≤9223372036854775807) :
    Ret Tryz.prog 102 [.pointer (some ⟨g,0,none⟩),.string old,.string now] w (fun v w'=>v = .int .i64 (Cf D old now).2∧Dsk (grow S w w') w' g (Cf D old now).1∧ModS S ED w w'):=by
 have hX:=Ext.refl w
 refine eN 25 Tryz.func102 ?_
 refine Ab (Aa ?_)
 refine Ci (by conv=>lhs;whnf) rfl ?_
 intro w1 g3 hN3
 have hE1:=hN3.ext
 have hX:=hX.ext hE1
 have hD:=hD.ext hE1
 have hB3:=hN3.blk
 refine Ci (by conv=>lhs;whnf) rfl ?_
 intro w2 g4 hN4
 have hE2:=hN4.ext
 have hX:=hX.ext hE2
 have hD:=hD.ext hE2
 have hB3:=hB3.ext hE2
 have hB4:=hN4.blk
 refine Ci (by conv=>lhs;whnf) rfl ?_
 intro w3 g5 hN5
 have hE3:=hN5.ext
 have hX:=hX.ext hE3
 have hD:=hD.ext hE3
 have hB3:=hB3.ext hE3
 have hB4:=hB4.ext hE3
 have hB5:=hN5.blk
 refine pA (Ac (t_n (Ab (Ab (Aa ?_)))))
 refine p1 (Ae un34 rfl (hB3.cell (rfl))) ?_
 refine p1 (Ae un9 rfl (hB4.cell (rfl))) ?_
 refine p1 (Ae un9 rfl (hB5.cell (rfl))) ?_
 refine Au u74 inf9 rfl (by decide) (fun base hb=>Gs [.string old,.string now] (by intro v hv';simp only[List.mem_cons,List.not_mem_nil,or_false] at hv';rcases hv' with rfl | rfl <;> rfl) base hb) ?_
 intro w4 g11 hN11
 have hE4:=hN11.ext
 have hX:=hX.ext hE4
 have hD:=hD.ext hE4
 have hB3:=hB3.ext hE4
 have hB4:=hB4.ext hE4
 have hB5:=hB5.ext hE4
 have hS11:Sl kStr 9 0 w4 (some ⟨g11,0,none⟩) 2 2 [old,now]:=(Cu (B0:=0) [old,now] hN11 (Nat.zero_le _) (by simp)).sl
 refine Ag Tryz.func60 fn60 fb60 (E7 g S D _ hD [old,now] 0 _ _ _ hS11 (by intro s hs';simp only[List.mem_cons,List.not_mem_nil,or_false] at hs';rcases hs' with rfl | rfl <;> assumption)) rfl ?_
 rintro v5 w5 ⟨rfl,hE5⟩
 have hX:=hX.ext hE5
 have hD:=hD.ext hE5
 have hB3:=hB3.ext hE5
 have hB4:=hB4.ext hE5
 have hB5:=hB5.ext hE5
 refine pA (Ac (t_n (Am (Ab (Aa ?_)))))
 refine pM ?_
 refine p1 (A4 rfl rfl) ?_
 refine pA (Ac (t_n ?_))
 refine As rfl (fun hc13=>?_) (fun hc13=>?_)
 ·have hp:Cf D old now=(D,lookD D [old,now]):=if_pos hc13
  refine Ab (Aa ?_)
  refine pM (pA (Ac (t_n (Al (b_r (t_r ?_))))))
  refine eR1 ?_
  exact⟨by rw[hp],by rw[hp];exact hD.grown w,ModS.ofExt hX⟩
 refine Ab (Aa ?_)
 refine p1 (Ae un34 rfl (hB3.cell (rfl))) ?_
 refine p1 (Ae un9 rfl (hB4.cell (rfl))) ?_
 refine Ag Tryz.func61 fn61 fb61 (Ei g S D _ hD old) rfl ?_
 rintro v6 w6 ⟨rfl,hE6⟩
 have hX:=hX.ext hE6
 have hD:=hD.ext hE6
 have hB3:=hB3.ext hE6
 have hB4:=hB4.ext hE6
 have hB5:=hB5.ext hE6
 refine p1 (Ha rfl) ?_
 refine pA (Ac (t_n ?_))
 refine As rfl (fun hc17=>?_) (fun hc17=>?_)
 ·have hk:ascF D.l old=none:=by simpa using hc17
  have hp:Cf D old now=(D,22):=by unfold Cf;rw[if_neg hc13,if_pos hk]
  refine Ab (Aa ?_)
  refine pA (Ac (t_n (Al (b_r (t_r ?_)))))
  refine eR1 ?_
  exact⟨by rw[hp],by rw[hp];exact hD.grown w,ModS.ofExt hX⟩
 have hk:¬ ascF D.l old=none:=by simpa using hc17
 have hp:Cf D old now=stepD D (renL D.l old now (getF D old)) true false:=by unfold Cf;rw[if_neg hc13,if_neg hk]
 refine Ah (b_n (t_n (Ab (Aa ?_))))
 refine p1 (Ae un34 rfl (hB3.cell (rfl))) ?_
 refine p1 (Bc (fs:=[]) (cs:=[.pointer (some ⟨g4,0,none⟩),.pointer (some ⟨g5,0,none⟩),.pointer (some ⟨g3,0,none⟩)]) rfl rfl) ?_
 have hXs:=hX.size
 refine Ag Tryz.func62 fn62 fb62 (F4 g S D _ hD hok hst hle 146 _ Tryz.func146 fn146 fb146 [.pointer (some ⟨g4,0,none⟩),.pointer (some ⟨g5,0,none⟩),.pointer (some ⟨g3,0,none⟩)] (renL D.l old now (getF D old)) true false (fun w1 hE1=>Ov g S D _ (hD.ext hE1) hok old now hk g4 g5 g3 (hB4.ext hE1) (hB5.ext hE1) (hB3.ext hE1))) rfl ?_
 rintro v7 w7 ⟨rfl,hD2,hM2⟩
 refine pA (Ac (t_n (Al ?_)))
 refine eR1 ?_
 exact⟨by rw[hp],by rw[hp];exact hD2.wide hXs,(ModS.ofExt hX).trans hM2 (fun _ _ h=>h)⟩
theorem Ik (g:Nat) (S:Nat→Prop) (D:DS) (w:World) (hD:Dsk S w g D) (hok:DOk D) (hst:D.steps<4611686018427387904) (hle:D.left≤9223372036854775807) (k:ByteArray) (hks:k.size≤9223372036854775807) (e B:Nat) (p:Option Addr) (n c:Nat) (ys:List UInt8) (hl:Sl kByte e B w p n c ys) :
    Ret Tryz.prog 19 [.pointer (some ⟨g,0,none⟩),.string k,.slice p n c] w (fun v w'=>v = .int .i64 (A3 D k ys).2∧Dsk (grow S w w') w' g (A3 D k ys).1∧ModS S ED w w'):=by
 have hX:=Ext.refl w
 refine eN 37 Tryz.func19 ?_
 refine Ab (Aa ?_)
 refine Ci (by conv=>lhs;whnf) rfl ?_
 intro w1 g3 hN3
 have hE1:=hN3.ext
 have hX:=hX.ext hE1
 have hD:=hD.ext hE1
 have hl:=hl.ext hE1
 have hB3:=hN3.blk
 refine Ci (by conv=>lhs;whnf) rfl ?_
 intro w2 g4 hN4
 have hE2:=hN4.ext
 have hX:=hX.ext hE2
 have hD:=hD.ext hE2
 have hl:=hl.ext hE2
 have hB3:=hB3.ext hE2
 have hB4:=hN4.blk
 refine Ci (by conv=>lhs;whnf) rfl ?_
 intro w3 g5 hN5
 have hE3:=hN5.ext
 have hX:=hX.ext hE3
 have hD:=hD.ext hE3
 have hl:=hl.ext hE3
 have hB3:=hB3.ext hE3
 have hB4:=hB4.ext hE3
 have hB5:=hN5.blk
 refine pA (Ac (t_n (Ab (Ab (Aa ?_)))))
 refine p1 (Ae un34 rfl (hB3.cell (rfl))) ?_
 refine p1 (Ae un9 rfl (hB4.cell (rfl))) ?_
 refine Au u74 inf9 rfl (by decide) (fun base hb=>Ce (by rfl) base hb) ?_
 intro w4 g10 hN10
 have hE4:=hN10.ext
 have hX:=hX.ext hE4
 have hD:=hD.ext hE4
 have hl:=hl.ext hE4
 have hB3:=hB3.ext hE4
 have hB4:=hB4.ext hE4
 have hB5:=hB5.ext hE4
 have hS10:Sl kStr 9 0 w4 (some ⟨g10,0,none⟩) 1 1 [k]:=(Cu (B0:=0) [k] hN10 (Nat.zero_le _) (by simp)).sl
 refine Ag Tryz.func60 fn60 fb60 (E7 g S D _ hD [k] 0 _ _ _ hS10 (by intro s hs';simp only[List.mem_singleton] at hs';subst hs';exact hks)) rfl ?_
 rintro v5 w5 ⟨rfl,hE5⟩
 have hX:=hX.ext hE5
 have hD:=hD.ext hE5
 have hl:=hl.ext hE5
 have hB3:=hB3.ext hE5
 have hB4:=hB4.ext hE5
 have hB5:=hB5.ext hE5
 refine pA (Ac (t_n (Am (Ab (Aa ?_)))))
 refine pM ?_
 refine p1 (A4 rfl rfl) ?_
 refine pA (Ac (t_n ?_))
 refine As rfl (fun hc12=>?_) (fun hc12=>?_)
 ·have hp:A3 D k ys=(D,lookD D [k]):=if_pos hc12
  refine Ab (Aa ?_)
  refine pM (pA (Ac (t_n (Al (b_r (t_r ?_))))))
  refine eR1 ?_
  exact⟨by rw[hp],by rw[hp];exact hD.grown w,ModS.ofExt hX⟩
 refine Ab (Aa ?_)
 refine p1 (Ae un34 rfl (hB3.cell (rfl))) ?_
 refine p1 (Ae un9 rfl (hB4.cell (rfl))) ?_
 refine Ag Tryz.func61 fn61 fb61 (Ei g S D _ hD k) rfl ?_
 rintro v6 w6 ⟨rfl,hE6⟩
 have hX:=hX.ext hE6
 have hD:=hD.ext hE6
 have hl:=hl.ext hE6
 have hB3:=hB3.ext hE6
 have hB4:=hB4.ext hE6
 have hB5:=hB5.ext hE6
 refine p1 (Ha rfl) ?_
 refine pA (Ac (t_n ?_))
 refine As rfl (fun hc16=>?_) (fun hc16=>?_)
 ·have hk:ascF D.l k=none:=by simpa using hc16
  have hp:A3 D k ys=(D,22):=by unfold A3;rw[if_neg hc12,if_pos hk]
  refine Ab (Aa ?_)
  refine pA (Ac (t_n (Al (b_r (t_r ?_)))))
  refine eR1 ?_
  exact⟨by rw[hp],by rw[hp];exact hD.grown w,ModS.ofExt hX⟩
 have hk:¬ ascF D.l k=none:=by simpa using hc16
 have hlen:=hl.len
 have hlc:=hl.cap
 have hlf:=hl.fit
 have hroom:=hok.room
 have hmost:=hok.most
 refine Ab ?_
 refine D4 mixed (by kernel_rfl) ?_
 intro w7 hE7
 have hX:=hX.ext hE7
 have hD:=hD.ext hE7
 have hl:=hl.ext hE7
 have hB3:=hB3.ext hE7
 have hB4:=hB4.ext hE7
 have hB5:=hB5.ext hE7
 obtain⟨r,μ,hB,hM,hSg,hSr,hF⟩:=hD.ex
 refine s1 (Ae un23 rfl (hB5.cell (rfl))) ?_
 refine s1 (Ak u23 rfl) ?_
 refine s1 (Ae un34 rfl (hB3.cell (rfl))) ?_
 refine s1 (Af rfl) ?_
 refine s1 (Ad Acj sz3 rfl) ?_
 refine s1 (Ae un3 rfl (hB.cell (rfl))) ?_
 refine s1 (Ae un34 rfl (hB3.cell (rfl))) ?_
 refine s1 (Af rfl) ?_
 refine s1 (Ad Fs sz3 rfl) ?_
 refine s1 (Ae un3 rfl (hB.cell (rfl))) ?_
 refine s1 (Dt rfl rfl (Aj (by omega) (by omega))) ?_
 refine s1 (Da rfl rfl) ?_
 refine s1 (A0 (by conv=>lhs;whnf)) ?_
 refine Ca (t_n ?_)
 refine As rfl (fun hc21=>?_) (fun hc21=>?_)
 ·have hp:A3 D k ys=(D,21):=by unfold A3;rw[if_neg hc12,if_neg hk,if_pos (by rw[hlen];omega)]
  refine Ab (Aa ?_)
  refine pA (Ac (t_n (Al (b_r (t_r ?_)))))
  refine eR1 ?_
  exact⟨by rw[hp],by rw[hp];exact hD.grown w,ModS.ofExt hX⟩
 have hp:A3 D k ys=stepD D (insA D.l k (some ((getF D k).1++ys,(getF D k).2))) true true:=by unfold A3;rw[if_neg hc12,if_neg hk,if_neg (by rw[hlen];omega)]
 refine Ah (b_n (t_n (Ab (Aa ?_))))
 refine p1 (Ae un34 rfl (hB3.cell (rfl))) ?_
 refine p1 (Bc (fs:=[]) (cs:=[.pointer (some ⟨g3,0,none⟩),.pointer (some ⟨g4,0,none⟩),.pointer (some ⟨g5,0,none⟩)]) rfl rfl) ?_
 have hXs:=hX.size
 refine Ag Tryz.func62 fn62 fb62 (F4 g S D _ hD hok hst hle 64 _ Tryz.func64 fn64 fb64 [.pointer (some ⟨g3,0,none⟩),.pointer (some ⟨g4,0,none⟩),.pointer (some ⟨g5,0,none⟩)] (insA D.l k (some ((getF D k).1++ys,(getF D k).2))) true true (fun w1 hE1=>O0 g S D _ (hD.ext hE1) hok k hk e B p n c ys (hl.ext hE1) (by omega) g3 g4 g5 (hB3.ext hE1) (hB4.ext hE1) (hB5.ext hE1))) rfl ?_
 rintro v8 w8 ⟨rfl,hD2,hM2⟩
 refine pA (Ac (t_n (Al ?_)))
 refine eR1 ?_
 exact⟨by rw[hp],by rw[hp];exact hD2.wide hXs,(ModS.ofExt hX).trans hM2 (fun _ _ h=>h)⟩
theorem Ox (g:Nat) (S:Nat→Prop) (D:DS) (w:World) (hD:Dsk S w g D) (hok:DOk D) (hst:D.steps<4611686018427387904) (hle:D.left≤9223372036854775807) (k:ByteArray) (hks:k.size≤9223372036854775807) (n:Int) (hn1:-9223372036854775808≤n) (hn2:n≤9223372036854775807) :
    Ret Tryz.prog 94 [.pointer (some ⟨g,0,none⟩),.string k,.int .i64 n] w (fun v w'=>v = .int .i64 (cutD D k n).2∧Dsk (grow S w w') w' g (cutD D k n).1∧ModS S ED w w'):=by
 have hX:=Ext.refl w
 refine eN 39 Tryz.func94 ?_
 refine Ab (Aa ?_)
 refine Ci (by conv=>lhs;whnf) rfl ?_
 intro w1 g3 hN3
 have hE1:=hN3.ext
 have hX:=hX.ext hE1
 have hD:=hD.ext hE1
 have hB3:=hN3.blk
 refine Ci (by conv=>lhs;whnf) rfl ?_
 intro w2 g4 hN4
 have hE2:=hN4.ext
 have hX:=hX.ext hE2
 have hD:=hD.ext hE2
 have hB3:=hB3.ext hE2
 have hB4:=hN4.blk
 refine Ci (by conv=>lhs;whnf) rfl ?_
 intro w3 g5 hN5
 have hE3:=hN5.ext
 have hX:=hX.ext hE3
 have hD:=hD.ext hE3
 have hB3:=hB3.ext hE3
 have hB4:=hB4.ext hE3
 have hB5:=hN5.blk
 refine pA (Ac (t_n (Ab (Ab (Aa ?_)))))
 refine p1 (Ae un34 rfl (hB3.cell (rfl))) ?_
 refine p1 (Ae un9 rfl (hB4.cell (rfl))) ?_
 refine Au u74 inf9 rfl (by decide) (fun base hb=>Ce (by rfl) base hb) ?_
 intro w4 g10 hN10
 have hE4:=hN10.ext
 have hX:=hX.ext hE4
 have hD:=hD.ext hE4
 have hB3:=hB3.ext hE4
 have hB4:=hB4.ext hE4
 have hB5:=hB5.ext hE4
 have hS10:Sl kStr 9 0 w4 (some ⟨g10,0,none⟩) 1 1 [k]:=(Cu (B0:=0) [k] hN10 (Nat.zero_le _) (by simp)).sl
 refine Ag Tryz.func60 fn60 fb60 (E7 g S D _ hD [k] 0 _ _ _ hS10 (by intro s hs';simp only[List.mem_singleton] at hs';subst hs';exact hks)) rfl ?_
 rintro v5 w5 ⟨rfl,hE5⟩
 have hX:=hX.ext hE5
 have hD:=hD.ext hE5
 have hB3:=hB3.ext hE5
 have hB4:=hB4.ext hE5
 have hB5:=hB5.ext hE5
 refine pA (Ac (t_n (Am (Ab (Aa ?_)))))
 refine pM ?_
 refine p1 (A4 rfl rfl) ?_
 refine pA (Ac (t_n ?_))
 refine As rfl (fun hc12=>?_) (fun hc12=>?_)
 ·try simp only[dA,dB,dC,dD,dE,dF,dG,Int.not_lt,Int.not_le] at hc12
  have hp:cutD D k n=(D,lookD D [k]):=if_pos hc12
  refine Ab (Aa ?_)
  refine pM (pA (Ac (t_n (Al (b_r (t_r ?_))))))
  refine eR1 ?_
  exact⟨by rw[hp],by rw[hp];exact hD.grown w,ModS.ofExt hX⟩
 try simp only[dA,dB,dC,dD,dE,dF,dG,Int.not_lt,Int.not_le] at hc12
 refine Ab (Aa ?_)
 refine p1 (Ae un34 rfl (hB3.cell (rfl))) ?_
 refine p1 (Ae un9 rfl (hB4.cell (rfl))) ?_
 refine Ag Tryz.func61 fn61 fb61 (Ei g S D _ hD k) rfl ?_
 rintro v6 w6 ⟨rfl,hE6⟩
 have hX:=hX.ext hE6
 have hD:=hD.ext hE6
 have hB3:=hB3.ext hE6
 have hB4:=hB4.ext hE6
 have hB5:=hB5.ext hE6
 refine p1 (Ha rfl) ?_
 refine pA (Ac (t_n ?_))
 refine As rfl (fun hc16=>?_) (fun hc16=>?_)
 ·try simp only[dA,dB,dC,dD,dE,dF,dG,Int.not_lt,Int.not_le] at hc16
  have hk:ascF D.l k=none:=by simpa using hc16
  have hp:cutD D k n=(D,22):=by unfold cutD;rw[if_neg hc12,if_pos hk]
  refine Ab (Aa ?_)
  refine pA (Ac (t_n (Al (b_r (t_r ?_)))))
  refine eR1 ?_
  exact⟨by rw[hp],by rw[hp];exact hD.grown w,ModS.ofExt hX⟩
 try simp only[dA,dB,dC,dD,dE,dF,dG,Int.not_lt,Int.not_le] at hc16
 have hk:¬ ascF D.l k=none:=by simpa using hc16
 refine Ab ?_
 have hWr6:=Ext.refl w6
 refine Gv (ι:=Unit) [21,22,23,24,25,26,27,28,29,30,31,32,33,34,35] (fun _=>[(21,.bool (decide (n<0∨((getF D k).1.length:Int)<n)))]) (fun _ w'=>Ext w6 w') ?_ ?_
 ·skip
  refine D4 mixed (by kernel_rfl) ?_
  intro w8 hE8
  have hD:=hD.ext hE8
  have hB3:=hB3.ext hE8
  have hB4:=hB4.ext hE8
  have hB5:=hB5.ext hE8
  have hWr6:=hWr6.ext hE8
  obtain⟨r,μ,hB,hM,hSg,hSr,hF⟩:=hD.ex
  refine s1 (Ae un3 rfl (hB5.cell (rfl))) ?_
  refine s1 (Bv rfl rfl) ?_
  refine s1b (Ai (by conv=>lhs;whnf)) (fun hb6_2=>?_) (fun hb6_2=>?_)
  ·try simp only[dA,dB,dC,dD,dE,dF,dG,Int.not_lt,Int.not_le] at hb6_2
   refine sg0 24 rfl (by exact .inl rfl) ?_
   refine sg0 24 rfl (by exact .inl rfl) ?_
   refine sg0 24 rfl (by exact .inl rfl) ?_
   refine sg0 24 rfl (by exact .inl rfl) ?_
   refine sg0 24 rfl (by exact .inl rfl) ?_
   refine sg0 24 rfl (by exact .inl rfl) ?_
   obtain⟨⟨p0,n0,c0,s0⟩,hr0⟩:∃ x:Raw,x=(μ k).getD raw0:=⟨_,rfl⟩
   obtain⟨hF0,hs0⟩:=hF.get k
   rw[← hr0] at hF0 hs0
   simp only at hF0 hs0
   have hlen0:=hF0.len
   refine sg0 24 rfl (by exact .inl rfl) ?_
   refine sg0 24 rfl (by exact .inl rfl) ?_
   refine sg0 24 rfl (by exact .inl rfl) ?_
   refine sg0 24 rfl (by exact .inl rfl) ?_
   refine s1 (Ar rfl (by conv=>lhs;whnf)) ?_
   refine s1 (A0 (by conv=>lhs;whnf)) ?_
   refine Ca ?_
   refine t_n (aK () ⟨congrArg Value.bool (by(unfold getF ascF;exact(decide_eq_true (by omega)).symm)),trivial⟩ hWr6)
  try simp only[dA,dB,dC,dD,dE,dF,dG,Int.not_lt,Int.not_le] at hb6_2
  refine sg1 24 rfl rfl (Ae un3 rfl (hB5.cell (rfl))) ?_
  refine sg1 24 rfl rfl (Ae un34 rfl (hB3.cell (rfl))) ?_
  refine sg1 24 rfl rfl (Af rfl) ?_
  refine sg1 24 rfl rfl (Ad Cg sz100 rfl) ?_
  refine sg1 24 rfl rfl (Ae un100 rfl (hB.cell (rfl))) ?_
  refine sg1 24 rfl rfl (Ae un9 rfl (hB4.cell (rfl))) ?_
  obtain⟨⟨p0,n0,c0,s0⟩,hr0⟩:∃ x:Raw,x=(μ k).getD raw0:=⟨_,rfl⟩
  obtain⟨hF0,hs0⟩:=hF.get k
  rw[← hr0] at hF0 hs0
  simp only at hF0 hs0
  have hlen0:=hF0.len
  refine sg1 24 rfl rfl (((lookF u100 zr113 (Cc u9) hM k rfl rfl).1).cast (by rw[← hr0];rfl:_=Value.agg #[.slice p0 n0 c0,.int .i64 (s0:Int)])) ?_
  refine sg1 24 rfl rfl (J1 Fe un23 rfl rfl) ?_
  refine sg1 24 rfl rfl (Ak u23 rfl) ?_
  refine sg1 24 rfl rfl (Da rfl rfl) ?_
  refine s1 (Ap rfl (by conv=>lhs;whnf)) ?_
  refine s1 (A0 (by conv=>lhs;whnf)) ?_
  refine Ca ?_
  refine t_n (aK () ⟨congrArg Value.bool (by(unfold getF ascF;exact decide_eq_decide.2 (by omega))),trivial⟩ hWr6)
 rintro _ Gr6 w7 hE7
 have hX:=hX.ext hE7
 have hD:=hD.ext hE7
 have hB3:=hB3.ext hE7
 have hB4:=hB4.ext hE7
 have hB5:=hB5.ext hE7
 refine t_n ?_
 refine As rfl (fun hc21=>?_) (fun hc21=>?_)
 ·try simp only[dA,dB,dC,dD,dE,dF,dG,Int.not_lt,Int.not_le] at hc21
  have hp:cutD D k n=(D,2):=by unfold cutD;rw[if_neg hc12,if_neg hk,if_pos hc21]
  refine Ab (Aa ?_)
  refine pA (Ac (t_n (Al (b_r (t_r ?_)))))
  refine eR1 ?_
  exact⟨by rw[hp],by rw[hp];exact hD.grown w,ModS.ofExt hX⟩
 try simp only[dA,dB,dC,dD,dE,dF,dG,Int.not_lt,Int.not_le] at hc21
 have hp:cutD D k n=stepD D (insA D.l k (some ((getF D k).1.take n.toNat,n.toNat))) true false:=by unfold cutD;rw[if_neg hc12,if_neg hk,if_neg hc21]
 have hB5:=by rw[show Value.int .i64 n=Value.int .i64 ((n.toNat:Nat):Int) from congrArg _ (by omega)] at hB5;exact hB5
 refine Ah (b_n (t_n (Ab (Aa ?_))))
 refine p1 (Ae un34 rfl (hB3.cell (rfl))) ?_
 refine p1 (Bc (fs:=[]) (cs:=[.pointer (some ⟨g3,0,none⟩),.pointer (some ⟨g4,0,none⟩),.pointer (some ⟨g5,0,none⟩)]) rfl rfl) ?_
 have hXs:=hX.size
 refine Ag Tryz.func62 fn62 fb62 (F4 g S D _ hD hok hst hle 141 _ Tryz.func141 fn141 fb141 [.pointer (some ⟨g3,0,none⟩),.pointer (some ⟨g4,0,none⟩),.pointer (some ⟨g5,0,none⟩)] (insA D.l k (some ((getF D k).1.take n.toNat,n.toNat))) true false (fun w1 hE1=>Ua g S D _ (hD.ext hE1) hok k hk n.toNat (by omega) g3 g4 g5 (hB3.ext hE1) (hB4.ext hE1) (hB5.ext hE1))) rfl ?_
 rintro v9 w9 ⟨rfl,hD2,hM2⟩
 refine pA (Ac (t_n (Al ?_)))
 refine eR1 ?_
 exact⟨by rw[hp],by rw[hp];exact hD2.wide hXs,(ModS.ofExt hX).trans hM2 (fun _ _ h=>h)⟩
end Go.Proofs.Eng
end
section
namespace Go.Proofs.Eng
open Go.RowKit
open Go.Proofs Go.Shelf
open Extern.Stop (cell)
theorem Ac2:∀ (a b:List UInt8),Op.bytesLess a b=decide (a<b)
  | _,[]=>by simp[Op.bytesLess,List.not_lt_nil]
  | [],_ :: _=>by simp[Op.bytesLess]
  | a :: x, b :: y => by
    unfold Op.bytesLess
    rw[Ac2 x y,Bool.eq_iff_iff]
    simp only[Bool.or_eq_true,Bool.and_eq_true,decide_eq_true_eq,beq_iff_eq,List.cons_lt_cons_iff]
theorem Qq (l:List UInt8):(ByteArray.mk l.toArray).toList=l:=by
  rw[ByteArray.toList_eq]
def ofL (l:List UInt8):ByteArray:=⟨l.toArray⟩
theorem Re {e:TypeId} {B B0:Nat} {w:World} {g n c:Nat} {xs:List ByteArray} (h:Own kStr e B B0 w (some ⟨g,0,none⟩) n c xs) (hn:0<n) (m:Nat) (d':List (List UInt8)) (hd:d'.length=n) (os:Array Obj) :
    Own kStr e B B0 (Sort.grow (Sort.putRow encStr (Sort.ahead w m) g 0 d'.toArray) os) (some ⟨g,0,none⟩) n c (d'.map ofL)∧Mod B0 e w (Sort.grow (Sort.putRow encStr (Sort.ahead w m) g 0 d'.toArray) os):=by
  obtain⟨g',cur,css,e1,h2,h3,h4,h5,h6,ha,hlf,ht⟩:=h.block hn
  injection e1 with e1;injection e1 with e1;subst e1
  have hlt:=h3.lt
  have hsz:(Sort.putRow encStr (Sort.ahead w m) g 0 d'.toArray).heap.size=w.heap.size:=by rw[Sort.size_putRow];rfl
  have hcell:∀ k,k<w.heap.size→(Sort.grow (Sort.putRow encStr (Sort.ahead w m) g 0 d'.toArray) os).heap[k]? = (Sort.putRow encStr (Sort.ahead w m) g 0 d'.toArray).heap[k]? := fun k hk=>Sort.heap_grow_old _ os (by rw[hsz];exact hk)
  have hother:∀ k,k≠g→(Sort.putRow encStr (Sort.ahead w m) g 0 d'.toArray).heap[k]? = w.heap[k]? := fun k hk=>by
    simp only[Sort.putRow,Sort.mapBlock,Sort.ahead,Array.getElem?_modify]
    rw[if_neg (fun e=>hk e.symm)]
  have hgb:(Sort.putRow encStr (Sort.ahead w m) g 0 d'.toArray).heap[g]? = some (.cells (Sort.putCells encStr 0 d'.toArray cur) e (0,0)):=by
    simp only[Sort.putRow,Sort.mapBlock,Sort.ahead,Array.getElem?_modify]
    rw[if_pos trivial]
    have:w.heap[g]? = some (.cells cur e (0,0)):=h3
    rw[this];rfl
  have hb:Blk (Sort.grow (Sort.putRow encStr (Sort.ahead w m) g 0 d'.toArray) os) g (Sort.putCells encStr 0 d'.toArray cur) e:=(hcell g hlt).trans hgb
  have hm:Mod B0 e w (Sort.grow (Sort.putRow encStr (Sort.ahead w m) g 0 d'.toArray) os):=by
    refine⟨?_,fun k hk ho=>?_,fun k hk=>?_,?_,rfl,rfl,rfl⟩
    · rw[Sort.size_grow,hsz];omega
    · have hne : k ≠ g := by
        intro ek;subst ek
        rcases ho with ho | ho
        · omega
        · exact ho h3.ty
      exact(hcell k hk).trans (hother k hne)
    · by_cases ek : k = g
      · subst ek;rw[hb.ty,h3.ty]
      · exact Bn ((hcell k hk).trans (hother k ek))
    · exact Nat.le_refl _
  have hz:kStr.sz=1:=rfl
  refine⟨Own.remade h2 hb h4 h5 (by rw[hz] at h6 ⊢;simp[Sort.putCells,h6]) (by simp[hd]) (F8 B _ (d'.map ofL)) ?_,hm⟩
  rw[hz,Nat.mul_one]
  rw[hz,Nat.mul_one] at h6
  apply List.ext_getElem?
  intro j
  rw[List.getElem?_take]
  have hfl:((d'.map ofL).map fun s=>[Value.string s]).flatten=d'.map encStr:=by
    rw[List.map_map]
    clear hd hsz hcell hother hgb hb hm
    induction d' with
    | nil=>rfl
    | cons x l ih=>simp only[List.map_cons,List.flatten_cons,ih];rfl
  rw[hfl]
  by_cases hj:j<n
  · rw [if_pos hj, Array.getElem?_toList]
    have hjc:j<cur.size:=by omega
    simp only[Sort.putCells,Array.getElem?_mapIdx,Array.getElem?_eq_getElem hjc,Option.map_some]
    rw[if_pos ⟨Nat.zero_le _,by simp;omega⟩,Nat.sub_zero,List.getElem?_map,List.getElem?_eq_getElem (show j<d'.length by omega)]
    rw[getElem!_pos d'.toArray j (by simp;omega)]
    simp
  · rw[if_neg hj,List.getElem?_eq_none (by simp;omega)]
theorem Ph {e:TypeId} {B B0:Nat} {w:World} {g n c:Nat} {xs:List ByteArray} (h:Own kStr e B B0 w (some ⟨g,0,none⟩) n c xs) (hn:0<n):Sort.Holds encStr w g 0 (xs.map (·.toList)).toArray:=by
  obtain⟨g',cur,css,e1,h2,h3,h4,h5,h6,ha,hlf,ht⟩:=h.block hn
  injection e1 with e1;injection e1 with e1;subst e1
  have hlen:=h.len
  intro j hj
  have hj':j<xs.length:=by simpa using hj
  refine⟨?_,frozen_of_row w g _ cur e h3⟩
  have:=h.sl.strAt j (by omega)
  refine (show w.cell? ⟨g,0+j,none⟩=_ from this).trans ?_
  rw[getElem!_pos _ j hj]
  have e2:(xs.map (·.toList)).toArray[j]=(xs[j]).toList:=by simp
  rw[e2,List.getD_eq_getElem?_getD,List.getElem?_eq_getElem hj',Option.getD_some]
  have:encStr (xs[j]).toList=Value.string (ofL (xs[j]).toList):=rfl
  rw[this]
  exact congrArg (fun s=>some (Value.string s)) (Gy (Qq _).symm)
theorem U8 (s:ByteArray):ofL s.toList=s:=Gy (Qq _)
theorem Mk (xs:List ByteArray) (B0:Nat) (p:Option Addr) (n c:Nat) (w:World) (hO:Own kStr 9 0 B0 w p n c xs) (hs:n≤4194304000) (hnd:xs.Nodup) :
    Ret Tryz.prog 84 [.slice p n c] w (fun v w'=>∃ ys,Own kStr 9 0 B0 w' p n c ys∧ys.Perm xs∧ys.Pairwise (fun a b=>lssB a b=true)∧Mod B0 9 w w'):=by
  rcases Nat.eq_zero_or_pos n with h0 | h0
  · subst h0
    have hx0:xs=[]:=List.eq_nil_of_length_eq_zero hO.len
    subst hx0
    refine⟨Calls.mono (Tryz.slices_Sort_string_none p c w) ?_⟩
    rintro e w' ⟨rfl,rfl⟩
    exact⟨_,rfl,[],hO,.refl _,.nil,.refl _ _ _⟩
  · obtain ⟨g, cur, css, e1, h2, h3, _⟩ := hO.block h0
    subst e1
    have hlen:=hO.len
    have hc:=Tryz.slices_Sort_string g 0 c (xs.map (·.toList)) w (Ph hO h0) h3.lt (by simp;omega)
    have hsz:(xs.map (·.toList)).length=n:=by simpa using hlen
    rw[hsz] at hc
    refine⟨Calls.mono hc ?_⟩
    rintro e w' ⟨rfl,m,os,rfl⟩
    have hpp:=List.mergeSort_perm (xs.map (·.toList)) (fun x y=>decide (x≤y))
    have hd:=hpp.length_eq.trans hsz
    obtain⟨ho',hm'⟩:=Re hO h0 m _ hd os
    have hperm:(((xs.map (·.toList)).mergeSort fun x y=>decide (x≤y)).map ofL).Perm xs:=by
      have:=hpp.map ofL
      rw[List.map_map] at this
      have e3:xs.map (ofL∘fun x=>x.toList)=xs:=by
        conv=>rhs;rw[← List.map_id xs]
        exact List.map_congr_left fun s _=>U8 s
      rwa [e3] at this
    refine⟨_,rfl,_,ho',hperm,?_,hm'⟩
    have hso:((xs.map (·.toList)).mergeSort fun x y=>decide (x≤y)).Pairwise (fun x y=>x≤y):=by
      have:=List.pairwise_mergeSort (le:=fun x y:List UInt8=>decide (x≤y)) (fun a b c h1 h2=>by simp only[decide_eq_true_eq] at *;exact List.le_trans h1 h2) (fun a b=>by simp only[Bool.or_eq_true,decide_eq_true_eq];exact List.le_total a b) (xs.map (·.toList))
      exact this.imp fun h=>by simpa using h
    have hnd2:(((xs.map (·.toList)).mergeSort fun x y=>decide (x≤y)).map ofL).Nodup:=hperm.nodup_iff.2 hnd
    rw[List.pairwise_map]
    have hnd3:=List.pairwise_map.1 hnd2
    refine (hso.and hnd3).imp fun {x y} ⟨h1,h2⟩=>?_
    show Op.bytesLess (ofL x).toList (ofL y).toList=true
    unfold ofL
    rw[Qq,Qq]
    rcases O6 x y with h | h | h
    · exact absurd (congrArg ofL h) h2
    · exact h
    · rw [Ac2] at h
      exact absurd (of_decide_eq_true h) (List.not_lt.2 h1)
end Go.Proofs.Eng
end
section
set_option maxRecDepth 100000
set_option maxHeartbeats 4000000
namespace Go.Proofs.Eng
open Go.RowKit
open Extern.Stop (cell)
theorem B4 (xs:List UInt8) (e B:Nat) (p:Option Addr) (n c:Nat) (w:World) (hl:Sl kByte e B w p n c xs) (hs:n≤4194304000) :
    Ret Tryz.prog 58 [.slice p n c] w (fun v w'=>(∃ q c',v = .slice q n c'∧Own kByte 5 0 w.heap.size w' q n c' xs)∧Ext w w'):=by
 have hX:=Ext.refl w
 refine eN 8 Tryz.func58 ?_
 refine Ab (Aa ?_)
 refine pA (Ac (t_n (Ab (Ab (Aa ?_)))))
 refine pM ?_
 refine p1 (Ej u23 rfl rfl) ?_
 refine Ac (t_n ?_)
 refine As rfl (fun hc4=>?_) (fun hc4=>?_)
 ·have hn:n=0:=by
    rcases Nat.eq_zero_or_pos n with h | h
    · exact h
    · have:=hl.adr Bz h;rw[hc4] at this;cases this
  have hx0:xs=[]:=List.eq_nil_of_length_eq_zero (by rw[hl.len,hn])
  have hp:Own kByte 5 0 w.heap.size w none 0 0 xs:=by rw[hx0];exact Own.nil _ _ _ _ _
  refine Ab (Aa ?_)
  refine pA (Ac (t_n (Al (t_r ?_))))
  refine eR1 ?_
  (subst hn;exact⟨⟨none,0,rfl,hp⟩,hX⟩)
 refine Ah (t_n (Ab (Aa ?_)))
 refine Au u23 inf5 rfl (by decide) (fun base hb=>by have h0:base=#[]:=Array.eq_empty_of_size_eq_zero (by simpa using hb);subst h0;rfl) ?_
 intro w1 g5 hN5
 have hE1:=hN5.ext
 have hX:=hX.ext hE1
 have hO:Own kByte 5 0 w.heap.size w1 (some ⟨g5,0,none⟩) 0 0 []:=Own.made kByte 5 0 _ hN5 [] [] 0 0 rfl trivial (by have:=hX.size;have:=hN5.g_eq;have:=hN5.ext.size;omega) (by omega) (by omega) (by rfl) (by simp)
 refine pM ?_
 have hB0:=hX.size
 have hl2:=hl.ext hX
 refine Cr (d:=kByte) (xs) u23 inf5 rfl Bz rfl rfl hO (Dv u23 hl2 (by decide)) hl.len (Cx _ _ _) (rfl) (by omega) (by omega) (by omega) (by omega) (by decide) ?_
 intro p7 c7 w2 hO hM2
 have hX:=hX.mod hM2 (Nat.le_refl _)
 refine pA (Ac (t_n (Al ?_)))
 refine eR1 ?_
 exact⟨⟨_,_,by rw[Nat.zero_add],by rw[List.nil_append,Nat.zero_add] at hO;exact hO⟩,hX⟩
theorem T9 (most:Int) (w:World) :
    Ret Tryz.prog 13 [.int .i64 most] w (fun v w'=>(∃ g,v = .pointer (some ⟨g,0,none⟩)∧Dsk (grow (fun _=>False) w w') w' g (newD most))∧Ext w w'):=by
 have hX:=Ext.refl w
 refine eN 9 Tryz.func13 ?_
 refine Ab (Aa ?_)
 refine pA (Ac (t_n (Ab (Aa ?_))))
 refine pM ?_
 refine p1 ((V0 rfl rfl).cast (congrArg (Value.int .i64) (by split <;> omega:_=min most 16777216))) ?_
 refine p1 ((Acv rfl rfl).cast (congrArg (Value.int .i64) (by split <;> omega:_=max 0 (min most 16777216)))) ?_
 have hXs:=hX.size
 refine Hj (κ:=ByteArray) (ν:=Raw) ?_
 intro w1 g6 hE1 hK6
 have hX:=hX.ext hE1
 have hM:=hK6 kkStr vFile 0 w.heap.size (hXs)
 refine p1 (Yo pl102 rfl rfl rfl) ?_
 have hXs5:=hX.size
 refine Eh (by conv=>lhs;whnf) ?_
 intro w2 g8 hN8
 have hE2:=hN8.ext
 have hX:=hX.ext hE2
 have hM:=hM.ext hE2
 have hB8:=hN8.blk
 refine pA (Ac (t_n (Al ?_)))
 refine eR1 ?_
 exact⟨⟨g8,rfl,Ab2 hB8 hM (by rw[hN8.g_eq];exact hXs5) hX⟩,hX⟩
theorem Jh (g:Nat) (S:Nat→Prop) (D:DS) (w:World) (hD:Dsk S w g D) (hok:DOk D) (k:ByteArray) (hks:k.size≤9223372036854775807) :
    Ret Tryz.prog 37 [.pointer (some ⟨g,0,none⟩),.string k] w (fun v w'=>(∃ q n' c',v = .tuple #[.slice q n' c',.int .i64 (readD D k).2]∧Own kByte 5 0 w.heap.size w' q n' c' (readD D k).1)∧Ext w w'):=by
 have hX:=Ext.refl w
 refine eN 28 Tryz.func37 ?_
 refine Ab (Aa ?_)
 refine pA (pA (Ac (t_n (Ab (Ab (Aa ?_))))))
 refine pM (pM ?_)
 refine Au u74 inf9 rfl (by decide) (fun base hb=>Ce (by rfl) base hb) ?_
 intro w1 g9 hN9
 have hE1:=hN9.ext
 have hX:=hX.ext hE1
 have hD:=hD.ext hE1
 have hS9:Sl kStr 9 0 w1 (some ⟨g9,0,none⟩) 1 1 [k]:=(Cu (B0:=0) [k] hN9 (Nat.zero_le _) (by simp)).sl
 refine Ag Tryz.func60 fn60 fb60 (E7 g S D _ hD [k] 0 _ _ _ hS9 (by intro s hs';simp only[List.mem_singleton] at hs';subst hs';exact hks)) rfl ?_
 rintro v2 w2 ⟨rfl,hE2⟩
 have hX:=hX.ext hE2
 have hD:=hD.ext hE2
 refine pA (Ac (t_n (Am (Ab (Aa ?_)))))
 refine pM ?_
 refine p1 (A4 rfl rfl) ?_
 refine pA (Ac (t_n ?_))
 refine As rfl (fun hc11=>?_) (fun hc11=>?_)
 ·have hp:readD D k=([],lookD D [k]):=if_pos hc11
  refine Ab (Aa ?_)
  refine pM (pA (pA (Ac (t_n (Al (b_r (t_r ?_)))))))
  refine eR2 ?_
  exact⟨⟨none,0,0,by rw[hp],by rw[hp];exact Own.nil _ _ _ _ _⟩,hX⟩
 refine Ab (Aa ?_)
 refine pM (pM ?_)
 refine Ag Tryz.func61 fn61 fb61 (Ei g S D _ hD k) rfl ?_
 rintro v3 w3 ⟨rfl,hE3⟩
 have hX:=hX.ext hE3
 have hD:=hD.ext hE3
 refine p1 (Ha rfl) ?_
 refine pA (Ac (t_n ?_))
 refine As rfl (fun hc15=>?_) (fun hc15=>?_)
 ·have hk:ascF D.l k=none:=by simpa using hc15
  have hp:readD D k=([],22):=by unfold readD;rw[if_neg hc11,if_pos hk]
  refine Ab (Aa ?_)
  refine pA (pA (Ac (t_n (Al (b_r (t_r ?_))))))
  refine eR2 ?_
  exact⟨⟨none,0,0,by rw[hp],by rw[hp];exact Own.nil _ _ _ _ _⟩,hX⟩
 have hk:¬ ascF D.l k=none:=by simpa using hc15
 have hp:readD D k=((getF D k).1,0):=by unfold readD;rw[if_neg hc11,if_neg hk]
 refine Ah (b_n (t_n (Ab ?_)))
 obtain⟨r,μ,hB,hM,hSg,hSr,hF⟩:=hD.ex
 have hXs:=hX.size
 refine Aa ?_
 refine pM ?_
 refine p1 (Af rfl) ?_
 refine p1 (Ad Cg sz100 rfl) ?_
 refine p1 (Ae un100 rfl (hB.cell (rfl))) ?_
 refine pM ?_
 obtain⟨⟨p0,n0,c0,s0⟩,hr0⟩:∃ x:Raw,x=(μ k).getD raw0:=⟨_,rfl⟩
 obtain⟨hF0,hs0⟩:=hF.get k
 rw[← hr0] at hF0 hs0
 simp only at hF0 hs0
 have hgl:=(Fr hok k).1
 have hroom:=hok.room
 have hmost:=hok.most
 have hlen0:=hF0.len
 unfold getF ascF at hgl
 refine p1 (((lookF u100 zr113 (Cc u9) hM k rfl rfl).1).cast (by rw[← hr0];rfl:_=Value.agg #[.slice p0 n0 c0,.int .i64 (s0:Int)])) ?_
 refine p1 (J1 Fe un23 rfl rfl) ?_
 refine Ag Tryz.func58 fn58 fb58 (B4 _ _ _ _ _ _ _ hF0.sl (by omega)) rfl ?_
 rintro v4 w4 ⟨⟨q7,c7,rfl,hO⟩,hE4⟩
 have hX:=hX.ext hE4
 have hO:=hO.lower hXs
 refine pA (pA (Ac (t_n (Al ?_))))
 refine eR2 ?_
 exact⟨⟨_,_,_,by rw[hp],by rw[hp];exact hO⟩,hX⟩
theorem Vo (g r:Nat) (S:Nat→Prop) (v0 v1 v3 v4 v5 v6:Value) (l:List Fl) (μ:ByteArray→Option Raw) (w:World) (hB:Blk w g #[v0,v1,.map (some r),v3,v4,v5,v6] tDisk) (hM:Mp kkStr vFile 0 0 w r μ) (hF:Fls S w μ l) (hri:RiseNA l) (hfew:l.length≤64) :
    Ret Tryz.prog 35 [.pointer (some ⟨g,0,none⟩)] w (fun v w'=>(∃ q c,v = .slice q l.length c∧Own kStr 9 0 w.heap.size w' q l.length c (l.map (·.1)))∧Ext w w'):=by
 have hX:=Ext.refl w
 refine eN 29 Tryz.func35 ?_
 refine Ab (Aa ?_)
 refine pA (Ac (t_n (Ab (Ab (Aa ?_)))))
 refine pM ?_
 refine p1 ((A9 u34 rfl rfl).cast (congrArg _ (decide_eq_false (by simp)))) ?_
 refine Ac (t_n ?_)
 refine c_f rfl ?_
 refine Ah (t_n (Ab ?_))
 have hXs:=hX.size
 refine Aa ?_
 refine pM ?_
 refine p1 (Af rfl) ?_
 refine p1 (Ad Cg sz100 rfl) ?_
 refine p1 (Ae un100 rfl (hB.cell (rfl))) ?_
 refine p1 (Jn u100 hM hF hri rfl) ?_
 refine Zk u74 inf9 rfl rfl (by omega) (by omega) (by omega) (by omega) ?_
 intro w1 g12 hN12
 have hE1:=hN12.ext
 have hX:=hX.ext hE1
 have hB:=hB.ext hE1
 have hM:=hM.ext hE1
 have hO:Own kStr 9 0 w.heap.size w1 (some ⟨g12,0,none⟩) 0 l.length []:=Own.made kStr 9 0 _ hN12 [] [] 0 _ rfl trivial hXs (by omega) (by omega) (Xx _ _) (by simp)
 refine pA (Ac (t_n (Ab (Ab (Aa ?_)))))
 refine pM ?_
 refine p1 (Af rfl) ?_
 refine p1 (Ad Cg sz100 rfl) ?_
 refine p1 (Ae un100 rfl (hB.cell (rfl))) ?_
 have hXs:=hX.size
 refine Hi u100 rfl hM ?_
 intro w2 it17 hE2 hit17 hK17
 have hX:=hX.ext hE2
 have hO:=hO.ext hE2
 have hR:=hK17 w.heap.size (hXs)
 refine Ac (t_n (Am ?_))
 have hks:∀ vs:List ByteArray,vs.Nodup→(∀ z∈vs,μ z≠none)→vs.length≤l.length:=fun vs h1 h2=>by have:=Le h1 (ks:=l.map (·.1)) (fun z hz=>C0.1 (fun e=>h2 z hz ((hF.iff z).2 e)));rwa [List.length_map] at this
 refine Bi (ι:=List ByteArray×Option Addr×Nat×Nat) [3,4,18,19,20,21,22,23,24,25] (fun (vs,q3,m3,c3)=>[(3,.slice q3 m3 c3)]) (fun (vs,q3,m3,c3) w'=>Ext w w'∧(Rg kkStr vFile 0 w.heap.size w' r it17 μ vs∧Own kStr 9 0 w.heap.size w' q3 m3 c3 vs)) (fun (vs,q3,m3,c3)=>l.length - vs.length) (([],some ⟨g12,0,none⟩,0,l.length)) ⟨rfl,trivial⟩ ⟨hX,⟨hR,hO⟩⟩ ?_
 rintro⟨vs,q3,m3,c3⟩ GL0 w3 ⟨hE3,hR,hO⟩
 have hX:=hE3
 have hml:=hO.len
 have hvl:=hks vs hR.nd hR.sub
 refine Ab (Aa ?_)
 refine Ld rfl hR (Nat.zero_le _) (by decide) (fun hdone18=>?_) (fun w4 a18 b18 v18 hna18 hmu18 hR hM4=>?_)
 ·skip
  refine p1 (Ao rfl rfl) ?_
  refine Ac (t_n (Ab ?_))
  refine c_f rfl ?_
  have hall:∀ z,z∈vs↔z∈l.map (·.1):=fun z=>⟨fun hz=>C0.1 fun e=>hR.sub z hz ((hF.iff z).2 e),fun hz=>hdone18 z fun e=>C0.2 hz ((hF.iff z).1 e)⟩
  refine Ba (t_e (t_e (Bq (t_n (Ab ?_)))))
  have hnd:=hR.nd
  refine Aa ?_
  refine pM ?_
  refine Ag Tryz.func84 fn84 fb84 (Mk vs w.heap.size _ _ _ _ hO (by omega) hR.nd) rfl ?_
  rintro v5 w5 ⟨ys,hO,hpm,hso,hM5⟩
  have hX:=hX.mod hM5 (Nat.le_refl _)
  refine Ac (t_n (Ab (Aa ?_)))
  refine pM (pA (Ac (t_n (Al ?_))))
  refine eR1 ?_
  have hyy:ys=l.map (·.1):=Xv hso (List.pairwise_map.2 hri) fun z=>(hpm.mem_iff).trans (hall z)
  have hml:=hO.len
  rw[hyy,List.length_map] at hml
  subst hml
  exact⟨⟨_,_,rfl,by rw[← hyy];exact hO⟩,hX⟩
 skip
 have hX:=hX.mod hM4 (Nat.le_refl _)
 have hO:=hO.mod hM4 (Nat.zero_le _) (by decide)
 have hvl2:=hks _ hR.nd hR.sub
 simp only[List.length_append,List.length_cons,List.length_nil] at hvl2
 refine p1 (Ao rfl rfl) ?_
 refine Ac (t_n (Ab ?_))
 refine c_t rfl ?_
 refine Ah (t_n (Am (Ab ?_)))
 obtain⟨b20,v20,hb20,hv20,hen20⟩:=hR.entry
 refine Aa ?_
 refine p1 (hen20 rfl) ?_
 refine p1 (Ao rfl rfl) ?_
 refine pA (Ac (t_n (Aa ?_)))
 refine pM (pM ?_)
 refine Au u74 inf9 rfl (by decide) (fun base hb=>Ce (by rfl) base hb) ?_
 intro w6 g24 hN24
 have hE6:=hN24.ext
 have hX:=hX.ext hE6
 have hO:=hO.ext hE6
 have hR:=hR.ext hE6
 have hJ:Own kStr 9 0 0 w6 (some ⟨g24,0,none⟩) 1 1 [a18]:=Cu [a18] hN24 (Nat.zero_le _) (by simp)
 have hB1:=hX.size
 refine Cr (d:=kStr) ([a18]) u74 inf9 rfl Kn rfl rfl hO (Dv u74 hJ.sl (by decide)) rfl (F8 _ _ _) (rfl) (by omega) (by omega) (by omega) (by omega) (by decide) ?_
 intro p25 c25 w7 hO hM7
 have hX:=hX.mod hM7 (Nat.le_refl _)
 have hR:=hR.mod hM7 (Nat.zero_le _) (by decide)
 refine pA (Ac (b_n ?_))
 refine t_n (aK ((vs++[a18],p25,m3+1,c25)) ⟨rfl,trivial⟩ ?_)
 exact⟨⟨hX,⟨hR,hO⟩⟩,by show l.length - (vs++[a18]).length<l.length - vs.length;simp only[List.length_append,List.length_cons,List.length_nil];omega⟩
theorem Qi (g:Nat) (S:Nat→Prop) (D:DS) (w:World) (hD:Dsk S w g D) (hok:DOk D) :
    Ret Tryz.prog 35 [.pointer (some ⟨g,0,none⟩)] w (fun v w'=>(∃ q c,v = .slice q D.l.length c∧Own kStr 9 0 w.heap.size w' q D.l.length c (D.l.map (·.1)))∧Ext w w'):=by
  obtain⟨r,μ,hB,hM,hSg,hSr,hF⟩:=hD.ex
  exact Vo g r S _ _ _ _ _ _ D.l μ w hB hM hF hok.rise hok.few
end Go.Proofs.Eng
end
section
set_option maxRecDepth 100000
set_option maxHeartbeats 4000000
namespace Go.Proofs.Eng
open Go.RowKit
open Extern.Stop (cell)
theorem En (b:Bool) (e:Int) (w:World) :
    RetP Tryz.prog 181 [.bool b,.int .i64 e] w (fun v w'=>b=true∧Ext w w') (fun ch w'=>b=false∧ch=[{ v := .iface 232 (.agg #[.int .i64 e]),recovered:=false }]∧Ext w w'):=by
 have hX:=Ext.refl w
 refine Adv 9 _ Tryz.func181 rfl rfl (Nat.le_of_ble_eq_true rfl) rfl ?_
 refine Ab (Aa ?_)
 refine pM ?_
 refine p1 (Ff rfl) ?_
 refine Ac (t_n ?_)
 refine Iq rfl (fun hc5=>?_) (fun hc5=>?_)
 ·have hb:b=false:=by simpa using hc5
  refine Aa ?_
  refine pM ?_
  refine p1 (Yq pl232 rfl rfl) ?_
  refine p1 (Xb ua232 rfl) ?_
  refine Abv rfl ?_
  skip
  exact Adx ⟨hb,rfl,hX⟩
 have hb:b=true:=by simpa using hc5
 refine Ah ?_
 exact Ady rfl ⟨hb,hX⟩
structure Rcv (w:World) (a0 a1 a2:Nat) (e:Int) (w':World):Prop where
  b0:Blk w' a0 #[.int .u8 0,.slice none 0 0] 187
  b1:Blk w' a1 #[.int .i64 0] 3
  b2:Blk w' a2 #[.int .i64 e] 31
  fx:Fx w a0 a1 a2 w'
theorem u20i:Tryz.prog.underlying 20=some (.interface (Tryz.prog.methodsAt 20)):=by kernel_rfl
theorem Fy (a0 a1 a2:Nat) (x0 y0 x1 x2:Value) (e:Int) (w:World) (hC0:Blk w a0 #[x0,y0] 187) (hC1:Blk w a1 #[x1] 3) (hC2:Blk w a2 #[x2] 31) (h01:a0<a1) (h12:a1<a2) :
    CallsD Tryz.prog 180 #[.pointer (some ⟨a0,0,none⟩),.pointer (some ⟨a1,0,none⟩),.pointer (some ⟨a2,0,none⟩)] (.panicking [{ v := .iface 232 (.agg #[.int .i64 e]),recovered:=false }]) w (fun e' u' w'=>(∃ v,e' = .returned v)∧u' = .panicking [{ v := .iface 232 (.agg #[.int .i64 e]),recovered:=true }]∧Rcv w a0 a1 a2 e w'):=by
 refine Aap 20 [.pointer (some ⟨a0,0,none⟩),.pointer (some ⟨a1,0,none⟩),.pointer (some ⟨a2,0,none⟩)] Tryz.func180 rfl rfl (Nat.le_of_ble_eq_true rfl) rfl (fun c₀ fs hu=>?_)
 have hX:=Fx.refl w a0 a1 a2
 refine Aar ?_
 refine S9 ?_
 refine (show LstS _ _ _ [0,1] _ _ _ from ?_)
 refine Adm rfl (Rb hu) ?_
 refine Aeh rfl (A0 rfl) ?_
 refine Zs ?_
 refine Aea ?_
 refine Ac0 ?_
 refine Ab ?_
 refine Aa ?_
 refine pM ?_
 refine p1 (Lz u20i rfl rfl) ?_
 refine Ac ?_
 refine t_n ?_
 refine c_t (rfl) ?_
 refine Ab ?_
 refine Aa ?_
 refine pM ?_
 refine p1 (Yr ua232 rfl) ?_
 refine pM ?_
 refine p1 (Ao rfl rfl) ?_
 refine p1 (Ao rfl rfl) ?_
 have hlt:=hC2.lt
 refine A7 zr232 ?_
 intro w1 g4 hN4
 have hE1:=hN4.ext
 have hX:=hX.ext hE1
 have hC0:=hC0.ext hE1
 have hC1:=hC1.ext hE1
 have hC2:=hC2.ext hE1
 have hB4:=hN4.blk
 have hge4:=hN4.g_eq
 have hXs4:=hN4.ext.size
 refine Ax rfl (by conv=>lhs;whnf) (by simp[Value.oneCell']) (by exact sz232) hB4 (by rfl) ?_
 intro w2 hP2
 have hX:=hX.put hP2 (.inr (.inr (.inr (by omega))))
 have hC0:=hP2.keep hC0 (by omega)
 have hC1:=hP2.keep hC1 (by omega)
 have hC2:=hP2.keep hC2 (by omega)
 have hB4:=hP2.blk
 refine pA (Ac ?_)
 refine t_n ?_
 refine Ab ?_
 refine Ab ?_
 refine Aa ?_
 refine pM ?_
 refine p1 (Ff rfl) ?_
 refine Ac ?_
 refine t_n ?_
 refine c_f (rfl) ?_
 refine Ah ?_
 refine t_n ?_
 have hge4:=hge4
 refine Bx (fun _ w2=>Blk w2 g4 #[.int .i64 e] 232) mixed ?_
 intro w3 hE3
 have hX:=hX.ext hE3
 have hC0:=hC0.ext hE3
 have hC1:=hC1.ext hE3
 have hC2:=hC2.ext hE3
 have hB4:=hB4.ext hE3
 have hSr5:(fun _ w2=>Blk w2 g4 #[.int .i64 e] 232) w3 w3:=hB4
 refine hT 0 rfl hSr5 (fun wS hSS=>by(exact(Gz pl187 rfl))) ?_
 refine hT 1 rfl hSr5 (fun wS hSS=>by(exact(Ad Ach sz31 rfl))) ?_
 refine hT 2 rfl hSr5 (fun wS hSS=>by(have hB4:=hSS;exact(Ae un31 rfl (hB4.cell rfl)))) ?_
 refine h1L 3 (fun Q3 hQ3=>?_)
 refine Ax rfl (by conv=>lhs;whnf) (by simp[Value.oneCell']) (by exact sz187) hC0 (by rfl) ?_
 intro w4 hP4
 have hX:=hX.put hP4 (.inl rfl)
 have hC0:=hP4.blk
 have hC1:=hP4.keep hC1 (by omega)
 have hC2:=hP4.keep hC2 (by omega)
 have hB4:=hP4.keep hB4 (by omega)
 have hSr5:=hP4.keep hSr5 (by omega)
 refine An hQ3 ⟨hSr5,?_⟩
 refine h1L 4 (fun Q4 hQ4=>?_)
 refine Aq rfl (by conv=>lhs;whnf) rfl rfl sz3 hC1 (by simp) ?_
 intro w5 hP5
 have hX:=hX.put hP5 (.inr (.inl rfl))
 have hC0:=hP5.keep hC0 (by omega)
 have hC1:=hP5.blk
 try simp only[List.setIfInBounds_toArray,List.set_cons_zero,List.set_cons_succ] at hC1
 have hC2:=hP5.keep hC2 (by omega)
 have hB4:=hP5.keep hB4 (by omega)
 have hSr5:=hP5.keep hSr5 (by omega)
 refine An hQ4 ⟨hSr5,?_⟩
 refine h1L 5 (fun Q5 hQ5=>?_)
 refine Aq rfl (by conv=>lhs;whnf) rfl rfl sz31 hC2 (by simp) ?_
 intro w6 hP6
 have hX:=hX.put hP6 (.inr (.inr (.inl rfl)))
 have hC0:=hP6.keep hC0 (by omega)
 have hC1:=hP6.keep hC1 (by omega)
 have hC2:=hP6.blk
 try simp only[List.setIfInBounds_toArray,List.set_cons_zero,List.set_cons_succ] at hC2
 have hB4:=hP6.keep hB4 (by omega)
 have hSr5:=hP6.keep hSr5 (by omega)
 refine An hQ5 ⟨hSr5,?_⟩
 refine Bo (by kernel_rfl) ?_
 exact⟨rfl,_,rfl,.tuple #[],results_none rfl _ _ _,⟨_,rfl⟩,rfl,⟨hC0,hC1,hC2,hX⟩⟩
theorem U7 (a0 a1 a2:Nat) (w:World) :
    CallsD Tryz.prog 180 #[.pointer (some ⟨a0,0,none⟩),.pointer (some ⟨a1,0,none⟩),.pointer (some ⟨a2,0,none⟩)] .returning w (fun e' u' w'=>(∃ v,e' = .returned v)∧u' = .returning∧w'=w):=by
  refine Aap 20 [.pointer (some ⟨a0,0,none⟩),.pointer (some ⟨a1,0,none⟩),.pointer (some ⟨a2,0,none⟩)] Tryz.func180 rfl rfl (Nat.le_of_ble_eq_true rfl) rfl (fun c₀ fs hu=>?_)
  refine Aar ?_
  refine S9 ?_
  refine (show LstS _ _ _ [0,1] _ _ _ from ?_)
  refine Ab3 rfl (Ra hu) ?_
  refine Aeh rfl (A0 rfl) ?_
  refine Zs ?_
  refine Aea ?_
  refine Ac0 ?_
  refine Ab ?_
  refine Aa ?_
  refine pM ?_
  refine p1 (J0 u20i rfl rfl) ?_
  refine Ac ?_
  refine t_n ?_
  refine c_f rfl ?_
  refine Ah ?_
  exact⟨rfl,.returning,by cases c₀;simp_all,.tuple #[],results_none rfl _ _ _,⟨_,rfl⟩,rfl,rfl⟩
end Go.Proofs.Eng
end
section
set_option maxRecDepth 100000
set_option maxHeartbeats 4000000
namespace Go.Proofs.Eng
open Go.RowKit
open Extern.Stop (cell)
theorem Dp {xs:List UInt8} {w w1 w':World} {g2 g3 g4:Nat} {e:Int} (hp:openF xs=noF e) (hX:Ext w w1) (hR:Rcv w1 g2 g3 g4 e w') (h2:w.heap.size≤g2) (h3:w.heap.size≤g3) (h4:w.heap.size≤g4) :
    (∃ q m c',Value.tuple #[.agg #[.int .u8 0,.slice none 0 0],.int .i64 0,.int .i64 e] = .tuple #[.agg #[.int .u8 ((openF xs).1.1.toNat:Int),.slice q m c'],.int .i64 ((openF xs).2.1:Int),.int .i64 (openF xs).2.2]∧Own kByte 5 0 w.heap.size w' q m c' (openF xs).1.2)∧Ext w w':=by
  rw[hp]
  exact⟨⟨none,0,0,rfl,Own.nil _ _ _ _ _⟩,hR.fx w hX h2 h3 h4⟩
theorem Oq (xs:List UInt8) (B:Nat) (p:Option Addr) (n c:Nat) (w:World) (hl:Sl kByte 5 B w p n c xs) (hq:Qt w) :
    Ret Tryz.prog 133 [.slice p n c] w (fun v w'=>(∃ q m c',v = .tuple #[.agg #[.int .u8 ((openF xs).1.1.toNat:Int),.slice q m c'],.int .i64 ((openF xs).2.1:Int),.int .i64 (openF xs).2.2]∧Own kByte 5 0 w.heap.size w' q m c' (openF xs).1.2)∧Ext w w'):=by
 have hX:=Ext.refl w
 refine Adw 71 _ Tryz.func133 rfl rfl (Nat.le_of_ble_eq_true rfl) rfl ?_
 refine Ab (Aa ?_)
 refine A7 zr187 ?_
 intro w1 g2 hN2
 have hE1:=hN2.ext
 have hX:=hX.ext hE1
 have hB2:=hN2.blk
 have hl2:=hB2.lt
 refine A7 zr3 ?_
 intro w2 g3 hN3
 have hE2:=hN3.ext
 have hX:=hX.ext hE2
 have hB2:=hB2.ext hE2
 have hB3:=hN3.blk
 have hl3:=hB3.lt
 refine A7 zr31 ?_
 intro w3 g4 hN4
 have hE3:=hN4.ext
 have hX:=hX.ext hE3
 have hB2:=hB2.ext hE3
 have hB3:=hB3.ext hE3
 have hB4:=hN4.blk
 refine Ac (t_n (Ab ?_))
 have e2:=hN2.g_eq
 have e3:=hN3.g_eq
 have e4:=hN4.g_eq
 have s2:=hN2.ext.size
 have s3:=hN3.ext.size
 have h23:g2<g3:=by omega
 have h34:g3<g4:=by omega
 have hg2:w.heap.size≤g2:=by omega
 have hg3:w.heap.size≤g3:=by omega
 have hg4:w.heap.size≤g4:=by omega
 have hB2:Blk _ g2 #[.int .u8 0,.slice none 0 0] 187:=hB2
 have hB3:Blk _ g3 #[.int .i64 0] 3:=hB3
 have hB4:Blk _ g4 #[.int .i64 0] 31:=hB4
 have hlen:=hl.len
 have hfit:=hl.fit
 have hcap:=hl.cap
 refine Aa ?_
 refine p1 (Bc (fs:=[]) (cs:=[.pointer (some ⟨g2,0,none⟩),.pointer (some ⟨g3,0,none⟩),.pointer (some ⟨g4,0,none⟩)]) rfl rfl) ?_
 refine Abx (oas:=[]) (fs:=[]) (vs:=[]) rfl rfl rfl rfl ?_
 refine Ac (t_n (Ab (Aa ?_)))
 refine pM ?_
 refine p1 (Ak u23 rfl) ?_
 refine p1 (Da rfl rfl) ?_
 refine I8 Tryz.func181 fn181 fb181 (En _ _ _) rfl ?_ ?_
 rotate_left
 · rintro ch w4 ⟨hb, rfl, hE4⟩
   have hb:=of_decide_eq_false hb
   skip
   have hp:openF xs=noF (22):=by unfold openF;rw[if_pos (by omega)]
   have hX:=hX.ext hE4
   have hB2:=hB2.ext hE4
   have hB3:=hB3.ext hE4
   have hB4:=hB4.ext hE4
   refine t_p ?_
   exact Ii rfl Tryz.func180 fn180 fb180 rfl (Fy g2 g3 g4 _ _ _ _ (22) _ hB2 hB3 hB4 h23 h34) (fun w9 hR=>⟨_,Dx rfl (B7 ua187 rfl hR.b0 sz187) (Bk un3 rfl hR.b1) (Bk un31 rfl hR.b2),Dp hp hX hR hg2 hg3 hg4⟩)
 rintro v4 w4 ⟨hb4,hE4⟩
 have h1:=of_decide_eq_true hb4
 have hX:=hX.ext hE4
 have hB2:=hB2.ext hE4
 have hB3:=hB3.ext hE4
 have hB4:=hB4.ext hE4
 skip
 refine Ac (t_n (Ab (Aa ?_)))
 refine pM ?_
 refine p1 (Dc (i:=0) u23 sz5 rfl rfl ((hl.ext hX).adr Bz (by omega)) (by omega)) ?_
 refine p1 (Ae un5 rfl ((hl.ext hX).byteAt 0 (by omega))) ?_
 refine p1 (A4 rfl rfl) ?_
 refine I8 Tryz.func181 fn181 fb181 (En _ _ _) rfl ?_ ?_
 rotate_left
 · rintro ch w5 ⟨hb, rfl, hE5⟩
   have hb:=of_decide_eq_false hb
   have e0:xs.getD 0 0=0:=Jr.1 (Classical.byContradiction hb)
   have hp:openF xs=noF (4):=by unfold openF;rw[if_neg (by omega),if_pos e0]
   have hX:=hX.ext hE5
   have hB2:=hB2.ext hE5
   have hB3:=hB3.ext hE5
   have hB4:=hB4.ext hE5
   refine t_p ?_
   exact Ii rfl Tryz.func180 fn180 fb180 rfl (Fy g2 g3 g4 _ _ _ _ (4) _ hB2 hB3 hB4 h23 h34) (fun w9 hR=>⟨_,Dx rfl (B7 ua187 rfl hR.b0 sz187) (Bk un3 rfl hR.b1) (Bk un31 rfl hR.b2),Dp hp hX hR hg2 hg3 hg4⟩)
 rintro v5 w5 ⟨hb5,hE5⟩
 have h2:=of_decide_eq_true hb5
 have hX:=hX.ext hE5
 have hB2:=hB2.ext hE5
 have hB3:=hB3.ext hE5
 have hB4:=hB4.ext hE5
 have h2:xs.getD 0 0≠0:=fun e=>h2 (by rw[e];rfl)
 have hdl:(xs.drop 1).length=n - 1:=by rw[List.length_drop,hlen]
 refine Ac (t_n (Ab (Aa ?_)))
 refine pM ?_
 refine p1 (Ef (m:=1) u23 sz5 rfl rfl (by omega)) ?_
 refine Ag Tryz.func182 fn182 fb182 (Ma (xs.drop 1) _ _ _ _ _ ((hl.ext hX).dropI 1 (by omega))) rfl ?_
 rintro v6 w6 ⟨rfl,hE6⟩
 have hX:=hX.ext hE6
 have hB2:=hB2.ext hE6
 have hB3:=hB3.ext hE6
 have hB4:=hB4.ext hE6
 refine pM ?_
 refine p1 (Ao rfl rfl) ?_
 refine p1 (Ao rfl rfl) ?_
 refine p1 (Ao rfl rfl) ?_
 refine pA (pA (pA (Ac (t_n (Ab (Aa ?_))))))
 refine pM ?_
 refine p1 (Bs rfl rfl) ?_
 refine pM ?_
 refine I8 Tryz.func181 fn181 fb181 (En _ _ _) rfl ?_ ?_
 rotate_left
 · rintro ch w7 ⟨hb, rfl, hE7⟩
   have hb:=of_decide_eq_false hb
   skip
   have hp:openF xs=noF ((getU (xs.drop 1)).2.2):=by unfold openF;rw[if_neg (by omega),if_neg h2,if_pos hb]
   have hX:=hX.ext hE7
   have hB2:=hB2.ext hE7
   have hB3:=hB3.ext hE7
   have hB4:=hB4.ext hE7
   refine t_p ?_
   exact Ii rfl Tryz.func180 fn180 fb180 rfl (Fy g2 g3 g4 _ _ _ _ ((getU (xs.drop 1)).2.2) _ hB2 hB3 hB4 h23 h34) (fun w9 hR=>⟨_,Dx rfl (B7 ua187 rfl hR.b0 sz187) (Bk un3 rfl hR.b1) (Bk un31 rfl hR.b2),Dp hp hX hR hg2 hg3 hg4⟩)
 rintro v7 w7 ⟨hb7,hE7⟩
 have h3:=of_decide_eq_true hb7
 have hX:=hX.ext hE7
 have hB2:=hB2.ext hE7
 have hB3:=hB3.ext hE7
 have hB4:=hB4.ext hE7
 have hgb:=Ia h3
 have hEd:(endF xs)=1+(getU (xs.drop 1)).2.1+(getU (xs.drop 1)).1:=rfl
 refine Ac (t_n (Ab (Aa ?_)))
 refine pM ?_
 refine p1 (Acw rfl rfl) ?_
 refine I8 Tryz.func181 fn181 fb181 (En _ _ _) rfl ?_ ?_
 rotate_left
 · rintro ch w8 ⟨hb, rfl, hE8⟩
   have hb:=of_decide_eq_false hb
   skip
   have hp:openF xs=noF (5):=by unfold openF;rw[if_neg (by omega),if_neg h2,if_neg (by simpa using h3),if_pos (by omega)]
   have hX:=hX.ext hE8
   have hB2:=hB2.ext hE8
   have hB3:=hB3.ext hE8
   have hB4:=hB4.ext hE8
   refine t_p ?_
   exact Ii rfl Tryz.func180 fn180 fb180 rfl (Fy g2 g3 g4 _ _ _ _ (5) _ hB2 hB3 hB4 h23 h34) (fun w9 hR=>⟨_,Dx rfl (B7 ua187 rfl hR.b0 sz187) (Bk un3 rfl hR.b1) (Bk un31 rfl hR.b2),Dp hp hX hR hg2 hg3 hg4⟩)
 rintro v8 w8 ⟨hb8,hE8⟩
 have h4:=of_decide_eq_true hb8
 have hX:=hX.ext hE8
 have hB2:=hB2.ext hE8
 have hB3:=hB3.ext hE8
 have hB4:=hB4.ext hE8
 skip
 refine Ac (t_n (Ab (Aa ?_)))
 refine pM ?_
 refine p1 ((A1 rfl rfl (Aj (by omega) (by omega))).cast (congrArg _ (by omega:(1:Int)+((getU (xs.drop 1)).2.1:Int)=((1+(getU (xs.drop 1)).2.1:Nat):Int)))) ?_
 refine pA (Ac (t_n (Ab (Aa ?_))))
 refine pM (pM ?_)
 refine p1 (Cs u3 us180 rfl (Aj (by omega) (by omega))) ?_
 refine p1 ((A1 rfl rfl (Aj (by omega) (by omega))).cast (congrArg _ (by omega:((1+(getU (xs.drop 1)).2.1:Nat):Int)+((getU (xs.drop 1)).1:Int)=((endF xs):Int)))) ?_
 refine pA (Ac (t_n (Ab (Aa ?_))))
 refine pM ?_
 refine p1 (Ak u23 rfl) ?_
 refine pM ?_
 refine p1 (Dt rfl rfl (Aj (by omega) (by omega))) ?_
 refine p1 (Sj rfl rfl) ?_
 refine I8 Tryz.func181 fn181 fb181 (En _ _ _) rfl ?_ ?_
 rotate_left
 · rintro ch w9 ⟨hb, rfl, hE9⟩
   have hb:=of_decide_eq_false hb
   skip
   have hp:openF xs=noF (3):=by unfold openF;rw[if_neg (by omega),if_neg h2,if_neg (by simpa using h3),if_neg (by omega),if_pos (by omega)]
   have hX:=hX.ext hE9
   have hB2:=hB2.ext hE9
   have hB3:=hB3.ext hE9
   have hB4:=hB4.ext hE9
   refine t_p ?_
   exact Ii rfl Tryz.func180 fn180 fb180 rfl (Fy g2 g3 g4 _ _ _ _ (3) _ hB2 hB3 hB4 h23 h34) (fun w9 hR=>⟨_,Dx rfl (B7 ua187 rfl hR.b0 sz187) (Bk un3 rfl hR.b1) (Bk un31 rfl hR.b2),Dp hp hX hR hg2 hg3 hg4⟩)
 rintro v9 w9 ⟨hb9,hE9⟩
 have h5:=of_decide_eq_true hb9
 have hX:=hX.ext hE9
 have hB2:=hB2.ext hE9
 have hB3:=hB3.ext hE9
 have hB4:=hB4.ext hE9
 skip
 refine Ac (t_n (Ab ?_))
 refine Abp [2,3,4] (fun ch w'=>ch=[{ v := .iface 232 (.agg #[.int .i64 6]),recovered:=false }]∧openF xs=noF 6∧Ext w9 w') (fun w1 w2=>Ext w1 w2) mixed ?_ ?_
 ·intro ch a w' hk hx
  refine t_p ?_
  obtain⟨rfl,hp,hE⟩:=hx
  exact Yd hk rfl Tryz.func180 fn180 fb180 rfl (Fy g2 g3 g4 _ _ _ _ 6 _ (hB2.ext hE) (hB3.ext hE) (hB4.ext hE) h23 h34) (fun w9 hR=>⟨_,Dx rfl (by rw[hk.getD 2 (by simp)];exact B7 ua187 rfl hR.b0 sz187) (by rw[hk.getD 3 (by simp)];exact Bk un3 rfl hR.b1) (by rw[hk.getD 4 (by simp)];exact Bk un31 rfl hR.b2),Dp hp (hX.ext hE) hR hg2 hg3 hg4⟩)
 intro w10 hE10
 have hX:=hX.ext hE10
 have hB2:=hB2.ext hE10
 have hB3:=hB3.ext hE10
 have hB4:=hB4.ext hE10
 have hSr10:(fun w1 w2=>Ext w1 w2) w10 w10:=Ext.refl w10
 have hST:=hE10
 refine Fc 0 rfl (by kernel_rfl) (by kernel_rfl) (by kernel_rfl) hSr10 (fun wS hSS=>by(have hX:=hX.ext hSS;have hB2:=hB2.ext hSS;have hB3:=hB3.ext hSS;have hB4:=hB4.ext hSS;exact(Ai (by conv=>lhs;whnf)))) ?_
 refine Fc 1 rfl (by kernel_rfl) (by kernel_rfl) (by kernel_rfl) hSr10 (fun wS hSS=>by(have hX:=hX.ext hSS;have hB2:=hB2.ext hSS;have hB3:=hB3.ext hSS;have hB4:=hB4.ext hSS;exact(Ai (by conv=>lhs;whnf)))) ?_
 refine Fc 2 rfl (by kernel_rfl) (by kernel_rfl) (by kernel_rfl) hSr10 (fun wS hSS=>by(have hX:=hX.ext hSS;have hB2:=hB2.ext hSS;have hB3:=hB3.ext hSS;have hB4:=hB4.ext hSS;exact(Ew u23 sz5 rfl rfl (by omega)))) ?_
 refine Fc 5 rfl (by kernel_rfl) (by kernel_rfl) (by kernel_rfl) hSr10 (fun wS hSS=>by(have hX:=hX.ext hSS;have hB2:=hB2.ext hSS;have hB3:=hB3.ext hSS;have hB4:=hB4.ext hSS;exact(Ai (by conv=>lhs;whnf)))) ?_
 refine Fc 6 rfl (by kernel_rfl) (by kernel_rfl) (by kernel_rfl) hSr10 (fun wS hSS=>by(have hX:=hX.ext hSS;have hB2:=hB2.ext hSS;have hB3:=hB3.ext hSS;have hB4:=hB4.ext hSS;exact(Ai (by conv=>lhs;whnf)))) ?_
 refine Fc 7 rfl (by kernel_rfl) (by kernel_rfl) (by kernel_rfl) hSr10 (fun wS hSS=>by(have hX:=hX.ext hSS;have hB2:=hB2.ext hSS;have hB3:=hB3.ext hSS;have hB4:=hB4.ext hSS;exact(Ai (by conv=>lhs;whnf)))) ?_
 refine Fc 8 rfl (by kernel_rfl) (by kernel_rfl) (by kernel_rfl) hSr10 (fun wS hSS=>by(have hX:=hX.ext hSS;have hB2:=hB2.ext hSS;have hB3:=hB3.ext hSS;have hB4:=hB4.ext hSS;exact((A1 rfl rfl (Aj (by omega) (by omega))).cast (congrArg _ (by omega:((endF xs):Int)+4=(((endF xs)+4:Nat):Int)))))) ?_
 refine Fc 9 rfl (by kernel_rfl) (by kernel_rfl) (by kernel_rfl) hSr10 (fun wS hSS=>by(have hX:=hX.ext hSS;have hB2:=hB2.ext hSS;have hB3:=hB3.ext hSS;have hB4:=hB4.ext hSS;exact((Ly u23 sz5 rfl rfl rfl (by omega) (by omega)).cast (by rw[Nat.add_sub_cancel_left]:_=Value.slice (adw p c (endF xs) 1) 4 (c - (endF xs)))))) ?_
 refine Fc 10 rfl (by kernel_rfl) (by kernel_rfl) (by kernel_rfl) hSr10 (fun wS hSS=>by(have hX:=hX.ext hSS;have hB2:=hB2.ext hSS;have hB3:=hB3.ext hSS;have hB4:=hB4.ext hSS;exact(A6 u23 u5 u9 rfl (((hl.ext hX).dropI (endF xs) (by omega)).take 4 (by omega))))) ?_
 refine Vh 3 _ rfl (by kernel_rfl) (Hn (fun Q3 hQ3 hP3=>?_))
 refine Ag Tryz.func148 fn148 fb148 (Qf (xs.take (endF xs)) _ _ _ _ _ ((hl.ext hX).take (endF xs) (by omega)) (hq.ext hX)) rfl ?_
 rintro v11 w11 ⟨⟨q49,c49,rfl,hU⟩,hE11⟩
 have hX:=hX.ext hE11
 have hB2:=hB2.ext hE11
 have hB3:=hB3.ext hE11
 have hB4:=hB4.ext hE11
 have hSr10:=hSr10.ext hE11
 have hST:=hST.ext hE11
 refine An hQ3 ⟨hSr10,?_⟩
 refine Vh 4 _ rfl (by kernel_rfl) (Hn (fun Q4 hQ4 hP4=>?_))
 refine p1 (A6 u23 u5 u9 rfl hU.sl) ?_
 refine An hQ4 ⟨hSr10,?_⟩
 refine Fc 11 rfl (by kernel_rfl) (by kernel_rfl) (by kernel_rfl) hSr10 (fun wS hSS=>by( exact(Is rfl rfl))) ?_
 refine Vh 12 _ rfl (by kernel_rfl) (Hn (fun Q12 hQ12 hP12=>?_))
 refine I8 Tryz.func181 fn181 fb181 (En _ _ _) rfl ?_ ?_
 rotate_left
 · rintro ch w12 ⟨hb, rfl, hE12⟩
   have hb:=of_decide_eq_false hb
   have hne:sumB (xs.take (endF xs))≠(xs.drop (endF xs)).take 4:=fun e=>hb (by rw[e])
   have hp:openF xs=noF (6):=by unfold openF;rw[if_neg (by omega),if_neg h2,if_neg (by simpa using h3),if_neg (by omega),if_neg (by omega),if_pos hne]
   exact hP12 _ _ _ (Keep.of (by intro t ht;simp only[List.mem_cons,List.not_mem_nil,or_false] at ht;rcases ht with rfl | rfl | rfl <;> rfl) rfl) ⟨rfl,hp,hST.ext hE12⟩
 rintro v12 w12 ⟨hb12,hE12⟩
 have h6:=D3 (of_decide_eq_true hb12)
 have hX:=hX.ext hE12
 have hB2:=hB2.ext hE12
 have hB3:=hB3.ext hE12
 have hB4:=hB4.ext hE12
 have hSr10:=hSr10.ext hE12
 refine An hQ12 ⟨hSr10,?_⟩
 refine Acb (by kernel_rfl) ?_
 refine t_n (Ab ?_)
 have hp:openF xs=((xs.getD 0 0,(xs.take (endF xs)).drop (1+(getU (xs.drop 1)).2.1)),(endF xs)+4,0):=by unfold openF;rw[if_neg (by omega),if_neg h2,if_neg (by simpa using h3),if_neg (by omega),if_neg (by omega),if_neg (by rw[h6];simp)]
 have hbl:((xs.take (endF xs)).drop (1+(getU (xs.drop 1)).2.1)).length=(getU (xs.drop 1)).1:=by rw[List.length_drop,List.length_take];omega
 refine Bx (fun _ w2=>Ext w w2) mixed ?_
 intro w13 hE13
 have hX:=hX.ext hE13
 have hB2:=hB2.ext hE13
 have hB3:=hB3.ext hE13
 have hB4:=hB4.ext hE13
 have hSr11:(fun _ w2=>Ext w w2) w13 w13:=hX
 refine hT 0 rfl hSr11 (fun wS hSS=>by(exact(Ai (by conv=>lhs;whnf)))) ?_
 refine hT 1 rfl hSr11 (fun wS hSS=>by(exact(Dc (i:=0) u23 sz5 rfl rfl ((hl.ext hX).adr Bz (by omega)) (by omega)))) ?_
 refine hT 2 rfl hSr11 (fun wS hSS=>by(have hX:=hSS;exact(Ae un5 rfl ((hl.ext hX).byteAt 0 (by omega))))) ?_
 refine hT 3 rfl hSr11 (fun wS hSS=>by(exact(Ai (by conv=>lhs;whnf)))) ?_
 refine hT 4 rfl hSr11 (fun wS hSS=>by(exact(Ai (by conv=>lhs;whnf)))) ?_
 refine hT 5 rfl hSr11 (fun wS hSS=>by(exact(Ai (by conv=>lhs;whnf)))) ?_
 refine hT 6 rfl hSr11 (fun wS hSS=>by(exact(Ly u23 sz5 rfl rfl rfl (by omega) (by omega)))) ?_
 refine hT 10 rfl hSr11 (fun wS hSS=>by(exact(Ai (by conv=>lhs;whnf)))) ?_
 refine hT 11 rfl hSr11 (fun wS hSS=>by(exact((A1 rfl rfl (Aj (by omega) (by omega))).cast (congrArg _ (by omega:((endF xs):Int)+4=(((endF xs)+4:Nat):Int)))))) ?_
 refine h1L 7 (fun Q7 hQ7=>?_)
 refine Au u22 inf23 rfl (by decide) (fun base hb=>Ce (by rfl) base hb) ?_
 intro w14 g66 hN66
 have hE14:=hN66.ext
 have hX:=hX.ext hE14
 have hB2:=hB2.ext hE14
 have hB3:=hB3.ext hE14
 have hB4:=hB4.ext hE14
 have hSr11:=hSr11.ext hE14
 have hJ:=Y6 hN66 (((hl.ext hX).take (endF xs) (by omega)).dropI (1+(getU (xs.drop 1)).2.1) (by omega))
 refine An hQ7 ⟨hSr11,?_⟩
 refine h1L 8 (fun Q8 hQ8=>?_)
 have hXs66:=hX.size
 refine Ag Tryz.func147 fn147 fb147 (Ho _ _ _ _ _ _ hJ (by rw[flat1,hbl];omega)) rfl ?_
 rintro v15 w15 ⟨⟨q67,m67,c67,rfl,hO⟩,hE15⟩
 have hX:=hX.ext hE15
 have hB2:=hB2.ext hE15
 have hB3:=hB3.ext hE15
 have hB4:=hB4.ext hE15
 have hSr11:=hSr11.ext hE15
 rw[flat1] at hO
 have hO:=hO.lower hXs66
 refine An hQ8 ⟨hSr11,?_⟩
 refine hT 9 rfl hSr11 (fun wS hSS=>by(exact(Na pl187 (by conv=>lhs;whnf) (by conv=>lhs;whnf) rfl rfl))) ?_
 refine h1L 12 (fun Q12 hQ12=>?_)
 refine Ax rfl (by conv=>lhs;whnf) (by simp[Value.oneCell']) (by exact sz187) hB2 (by rfl) ?_
 intro w16 hP16
 have hX:=hX.put hP16 (hg2)
 have hB2:=hP16.blk
 have hB3:=hP16.keep hB3 (by omega)
 have hB4:=hP16.keep hB4 (by omega)
 have hSr11:=hSr11.put hP16 (by omega)
 have hO:=hO.mod (hP16.mod 0 (Nat.zero_le _)) (Nat.zero_le _) (by decide)
 refine An hQ12 ⟨hSr11,?_⟩
 refine h1L 13 (fun Q13 hQ13=>?_)
 refine Aq rfl (by conv=>lhs;whnf) rfl rfl sz3 hB3 (by simp) ?_
 intro w17 hP17
 have hX:=hX.put hP17 (hg3)
 have hB2:=hP17.keep hB2 (by omega)
 have hB3:=hP17.blk
 try simp only[List.setIfInBounds_toArray,List.set_cons_zero,List.set_cons_succ] at hB3
 have hB4:=hP17.keep hB4 (by omega)
 have hSr11:=hSr11.put hP17 (by omega)
 have hO:=hO.mod (hP17.mod 0 (Nat.zero_le _)) (Nat.zero_le _) (by decide)
 refine An hQ13 ⟨hSr11,?_⟩
 refine h1L 14 (fun Q14 hQ14=>?_)
 refine Aq rfl (by conv=>lhs;whnf) rfl rfl sz31 hB4 (by simp) ?_
 intro w18 hP18
 have hX:=hX.put hP18 (hg4)
 have hB2:=hP18.keep hB2 (by omega)
 have hB3:=hP18.keep hB3 (by omega)
 have hB4:=hP18.blk
 try simp only[List.setIfInBounds_toArray,List.set_cons_zero,List.set_cons_succ] at hB4
 have hSr11:=hSr11.put hP18 (by omega)
 have hO:=hO.mod (hP18.mod 0 (Nat.zero_le _)) (Nat.zero_le _) (by decide)
 refine An hQ14 ⟨hSr11,?_⟩
 refine Bo (by kernel_rfl) ?_
 refine t_n (Al ?_)
 exact Aaq rfl Tryz.func180 fn180 fb180 rfl (U7 g2 g3 g4 _) (fun w9 hR=>by
   subst hR
   exact⟨_,Dx rfl (B7 ua187 rfl hB2 sz187) (Bk un3 rfl hB3) (Bk un31 rfl hB4),⟨_,_,_,by rw[hp],by rw[hp];exact hO⟩,hX⟩)
end Go.Proofs.Eng
end
section
set_option maxRecDepth 100000
set_option maxHeartbeats 4000000
namespace Go.Proofs.Eng
open Go.RowKit
open Extern.Stop (cell)
theorem fb136:Tryz.f136.body.isNone=false:=by kernel_rfl
theorem fb137:Tryz.f137.body.isNone=false:=by kernel_rfl
theorem fb138:Tryz.f138.body.isNone=false:=by kernel_rfl
theorem fb139:Tryz.f139.body.isNone=false:=by kernel_rfl
theorem fb140:Tryz.f140.body.isNone=false:=by kernel_rfl
theorem fb97:Tryz.f97.body.isNone=false:=by kernel_rfl
theorem fn136 : ngB Tryz.f136 = false := by kernel_rfl
theorem fn137 : ngB Tryz.f137 = false := by kernel_rfl
theorem fn138 : ngB Tryz.f138 = false := by kernel_rfl
theorem fn139 : ngB Tryz.f139 = false := by kernel_rfl
theorem fn140 : ngB Tryz.f140 = false := by kernel_rfl
theorem fn97 : ngB Tryz.f97 = false := by kernel_rfl
theorem pl99:Cy Tryz.prog 99=some (.agg #[.int .i64 0,.int .i64 0,.slice none 0 0],[(0,1),(1,1),(2,1)]):=by kernel_rfl
theorem sz99:(Tryz.prog.info? 99).map (·.size)=some 3:=by kernel_rfl
theorem ua99:(Tryz.prog.underlying 99).map TypeDesc.isRow=some true:=by kernel_rfl
theorem zr99:(Tryz.prog.info? 99).map (·.zero)=some (some (.agg #[.int .i64 0,.int .i64 0,.slice none 0 0])):=by kernel_rfl
end Go.Proofs.Eng
end
section
set_option maxRecDepth 100000
set_option maxHeartbeats 4000000
namespace Go.Proofs.Eng
open Go.RowKit
open Extern.Stop (cell)
theorem Ro (xs : List UInt8) (B : Nat) (p : Option Addr) (n c : Nat) (w : World) (hl : Sl kByte 5 B w p n c xs) (hq : Qt w) :
    Ret Tryz.prog 93 [.slice p n c] w (fun v w' => (∃ (seg size : Int) (q : Option Addr) (m c' : Nat) (e : Int), v = .tuple #[.agg #[.int .i64 seg, .int .i64 size, .slice q m c'], .int .i64 e] ∧ ((e = 0 ∧ ∃ M : Mf, ManOf xs M ∧ seg = (M.seg : Int) ∧ size = (M.size : Int) ∧ Own kByte 5 0 w.heap.size w' q m c' M.index) ∨ (e = 4 ∧ ¬ ∃ M, ManOf xs M))) ∧ Ext w w') := by
 have hX := Ext.refl w
 refine enter 66 _ Tryz.func93 rfl rfl (Nat.le_of_ble_eq_true rfl) rfl ?_
 refine Ab (Aa ?_)
 have hz2 := hX.size
 refine A7 zr99 ?_
 intro w1 g2 hN2
 have hE1 := hN2.ext
 have hX := hX.ext hE1
 have hB2 := hN2.blk
 have hq2 := hN2.g_eq
 refine p1 (A0 (by conv => lhs; whnf)) ?_
 refine Ac (t_n (Ab (Aa ?_)))
 refine p1 (Ai (by conv => lhs; whnf)) ?_
 refine Ag Tryz.func133 fn133 fb133 (Oq xs _ _ _ _ _ (hl.ext hX) (hq.ext hX)) rfl ?_
 rintro v2 w2 ⟨⟨qo, mo, co, rfl, hO⟩, hE2⟩
 have hX := hX.ext hE2
 have hB2 := hB2.ext hE2
 have hO := hO.lower (Nat.zero_le _)
 refine p1 (Ai (by conv => lhs; whnf)) ?_
 refine p1 (Ao rfl rfl) ?_
 refine p1 (Ao rfl rfl) ?_
 refine p1 (Ao rfl rfl) ?_
 have hz4 := hX.size
 have hl4_2 := hB2.lt
 refine A7 zr187 ?_
 intro w3 g4 hN4
 have hE3 := hN4.ext
 have hX := hX.ext hE3
 have hB2 := hB2.ext hE3
 have hO := hO.ext hE3
 have hB4 := hN4.blk
 have hq4 := hN4.g_eq
 refine Ax rfl (by conv => lhs; whnf) (by simp [Value.oneCell']) (by exact sz187) hB4 (by rfl) ?_
 intro w4 hP4
 have hX := hX.put hP4 (by omega)
 have hB2 := hP4.keep hB2 (by omega)
 have hO := hO.mod (hP4.mod 0 (Nat.zero_le _)) (Nat.zero_le _) (by decide)
 have hB4 := hP4.blk
 refine p1 (A0 (by conv => lhs; whnf)) ?_
 refine p1 (A0 (by conv => lhs; whnf)) ?_
 refine Ac (t_n (Ab (Ab ?_)))
 have hWr2 := Ext.refl w4
 refine Gv (ι := Unit) [17, 18, 19, 20, 21, 22, 23] (fun _ => [(23, .bool (decide ((openF xs).2.2 ≠ 0 ∨ ((openF xs).1.1.toNat : Int) ≠ 3)))]) (fun _ w' => Ext w4 w') ?_ ?_
 ·skip
  refine Aa ?_
  refine p1 (Ai (by conv => lhs; whnf)) ?_
  refine p1 (A4 rfl rfl) ?_
  refine p1b (Ai (by conv => lhs; whnf)) (fun hb2_2 => ?_) (fun hb2_2 => ?_)
  ·try simp only [dA, dB, dC, dD, dE, dF, dG, Int.not_lt, Int.not_le] at hb2_2
   refine g0 19 rfl (by first | exact .inl rfl | exact .inr rfl) ?_
   refine g0 19 rfl (by first | exact .inl rfl | exact .inr rfl) ?_
   refine g0 19 rfl (by first | exact .inl rfl | exact .inr rfl) ?_
   refine p1 (Ar rfl (by conv => lhs; whnf)) ?_
   refine Ac ?_
   refine t_n (At.mk () (by repeat (first | exact Agr.refl _ _ | exact Agr.hav _ _ _ | refine Agr.upd rfl ?_ | refine Agr.updR rfl ?_ | refine Agr.updL ?_ _ rfl | refine Agr.hav' rfl ?_)) ⟨congrArg Value.bool (by first | rfl | exact (decide_eq_true (by omega)).symm | exact (decide_eq_false (by omega)).symm | exact decide_eq_decide.2 (by omega) | (simp_all; done) | grind), trivial⟩ hWr2)
  ·try simp only [dA, dB, dC, dD, dE, dF, dG, Int.not_lt, Int.not_le] at hb2_2
   refine g1 19 rfl rfl (Ad Ws sz5 rfl) ?_
   refine g1 19 rfl rfl (Ae un5 rfl (hB4.cell (rfl))) ?_
   refine g1 19 rfl rfl ((A4 rfl rfl)) ?_
   refine p1 (Ap rfl (by conv => lhs; whnf)) ?_
   refine Ac ?_
   refine t_n (At.mk () (by repeat (first | exact Agr.refl _ _ | exact Agr.hav _ _ _ | refine Agr.upd rfl ?_ | refine Agr.updR rfl ?_ | refine Agr.updL ?_ _ rfl | refine Agr.hav' rfl ?_)) ⟨congrArg Value.bool (by first | rfl | exact (decide_eq_true (by omega)).symm | exact (decide_eq_false (by omega)).symm | exact decide_eq_decide.2 (by omega) | (simp_all; done) | grind), trivial⟩ hWr2)
 ·rintro _ Gr2 w5 hE5
  have hX := hX.ext hE5
  have hB2 := hB2.ext hE5
  have hO := hO.ext hE5
  have hB4 := hB4.ext hE5
  refine t_n ?_
  first | refine As rfl (fun hc23 => ?_) (fun hc23 => ?_) | refine Iq rfl (fun hc23 => ?_) (fun hc23 => ?_)
  ·try simp only [dA, dB, dC, dD, dE, dF, dG, Int.not_lt, Int.not_le] at hc23
   have hno : ¬ ∃ M, ManOf xs M := fun ⟨M, hM⟩ => by
     have h9 := Hk hM
     rw [h9] at hc23
     simp at hc23
   refine Ab (Aa ?_)
   refine p1 (Gz pl99 rfl) ?_
   refine Ax rfl (by conv => lhs; whnf) (by simp [Value.oneCell']) (by exact sz99) hB2 (by rfl) ?_
   intro w6 hP6
   have hX := hX.put hP6 (by omega)
   have hB2 := hP6.blk
   have hO := hO.mod (hP6.mod 0 (Nat.zero_le _)) (Nat.zero_le _) (by decide)
   have hB4 := hP6.keep hB4 (by omega)
   refine p1 (A0 (by conv => lhs; whnf)) ?_
   refine Ac (t_n (Al (t_r ?_)))
   refine end2c rfl ua99 rfl (by conv => lhs; whnf) hB2 sz99 ?_
   first
     | exact ⟨⟨0, 0, none, 0, 0, 4, rfl, .inr ⟨rfl, hno⟩⟩, hX⟩
     | exact ⟨⟨0, 0, none, 0, 0, 4, rfl, .inr ⟨rfl, fun ⟨M, hM⟩ => hb8_3 (hMx M hM).1⟩⟩, hX⟩
     | exact ⟨⟨0, 0, none, 0, 0, 4, rfl, .inr ⟨rfl, fun ⟨M, hM⟩ => hPn hb8_7 ⟨N1, N2, rfl, rfl, by have := (hMx M hM).2; rw [← this]; exact hM.1⟩⟩⟩, hX⟩
     | (refine ⟨⟨0, 0, none, 0, 0, 4, rfl, .inr ⟨rfl, fun ⟨M, hM⟩ => ?_⟩⟩, hX⟩
        have e1 : N1 = s := by omega
        have e2 : N2 = z := by omega
        subst e1 e2
        have h9 := (hMx M hM).2
        rw [h9] at hM
        have h8 := hM.2
        simp [h8] at hc63)
     | (have e1 : N1 = s := by omega
        have e2 : N2 = z := by omega
        subst e1 e2
        have h8 : manB ⟨N1, N2, ix⟩ = xs := by simpa using hc63
        exact ⟨⟨_, _, _, _, _, 0, rfl, .inl ⟨rfl, ⟨N1, N2, ix⟩, ⟨hok, h8⟩, rfl, rfl, hI⟩⟩, hX⟩)
  ·try simp only [dA, dB, dC, dD, dE, dF, dG, Int.not_lt, Int.not_le] at hc23
   have h0 : (openF xs).2.2 = 0 := Classical.byContradiction fun h => hc23 (.inl h)
   have hbl := (Kh h0).2.1
   have hbo : ∀ M, ManOf xs M → Db M = (openF xs).1.2 := fun M h => by rw [Hk h]
   have hol := hO.len
   refine Ah (t_n (Ab (Aa ?_)))
   refine p1 (Ad Mz sz23 rfl) ?_
   refine p1 (Ae un23 rfl (hB4.cell (rfl))) ?_
   have hXs7 := hX.size
   refine Ag Tryz.func136 fn136 fb136 (Zx (openF xs).1.2 _ _ _ _ _ hO.sl (by omega)) rfl ?_
   rintro v7 w7 ⟨⟨g7, rfl, hg7, hR⟩, hE7⟩
   have hX := hX.ext hE7
   have hB2 := hB2.ext hE7
   have hO := hO.ext hE7
   have hB4 := hB4.ext hE7
   have hg0 : w.heap.size ≤ g7 := by omega
   refine p1 (A0 (by conv => lhs; whnf)) ?_
   refine Ac (t_n (Ab (Aa ?_)))
   refine p1 (Ai (by conv => lhs; whnf)) ?_
   refine Ag Tryz.func137 fn137 fb137 (Kg (openF xs).1.2 g7 0 _ hR 999999) rfl ?_
   rintro v8 w8 ⟨N1, e1, R1, rfl, hN51, hR, hT1, hM8⟩
   have hX := hX.mod hM8 (hg0)
   have hB2 := hB2.mod hM8 (by decide)
   have hO := hO.mod hM8 (Nat.zero_le _) (by decide)
   have hB4 := hB4.mod hM8 (by decide)
   refine p1 (Cs u3 us180 rfl (Aj (by omega) (by omega))) ?_
   refine p1 (Ai (by conv => lhs; whnf)) ?_
   refine Ag Tryz.func137 fn137 fb137 (Kg R1 g7 e1 _ hR 16777216) rfl ?_
   rintro v9 w9 ⟨N2, e2, R2, rfl, hN52, hR, hT2, hM9⟩
   have hX := hX.mod hM9 (hg0)
   have hB2 := hB2.mod hM9 (by decide)
   have hO := hO.mod hM9 (Nat.zero_le _) (by decide)
   have hB4 := hB4.mod hM9 (by decide)
   refine p1 (Cs u3 us180 rfl (Aj (by omega) (by omega))) ?_
   refine p1 (Sk pl99 (by conv => lhs; whnf) (by conv => lhs; whnf) rfl rfl) ?_
   have hlt8 := hB4.lt
   obtain ⟨hRl, hRd, hRm⟩ := Zr hbo hT1 hT2
   have hlt4 := hB4.lt
   have hXs8 := hX.size
   have hz8 := hX.size
   have hl8_2 := hB2.lt
   have hl8_4 := hB4.lt
   refine A7 zr99 ?_
   intro w10 g8 hN8
   have hE10 := hN8.ext
   have hX := hX.ext hE10
   have hB2 := hB2.ext hE10
   have hO := hO.ext hE10
   have hB4 := hB4.ext hE10
   have hR := hR.ext hE10
   have hB8 := hN8.blk
   have hq8 := hN8.g_eq
   refine Ax rfl (by conv => lhs; whnf) (by simp [Value.oneCell']) (by exact sz99) hB8 (by rfl) ?_
   intro w11 hP11
   have hX := hX.put hP11 (by omega)
   have hB2 := hP11.keep hB2 (by omega)
   have hO := hO.mod (hP11.mod 0 (Nat.zero_le _)) (Nat.zero_le _) (by decide)
   have hB4 := hP11.keep hB4 (by omega)
   have hR := hR.mod (hP11.mod 0 (Nat.zero_le _)) (Nat.zero_le _) (by decide)
   have hB8 := hP11.blk
   refine Ac (t_n (Ab ?_))
   have hg8 := hN8.g_eq
   have hcap := hO.sl.cap
   have hfit := hO.sl.fit
   refine Bx (fun _ w2 => Blk w2 g4 #[.int .u8 ((openF xs).1.1.toNat : Int), .slice qo mo co] 187) mixed ?_
   intro w12 hE12
   have hX := hX.ext hE12
   have hB2 := hB2.ext hE12
   have hO := hO.ext hE12
   have hB4 := hB4.ext hE12
   have hR := hR.ext hE12
   have hB8 := hB8.ext hE12
   have hSr6 : (fun _ w2 => Blk w2 g4 #[.int .u8 ((openF xs).1.1.toNat : Int), .slice qo mo co] 187) w12 w12 := hB4
   refine Aab 0 rfl (by kernel_rfl) (by kernel_rfl) (by kernel_rfl) hSr6 (fun wS hSS => by ( exact (Ad Mz sz23 rfl))) ?_
   refine Aab 1 rfl (by kernel_rfl) (by kernel_rfl) (by kernel_rfl) hSr6 (fun wS hSS => by (have hB4 := hSS; exact (Ae un23 rfl (hB4.cell (rfl))))) ?_
   refine Aab 2 rfl (by kernel_rfl) (by kernel_rfl) (by kernel_rfl) hSr6 (fun wS hSS => by ( exact (Ad Mz sz23 rfl))) ?_
   refine Aab 3 rfl (by kernel_rfl) (by kernel_rfl) (by kernel_rfl) hSr6 (fun wS hSS => by (have hB4 := hSS; exact (Ae un23 rfl (hB4.cell (rfl))))) ?_
   refine Aab 4 rfl (by kernel_rfl) (by kernel_rfl) (by kernel_rfl) hSr6 (fun wS hSS => by (have hB4 := hSS; exact (Ak u23 rfl))) ?_
   refine Aab 5 rfl (by kernel_rfl) (by kernel_rfl) (by kernel_rfl) hSr6 (fun wS hSS => by ( exact (Ai (by conv => lhs; whnf)))) ?_
   refine Aek 6 _ rfl (by kernel_rfl) (Cd (fun Q6 hQ6 => ?_))
   refine Ag Tryz.func138 fn138 fb138 (Td R2 g7 e2 _ hR) rfl ?_
   rintro v13 w13 ⟨rfl, hE13⟩
   have hX := hX.ext hE13
   have hB2 := hB2.ext hE13
   have hO := hO.ext hE13
   have hB4 := hB4.ext hE13
   have hR := hR.ext hE13
   have hB8 := hB8.ext hE13
   have hSr6 := hSr6.ext hE13
   refine An hQ6 ⟨hSr6, ?_⟩
   refine Aab 7 rfl (by kernel_rfl) (by kernel_rfl) (by kernel_rfl) hSr6 (fun wS hSS => by ( exact (Dt rfl rfl (Aj (by omega) (by omega))))) ?_
   refine Aab 8 rfl (by kernel_rfl) (by kernel_rfl) (by kernel_rfl) hSr6 (fun wS hSS => by ( exact (Pn u23 sz5 rfl rfl (by omega) (by omega)))) ?_
   refine Aek 9 _ rfl (by kernel_rfl) (Cd (fun Q9 hQ9 => ?_))
   have hX9 := hX.size
   obtain ⟨ix, hix⟩ : ∃ x, x = (openF xs).1.2.drop ((mo : Int) - (R2.length : Int)).toNat := ⟨_, rfl⟩
   refine Ag Tryz.func58 fn58 fb58 (B4 _ _ _ _ _ _ _ (hO.sl.dropI ((mo : Int) - (R2.length : Int)).toNat (by omega)) (by omega)) rfl ?_
   rintro v14 w14 ⟨⟨qi, ci, rfl, hI⟩, hE14⟩
   have hX := hX.ext hE14
   have hB2 := hB2.ext hE14
   have hO := hO.ext hE14
   have hB4 := hB4.ext hE14
   have hR := hR.ext hE14
   have hB8 := hB8.ext hE14
   have hSr6 := hSr6.ext hE14
   rw [← hix] at hI
   have hI := hI.lower hX9
   refine An hQ9 ⟨hSr6, ?_⟩
   refine Aab 10 rfl (by kernel_rfl) (by kernel_rfl) (by kernel_rfl) hSr6 (fun wS hSS => by ( exact (Ad Rx sz23 rfl))) ?_
   refine Aek 11 _ rfl (by kernel_rfl) (Cd (fun Q11 hQ11 => ?_))
   refine Aq rfl (by conv => lhs; whnf) rfl rfl sz23 hB8 (by first | exact Nat.zero_lt_one | simp) ?_
   intro w15 hP15
   have hX := hX.put hP15 (by omega)
   have hB2 := hP15.keep hB2 (by omega)
   have hO := hO.mod (hP15.mod 0 (Nat.zero_le _)) (Nat.zero_le _) (by decide)
   have hB4 := hP15.keep hB4 (by omega)
   have hR := hR.mod (hP15.mod 0 (Nat.zero_le _)) (Nat.zero_le _) (by decide)
   have hB8 := hP15.blk
   try simp only [List.setIfInBounds_toArray, List.set_cons_zero, List.set_cons_succ] at hB8
   have hSr6 := hP15.keep hSr6 (by omega)
   have hI := hI.mod (hP15.mod 0 (Nat.zero_le _)) (Nat.zero_le _) (by decide)
   refine An hQ11 ⟨hSr6, ?_⟩
   refine Bo (by kernel_rfl) ?_
   refine t_n (Ab (Ab (Aa ?_)))
   refine p1 (Bj ua99 rfl hB8 sz99) ?_
   refine Ag Tryz.func97 fn97 fb97 (Kj (N1 : Int) (N2 : Int) ix _ _ _ _ _ hI.sl (hq.ext hX)) rfl ?_
   rintro v16 w16 ⟨⟨qp, mp, cp, ep, rfl, hpe, hP⟩, hE16⟩
   have hX := hX.ext hE16
   have hB2 := hB2.ext hE16
   have hO := hO.ext hE16
   have hB4 := hB4.ext hE16
   have hR := hR.ext hE16
   have hB8 := hB8.ext hE16
   have hI := hI.ext hE16
   have hPx : ∀ w2, Ext w16 w2 → ep = 0 → ∃ s z : Nat, (N1 : Int) = (s : Int) ∧ (N2 : Int) = (z : Int) ∧ (Mf.mk s z ix).Ok ∧ Own kByte 5 0 0 w2 qp mp cp (manB ⟨s, z, ix⟩) := fun w2 hx he => by
     obtain ⟨_, s, z, h1, h2, h3, h4⟩ := hP.resolve_right (fun h => h.1 he)
     exact ⟨s, z, h1, h2, h3, (h4.lower (Nat.zero_le _)).ext hx⟩
   have hPn : ep ≠ 0 → ¬ ∃ s z : Nat, (N1 : Int) = (s : Int) ∧ (N2 : Int) = (z : Int) ∧ (Mf.mk s z ix).Ok := fun he => (hP.resolve_left (fun h => he h.1)).2
   have hG7 := Ext.refl w16
   have hMx : ∀ M, ManOf xs M → e2 = 0 ∧ M = ⟨N1, N2, ix⟩ := fun M hM => by
     obtain ⟨g1, g2, g3, g4⟩ := hRm M hM
     have h9 := hRd g1
     have hk : ((mo : Int) - (R2.length : Int)).toNat = (openF xs).1.2.length - R2.length := by omega
     have h8 : ix = M.index := by rw [hix, hk, h9, g4]
     refine ⟨g1, ?_⟩
     cases M with | mk a b c => simp only at g2 g3 h8; rw [g2, g3, h8]
   refine p1 (Ai (by conv => lhs; whnf)) ?_
   refine p1 (Ao rfl rfl) ?_
   refine p1 (Ao rfl rfl) ?_
   refine p1 (A0 (by conv => lhs; whnf)) ?_
   refine p1 (A0 (by conv => lhs; whnf)) ?_
   refine Ac (t_n (Ab (Aa ?_)))
   refine p1 (Ai (by conv => lhs; whnf)) ?_
   refine Ag Tryz.func139 fn139 fb139 (U0 R2 g7 e2 _ hR) rfl ?_
   rintro v17 w17 ⟨rfl, hE17⟩
   have hX := hX.ext hE17
   have hB2 := hB2.ext hE17
   have hO := hO.ext hE17
   have hB4 := hB4.ext hE17
   have hR := hR.ext hE17
   have hB8 := hB8.ext hE17
   have hI := hI.ext hE17
   have hG7 := hG7.ext hE17
   refine p1 (A4 rfl rfl) ?_
   refine p1b (Ai (by conv => lhs; whnf)) (fun hb8_3 => ?_) (fun hb8_3 => ?_)
   ·try simp only [dA, dB, dC, dD, dE, dF, dG, Int.not_lt, Int.not_le] at hb8_3
    refine g0 54 rfl (by first | exact .inl rfl | exact .inr rfl) ?_
    refine g0 54 rfl (by first | exact .inl rfl | exact .inr rfl) ?_
    refine p1 (Ar rfl (by conv => lhs; whnf)) ?_
    refine p1 (Ai (by conv => lhs; whnf)) ?_
    refine g0 58 rfl (by first | exact .inl rfl | exact .inr rfl) ?_
    refine g0 58 rfl (by first | exact .inl rfl | exact .inr rfl) ?_
    refine g0 58 rfl (by first | exact .inl rfl | exact .inr rfl) ?_
    refine g0 58 rfl (by first | exact .inl rfl | exact .inr rfl) ?_
    refine p1 (Ar rfl (by conv => lhs; whnf)) ?_
    refine Ac (t_n ?_)
    refine c_t rfl ?_
    refine Ab (Aa ?_)
    refine p1 (Gz pl99 rfl) ?_
    refine Ax rfl (by conv => lhs; whnf) (by simp [Value.oneCell']) (by exact sz99) hB2 (by rfl) ?_
    intro w18 hP18
    have hX := hX.put hP18 (by omega)
    have hB2 := hP18.blk
    have hO := hO.mod (hP18.mod 0 (Nat.zero_le _)) (Nat.zero_le _) (by decide)
    have hB4 := hP18.keep hB4 (by omega)
    have hR := hR.mod (hP18.mod 0 (Nat.zero_le _)) (Nat.zero_le _) (by decide)
    have hB8 := hP18.keep hB8 (by omega)
    have hI := hI.mod (hP18.mod 0 (Nat.zero_le _)) (Nat.zero_le _) (by decide)
    refine p1 (A0 (by conv => lhs; whnf)) ?_
    refine Ac (t_n (Al (t_r ?_)))
    refine end2c rfl ua99 rfl (by conv => lhs; whnf) hB2 sz99 ?_
    first
      | exact ⟨⟨0, 0, none, 0, 0, 4, rfl, .inr ⟨rfl, hno⟩⟩, hX⟩
      | exact ⟨⟨0, 0, none, 0, 0, 4, rfl, .inr ⟨rfl, fun ⟨M, hM⟩ => hb8_3 (hMx M hM).1⟩⟩, hX⟩
      | exact ⟨⟨0, 0, none, 0, 0, 4, rfl, .inr ⟨rfl, fun ⟨M, hM⟩ => hPn hb8_7 ⟨N1, N2, rfl, rfl, by have := (hMx M hM).2; rw [← this]; exact hM.1⟩⟩⟩, hX⟩
      | (refine ⟨⟨0, 0, none, 0, 0, 4, rfl, .inr ⟨rfl, fun ⟨M, hM⟩ => ?_⟩⟩, hX⟩
         have e1 : N1 = s := by omega
         have e2 : N2 = z := by omega
         subst e1 e2
         have h9 := (hMx M hM).2
         rw [h9] at hM
         have h8 := hM.2
         simp [h8] at hc63)
      | (have e1 : N1 = s := by omega
         have e2 : N2 = z := by omega
         subst e1 e2
         have h8 : manB ⟨N1, N2, ix⟩ = xs := by simpa using hc63
         exact ⟨⟨_, _, _, _, _, 0, rfl, .inl ⟨rfl, ⟨N1, N2, ix⟩, ⟨hok, h8⟩, rfl, rfl, hI⟩⟩, hX⟩)
   ·try simp only [dA, dB, dC, dD, dE, dF, dG, Int.not_lt, Int.not_le] at hb8_3
    refine g1 54 rfl rfl (Ai (by conv => lhs; whnf)) ?_
    refine g1 54 rfl rfl (A4 rfl rfl) ?_
    refine p1 (Ap rfl (by conv => lhs; whnf)) ?_
    refine p1b (Ai (by conv => lhs; whnf)) (fun hb8_7 => ?_) (fun hb8_7 => ?_)
    ·try simp only [dA, dB, dC, dD, dE, dF, dG, Int.not_lt, Int.not_le] at hb8_7
     refine g0 58 rfl (by first | exact .inl rfl | exact .inr rfl) ?_
     refine g0 58 rfl (by first | exact .inl rfl | exact .inr rfl) ?_
     refine g0 58 rfl (by first | exact .inl rfl | exact .inr rfl) ?_
     refine g0 58 rfl (by first | exact .inl rfl | exact .inr rfl) ?_
     refine p1 (Ar rfl (by conv => lhs; whnf)) ?_
     refine Ac (t_n ?_)
     refine c_t rfl ?_
     refine Ab (Aa ?_)
     refine p1 (Gz pl99 rfl) ?_
     refine Ax rfl (by conv => lhs; whnf) (by simp [Value.oneCell']) (by exact sz99) hB2 (by rfl) ?_
     intro w19 hP19
     have hX := hX.put hP19 (by omega)
     have hB2 := hP19.blk
     have hO := hO.mod (hP19.mod 0 (Nat.zero_le _)) (Nat.zero_le _) (by decide)
     have hB4 := hP19.keep hB4 (by omega)
     have hR := hR.mod (hP19.mod 0 (Nat.zero_le _)) (Nat.zero_le _) (by decide)
     have hB8 := hP19.keep hB8 (by omega)
     have hI := hI.mod (hP19.mod 0 (Nat.zero_le _)) (Nat.zero_le _) (by decide)
     refine p1 (A0 (by conv => lhs; whnf)) ?_
     refine Ac (t_n (Al (t_r ?_)))
     refine end2c rfl ua99 rfl (by conv => lhs; whnf) hB2 sz99 ?_
     first
       | exact ⟨⟨0, 0, none, 0, 0, 4, rfl, .inr ⟨rfl, hno⟩⟩, hX⟩
       | exact ⟨⟨0, 0, none, 0, 0, 4, rfl, .inr ⟨rfl, fun ⟨M, hM⟩ => hb8_3 (hMx M hM).1⟩⟩, hX⟩
       | exact ⟨⟨0, 0, none, 0, 0, 4, rfl, .inr ⟨rfl, fun ⟨M, hM⟩ => hPn hb8_7 ⟨N1, N2, rfl, rfl, by have := (hMx M hM).2; rw [← this]; exact hM.1⟩⟩⟩, hX⟩
       | (refine ⟨⟨0, 0, none, 0, 0, 4, rfl, .inr ⟨rfl, fun ⟨M, hM⟩ => ?_⟩⟩, hX⟩
          have e1 : N1 = s := by omega
          have e2 : N2 = z := by omega
          subst e1 e2
          have h9 := (hMx M hM).2
          rw [h9] at hM
          have h8 := hM.2
          simp [h8] at hc63)
       | (have e1 : N1 = s := by omega
          have e2 : N2 = z := by omega
          subst e1 e2
          have h8 : manB ⟨N1, N2, ix⟩ = xs := by simpa using hc63
          exact ⟨⟨_, _, _, _, _, 0, rfl, .inl ⟨rfl, ⟨N1, N2, ix⟩, ⟨hok, h8⟩, rfl, rfl, hI⟩⟩, hX⟩)
    ·try simp only [dA, dB, dC, dD, dE, dF, dG, Int.not_lt, Int.not_le] at hb8_7
     obtain ⟨s, z, hs1, hz1, hok, hOp⟩ := hPx _ hG7 (by omega)
     refine g1 58 rfl rfl (Ai (by conv => lhs; whnf)) ?_
     refine g1 58 rfl rfl (Ai (by conv => lhs; whnf)) ?_
     refine Be 58 rfl rfl ?_
     refine Ag Tryz.func140 fn140 fb140 (Mo (manB ⟨s, z, ix⟩) xs _ hOp.sl (hl.ext hX)) rfl ?_
     rintro v20 w20 ⟨rfl, hE20⟩
     have hX := hX.ext hE20
     have hB2 := hB2.ext hE20
     have hO := hO.ext hE20
     have hB4 := hB4.ext hE20
     have hR := hR.ext hE20
     have hB8 := hB8.ext hE20
     have hI := hI.ext hE20
     have hG7 := hG7.ext hE20
     first | refine g1 58 rfl rfl (Ha rfl) ?_ | refine g1 58 rfl rfl (Ff rfl) ?_
     refine p1 (Ap rfl (by conv => lhs; whnf)) ?_
     refine Ac (t_n ?_)
     first | refine As rfl (fun hc63 => ?_) (fun hc63 => ?_) | refine Iq rfl (fun hc63 => ?_) (fun hc63 => ?_)
     ·try simp only [dA, dB, dC, dD, dE, dF, dG, Int.not_lt, Int.not_le] at hc63
      refine Ab (Aa ?_)
      refine p1 (Gz pl99 rfl) ?_
      refine Ax rfl (by conv => lhs; whnf) (by simp [Value.oneCell']) (by exact sz99) hB2 (by rfl) ?_
      intro w21 hP21
      have hX := hX.put hP21 (by omega)
      have hB2 := hP21.blk
      have hO := hO.mod (hP21.mod 0 (Nat.zero_le _)) (Nat.zero_le _) (by decide)
      have hB4 := hP21.keep hB4 (by omega)
      have hR := hR.mod (hP21.mod 0 (Nat.zero_le _)) (Nat.zero_le _) (by decide)
      have hB8 := hP21.keep hB8 (by omega)
      have hI := hI.mod (hP21.mod 0 (Nat.zero_le _)) (Nat.zero_le _) (by decide)
      refine p1 (A0 (by conv => lhs; whnf)) ?_
      refine Ac (t_n (Al (t_r ?_)))
      refine end2c rfl ua99 rfl (by conv => lhs; whnf) hB2 sz99 ?_
      first
        | exact ⟨⟨0, 0, none, 0, 0, 4, rfl, .inr ⟨rfl, hno⟩⟩, hX⟩
        | exact ⟨⟨0, 0, none, 0, 0, 4, rfl, .inr ⟨rfl, fun ⟨M, hM⟩ => hb8_3 (hMx M hM).1⟩⟩, hX⟩
        | exact ⟨⟨0, 0, none, 0, 0, 4, rfl, .inr ⟨rfl, fun ⟨M, hM⟩ => hPn hb8_7 ⟨N1, N2, rfl, rfl, by have := (hMx M hM).2; rw [← this]; exact hM.1⟩⟩⟩, hX⟩
        | (refine ⟨⟨0, 0, none, 0, 0, 4, rfl, .inr ⟨rfl, fun ⟨M, hM⟩ => ?_⟩⟩, hX⟩
           have e1 : N1 = s := by omega
           have e2 : N2 = z := by omega
           subst e1 e2
           have h9 := (hMx M hM).2
           rw [h9] at hM
           have h8 := hM.2
           simp [h8] at hc63)
        | (have e1 : N1 = s := by omega
           have e2 : N2 = z := by omega
           subst e1 e2
           have h8 : manB ⟨N1, N2, ix⟩ = xs := by simpa using hc63
           exact ⟨⟨_, _, _, _, _, 0, rfl, .inl ⟨rfl, ⟨N1, N2, ix⟩, ⟨hok, h8⟩, rfl, rfl, hI⟩⟩, hX⟩)
     ·try simp only [dA, dB, dC, dD, dE, dF, dG, Int.not_lt, Int.not_le] at hc63
      refine Ah (t_n (Ab (Aa ?_)))
      refine p1 (Bj ua99 rfl hB8 sz99) ?_
      refine Ax rfl (by conv => lhs; whnf) (by simp [Value.oneCell']) (by exact sz99) hB2 (by rfl) ?_
      intro w22 hP22
      have hX := hX.put hP22 (by omega)
      have hB2 := hP22.blk
      have hO := hO.mod (hP22.mod 0 (Nat.zero_le _)) (Nat.zero_le _) (by decide)
      have hB4 := hP22.keep hB4 (by omega)
      have hR := hR.mod (hP22.mod 0 (Nat.zero_le _)) (Nat.zero_le _) (by decide)
      have hB8 := hP22.keep hB8 (by omega)
      have hI := hI.mod (hP22.mod 0 (Nat.zero_le _)) (Nat.zero_le _) (by decide)
      refine p1 (A0 (by conv => lhs; whnf)) ?_
      refine Ac (t_n (Al ?_))
      refine end2c rfl ua99 rfl (by conv => lhs; whnf) hB2 sz99 ?_
      first
        | exact ⟨⟨0, 0, none, 0, 0, 4, rfl, .inr ⟨rfl, hno⟩⟩, hX⟩
        | exact ⟨⟨0, 0, none, 0, 0, 4, rfl, .inr ⟨rfl, fun ⟨M, hM⟩ => hb8_3 (hMx M hM).1⟩⟩, hX⟩
        | exact ⟨⟨0, 0, none, 0, 0, 4, rfl, .inr ⟨rfl, fun ⟨M, hM⟩ => hPn hb8_7 ⟨N1, N2, rfl, rfl, by have := (hMx M hM).2; rw [← this]; exact hM.1⟩⟩⟩, hX⟩
        | (refine ⟨⟨0, 0, none, 0, 0, 4, rfl, .inr ⟨rfl, fun ⟨M, hM⟩ => ?_⟩⟩, hX⟩
           have e1 : N1 = s := by omega
           have e2 : N2 = z := by omega
           subst e1 e2
           have h9 := (hMx M hM).2
           rw [h9] at hM
           have h8 := hM.2
           simp [h8] at hc63)
        | (have e1 : N1 = s := by omega
           have e2 : N2 = z := by omega
           subst e1 e2
           have h8 : manB ⟨N1, N2, ix⟩ = xs := by simpa using hc63
           exact ⟨⟨_, _, _, _, _, 0, rfl, .inl ⟨rfl, ⟨N1, N2, ix⟩, ⟨hok, h8⟩, rfl, rfl, hI⟩⟩, hX⟩)
end Go.Proofs.Eng
end
section
set_option maxRecDepth 100000
set_option maxHeartbeats 4000000
namespace Go.Proofs.Eng
open Go.RowKit
open Extern.Stop (cell)
theorem Oz (g:Nat) (S:Nat→Prop) (D:DS) (w:World) (hD:Dsk S w g D) (hok:DOk D) :
    Ret Tryz.prog 40 [.pointer (some ⟨g,0,none⟩)] w (fun v w'=>(∃ g2,v = .pointer (some ⟨g2,0,none⟩)∧Dsk (since w) w' g2 D)∧Ext w w'):=by
 obtain⟨r,μ,hB,hM,hSg,hSr,hF⟩:=hD.ex
 have hXs0:=Nat.le_refl w.heap.size
 have hX:=Ext.refl w
 refine eN 37 Tryz.func40 ?_
 refine Ab (Aa ?_)
 refine pA (Ac (t_n (Ab (Ab (Aa ?_)))))
 refine pM ?_
 refine p1 ((A9 u34 rfl rfl).cast (congrArg _ (decide_eq_false (by simp)))) ?_
 refine Ac (t_n ?_)
 refine c_f rfl ?_
 refine Ah (t_n (Ab (Aa ?_)))
 refine pM ?_
 refine p1 (Af rfl) ?_
 refine p1 (Bj ua102 rfl hB (by exact sz102)) ?_
 have hgl:=hB.lt
 have hrl:=hM.lt
 have hXs:=hX.size
 refine A7 zr102 ?_
 intro w1 g3 hN3
 have hE1:=hN3.ext
 have hX:=hX.ext hE1
 have hB:=hB.ext hE1
 have hM:=hM.ext hE1
 have hF:=hF.ext hE1
 have hB3:=hN3.blk
 have hg3:=hN3.g_eq
 have hnn:∀ j,j<w1.heap.size→True:=fun _ _=>trivial
 refine Ax rfl (by conv=>lhs;whnf) (by simp[Value.oneCell']) (by exact sz102) hB3 (by rfl) ?_
 intro w2 hP2
 have hX:=hX.put hP2 (by rw[hN3.g_eq];exact hXs)
 have hB:=hP2.keep hB (by omega)
 have hM:=hM.mod (hP2.mod 0 (Nat.zero_le _)) (Nat.zero_le _) (by decide)
 have hF:=hF.one hP2.one (by decide)
 have hB3:=hP2.blk
 refine Ac (t_n (Ab ?_))
 have hfew:=hok.few
 refine Aa ?_
 refine pM ?_
 refine p1 (Af rfl) ?_
 refine p1 (Ad Cg sz100 rfl) ?_
 refine p1 (Ae un100 rfl (hB.cell (rfl))) ?_
 refine p1 (Jn u100 hM hF hok.rise rfl) ?_
 have hXs:=hX.size
 refine Pw (κ:=ByteArray) (ν:=Raw) u100 rfl ?_
 intro w3 g16 hE3 hK16
 have hX:=hX.ext hE3
 have hB:=hB.ext hE3
 have hM:=hM.ext hE3
 have hF:=hF.ext hE3
 have hB3:=hB3.ext hE3
 have hM2:=hK16 kkStr vFile 0 w.heap.size (hXs)
 refine p1 (Ad Cg sz100 rfl) ?_
 skip
 refine Aq rfl (by conv=>lhs;whnf) rfl rfl sz100 hB3 (by simp) ?_
 intro w4 hP4
 have hX:=hX.put hP4 (by rw[hg3];exact hXs0)
 have hB:=hP4.keep hB (by omega)
 have hM:=hM.mod (hP4.mod 0 (Nat.zero_le _)) (Nat.zero_le _) (by decide)
 have hF:=hF.one hP4.one (by decide)
 have hB3:=hP4.blk
 try simp only[List.setIfInBounds_toArray,List.set_cons_zero,List.set_cons_succ] at hB3
 have hM2:=hM2.mod (hP4.mod 0 (Nat.zero_le _)) (Nat.zero_le _) (by decide)
 refine Ac (t_n (Ab (Ab (Aa ?_))))
 refine pM ?_
 refine p1 (Af rfl) ?_
 refine p1 (Ad Cg sz100 rfl) ?_
 refine p1 (Ae un100 rfl (hB.cell (rfl))) ?_
 have hM2p:=hM2
 have hXs:=hX.size
 refine Hi u100 rfl hM ?_
 intro w5 it22 hE5 hit22 hK22
 have hX:=hX.ext hE5
 have hB:=hB.ext hE5
 have hF:=hF.ext hE5
 have hB3:=hB3.ext hE5
 have hM2:=hM2.ext hE5
 have hR:=hK22 w.heap.size (hXs)
 have hgi:g16<it22:=by rw[hit22];exact hM2p.lt
 refine Ac (t_n (Am ?_))
 have hks:∀ vs:List ByteArray,vs.Nodup→(∀ z∈vs,μ z≠none)→vs.length≤D.l.length:=fun vs h1 h2=>by have:=Le h1 (ks:=D.l.map (·.1)) (fun z hz=>C0.1 (fun e=>h2 z hz ((hF.iff z).2 e)));rwa [List.length_map] at this
 have hroom:=hok.room
 have hmost:=hok.most
 refine Bi (ι:=List ByteArray×(ByteArray→Option Raw)) [4,5,23,24,25,26,27,28,29,30,31,32,33,34,35,36] (fun (vs,ν)=>[]) (fun (vs,ν) w'=>Ext w w'∧(Rg kkStr vFile 0 w.heap.size w' r it22 μ vs∧Mp kkStr vFile 0 w.heap.size w' g16 ν∧Cop (since w) w' ν vs D.l∧Fls S w' μ D.l∧Blk w' g #[.int .i64 (D.most:Int),.int .i64 ((usedL D.l:Nat):Int),.map (some r),.int .i64 (D.steps:Int),.int .i64 D.left,.bool D.done,.bool D.down] tDisk∧Blk w' g3 #[.int .i64 (D.most:Int),.int .i64 ((usedL D.l:Nat):Int),.map (some g16),.int .i64 (D.steps:Int),.int .i64 D.left,.bool D.done,.bool D.down] tDisk)) (fun (vs,ν)=>D.l.length - vs.length) (([],fun _=>none)) trivial ⟨hX,⟨hR,hM2,Cop.none _ _ _,hF,hB,hB3⟩⟩ ?_
 rintro⟨vs,ν⟩ GL0 w6 ⟨hE6,hR,hM2,hC,hF,hB,hB3⟩
 have hX:=hE6
 have hvl:=hks vs hR.nd hR.sub
 refine Ab (Aa ?_)
 refine Ld rfl hR (Nat.zero_le _) (by decide) (fun hdone23=>?_) (fun w7 a23 b23 v23 hna23 hmu23 hR hM7=>?_)
 ·skip
  refine p1 (Ao rfl rfl) ?_
  refine Ac (t_n (Ab ?_))
  refine c_f rfl ?_
  have hall:∀ z,z∈vs↔z∈D.l.map (·.1):=fun z=>⟨fun hz=>C0.1 fun e=>hR.sub z hz ((hF.iff z).2 e),fun hz=>hdone23 z fun e=>C0.2 hz ((hF.iff z).1 e)⟩
  refine Ba (t_e (t_e (Bq (t_n (Ab (Aa ?_))))))
  refine pA (Ac (t_n (Al ?_)))
  refine eR1 ?_
  exact⟨⟨g3,rfl,⟨g16,ν,hB3,hM2.lower (Nat.zero_le _),by show w.heap.size≤g3;omega,hM2.low,hC.fls hall⟩⟩,hX⟩
 skip
 have hX:=hX.mod hM7 (Nat.le_refl _)
 have hM2:=hM2.mod hM7 (Nat.zero_le _) (by decide)
 have hC:=hC.modT hM7 (by decide)
 have hF:=hF.modT hM7 (by decide)
 have hB:=hB.mod hM7 (by decide)
 have hB3:=hB3.mod hM7 (by decide)
 have hvl2:=hks _ hR.nd hR.sub
 simp only[List.length_append,List.length_cons,List.length_nil] at hvl2
 refine p1 (Ao rfl rfl) ?_
 refine Ac (t_n (Ab ?_))
 refine c_t rfl ?_
 refine Ah (t_n (Am (Ab (Aa ?_))))
 obtain⟨⟨p0,n0,c0,s0⟩,v25,hb25,hv25,hen25⟩:=hR.entry
 have hv25:v25=rawV (p0,n0,c0,s0):=hv25
 subst hv25
 obtain⟨f,hf1,hf2,hF0⟩:=hF.yes _ _ hb25
 simp only at hf2 hF0
 have hgl2:=Fr hok a23
 have hgf:getF D a23=f:=by unfold getF ascF;rw[hf1];rfl
 rw[hgf] at hgl2
 have hgl2:=hgl2.1
 have hlen0:=hF0.len
 refine p1 ((hen25 rfl).cast (rfl:_=Value.tuple #[.string a23,.agg #[.slice p0 n0 c0,.int .i64 (s0:Int)]])) ?_
 refine p1 (Ao rfl rfl) ?_
 refine p1 (Ao rfl rfl) ?_
 have hXs7:=hX.size
 refine A7 zr113 ?_
 intro w8 g5 hN5
 have hE8:=hN5.ext
 have hX:=hX.ext hE8
 have hM2:=hM2.ext hE8
 have hC:=hC.ext hE8
 have hF:=hF.ext hE8
 have hB:=hB.ext hE8
 have hB3:=hB3.ext hE8
 have hR:=hR.ext hE8
 have hB5:=hN5.blk
 refine pA ?_
 refine Ax rfl (by conv=>lhs;whnf) (by simp[Value.oneCell']) (by exact sz113) hB5 (by rfl) ?_
 intro w9 hP9
 have hX:=hX.put hP9 (by rw[hN5.g_eq];exact hXs7)
 have hM2:=hM2.mod (hP9.mod 0 (Nat.zero_le _)) (Nat.zero_le _) (by decide)
 have hC:=hC.one hP9.one (by decide)
 have hF:=hF.one hP9.one (by decide)
 have hB:=hB.one hP9.one (by decide)
 have hB3:=hB3.one hP9.one (by decide)
 have hR:=hR.mod (hP9.mod 0 (Nat.zero_le _)) (Nat.zero_le _) (by decide)
 have hB5:=hP9.blk
 refine Ac (t_n ?_)
 refine Bx (fun w1 w2=>Mod w.heap.size tMap w1 w2) mixed ?_
 intro w10 hE10
 have hX:=hX.ext hE10
 have hM2:=hM2.ext hE10
 have hC:=hC.ext hE10
 have hF:=hF.ext hE10
 have hB:=hB.ext hE10
 have hB3:=hB3.ext hE10
 have hR:=hR.ext hE10
 have hB5:=hB5.ext hE10
 have hSr8:(fun w1 w2=>Mod w.heap.size tMap w1 w2) w10 w10:=Mod.refl _ _ _
 refine hT 0 rfl hSr8 (fun wS hSS=>by(exact(Ad Cg sz100 rfl))) ?_
 refine hT 1 rfl hSr8 (fun wS hSS=>by(have hB3:=hB3.mod hSS (by decide);have hB5:=hB5.mod hSS (by decide);exact(Ae un100 rfl (hB3.cell (rfl))))) ?_
 refine hT 2 rfl hSr8 (fun wS hSS=>by(exact(Ai (by conv=>lhs;whnf)))) ?_
 refine hT 3 rfl hSr8 (fun wS hSS=>by(exact(Ad Fe sz23 rfl))) ?_
 refine hT 4 rfl hSr8 (fun wS hSS=>by(have hB3:=hB3.mod hSS (by decide);have hB5:=hB5.mod hSS (by decide);exact(Ae un23 rfl (hB5.cell (rfl))))) ?_
 refine hT 6 rfl hSr8 (fun wS hSS=>by(exact(Ad Wu sz3 rfl))) ?_
 refine hT 7 rfl hSr8 (fun wS hSS=>by(have hB3:=hB3.mod hSS (by decide);have hB5:=hB5.mod hSS (by decide);exact(Ae un3 rfl (hB5.cell (rfl))))) ?_
 refine h1L 5 (fun Q5 hQ5=>?_)
 have hF1:=(hF.yes _ _ hb25)
 obtain⟨f2,hf3,_,hF1⟩:=hF1
 rw[hf1] at hf3
 injection hf3 with hf3
 subst hf3
 simp only at hF1
 have hXs8:=hX.size
 have hCp:=hC
 refine Ag Tryz.func58 fn58 fb58 (B4 _ _ _ _ _ _ _ hF1.sl (by omega)) rfl ?_
 rintro v11 w11 ⟨⟨q33,c33,rfl,hO⟩,hE11⟩
 have hX:=hX.ext hE11
 have hM2:=hM2.ext hE11
 have hC:=hC.ext hE11
 have hF:=hF.ext hE11
 have hB:=hB.ext hE11
 have hB3:=hB3.ext hE11
 have hR:=hR.ext hE11
 have hSr8:=hSr8.ext hE11
 have hap:=hCp.apart (FB.ofOwn (S:=fun j=>_≤j) hO (fun _ _ h=>h)) (fun _ h=>h)
 have hK:=FB.ofOwn (S:=since w) hO (fun _ _ h=>Nat.le_trans hXs8 h)
 refine An hQ5 ⟨hSr8,?_⟩
 refine hT 8 rfl hSr8 (fun wS hSS=>by(exact(Na pl113 (by conv=>lhs;whnf) (by conv=>lhs;whnf) rfl rfl))) ?_
 refine h1L 9 (fun Q9 hQ9=>?_)
 have hMt12:=hM2.tyOf
 refine D5 (a:=a23) (b:=(q33,n0,c33,s0)) u100 (Cc u9) rfl rfl rfl hM2 rfl (Nat.zero_le _) (by decide) ?_
 intro w12 hM2 hMm12 hne12
 have hO12:=One.ofMod hMm12 hMt12 hne12
 have hX:=hX.mod hMm12 (Nat.le_refl _)
 have hSr8:=hSr8.trans hMm12
 have hB:=hB.one hO12 (by decide)
 have hB3:=hB3.one hO12 (by decide)
 have hF:=hF.one hO12 (by decide)
 have hlow:=hM2.low
 have hR:=hR.keep (fun hl=>hO12.old r hl (by omega)) (fun hl=>hO12.old it22 hl (by omega)) (fun k hk ho=>ho.elim (fun h=>by omega) fun ⟨u,hu,_⟩=>by simp[vFile] at hu)
 have hC:=(hC.one hO12 (by decide)).put (x:=(q33,n0,c33,s0)) hna23 hf1 hf2 (hK.one hO12 (by decide)) hap
 skip
 refine An hQ9 ⟨hSr8,?_⟩
 refine Bo (by kernel_rfl) ?_
 refine b_n ?_
 refine t_n (At.mk ((vs++[a23],mset ν a23 (some (q33,n0,c33,s0)))) (by repeat (first | exact Agr.refl _ _ | exact Agr.hav _ _ _ | refine Agr.upd rfl ?_ | refine Agr.updR rfl ?_ | refine Agr.updL ?_ _ rfl | refine Agr.hav' rfl ?_)) trivial ?_)
 exact⟨⟨hX,⟨hR,hM2,hC,hF,hB,hB3⟩⟩,by show D.l.length - (vs++[a23]).length<D.l.length - vs.length;simp only[List.length_append,List.length_cons,List.length_nil];omega⟩
end Go.Proofs.Eng
end
section
set_option maxRecDepth 100000
set_option maxHeartbeats 4000000
namespace Go.Proofs.Eng
open Go.RowKit
open Extern.Stop (cell)
theorem fb100:Tryz.f100.body.isNone=false:=by kernel_rfl
theorem fb101:Tryz.f101.body.isNone=false:=by kernel_rfl
theorem fb102:Tryz.f102.body.isNone=false:=by kernel_rfl
theorem fb18:Tryz.f18.body.isNone=false:=by kernel_rfl
theorem fb19:Tryz.f19.body.isNone=false:=by kernel_rfl
theorem fb20:Tryz.f20.body.isNone=false:=by kernel_rfl
theorem fb45:Tryz.f45.body.isNone=false:=by kernel_rfl
theorem fb98:Tryz.f98.body.isNone=false:=by kernel_rfl
theorem fb99:Tryz.f99.body.isNone=false:=by kernel_rfl
theorem fn100 : ngB Tryz.f100 = false := by kernel_rfl
theorem fn101 : ngB Tryz.f101 = false := by kernel_rfl
theorem fn102 : ngB Tryz.f102 = false := by kernel_rfl
theorem fn18 : ngB Tryz.f18 = false := by kernel_rfl
theorem fn19 : ngB Tryz.f19 = false := by kernel_rfl
theorem fn20 : ngB Tryz.f20 = false := by kernel_rfl
theorem fn45 : ngB Tryz.f45 = false := by kernel_rfl
theorem fn98 : ngB Tryz.f98 = false := by kernel_rfl
theorem fn99 : ngB Tryz.f99 = false := by kernel_rfl
theorem inf95:(Tryz.prog.info? 95).map (fun i=>(i.zero,i.size,i.bytes))=some (some (.nilFunc),1,8):=by kernel_rfl
theorem sz95:(Tryz.prog.info? 95).map (·.size)=some 1:=by kernel_rfl
theorem u149:Tryz.prog.underlying 149=some (.slice 95):=by kernel_rfl
theorem un95:(Tryz.prog.underlying 95).map TypeDesc.isRow=some false:=by kernel_rfl
theorem zr23:(Tryz.prog.info? 23).map (·.zero)=some (some (.slice none 0 0)):=by kernel_rfl
end Go.Proofs.Eng
end
section
set_option maxRecDepth 100000
set_option maxHeartbeats 4000000
namespace Go.Proofs.Eng
open Go.RowKit
open Extern.Stop (cell)
theorem Vs (fs:List Clo) (I:Nat→World→Prop) (Q:Int→World→Prop) (B:Nat) (p:Option Addr) (n c:Nat) (w:World) (h0:I 0 w) (hl:∀ i w',I i w'→Sl kFn 95 B w' p n c fs)
    (hfs : ∀ i, i < n → ∃ fn, Tryz.prog.funcs[(fs.getD i default).1]? = some fn ∧ (fn.name == "runtime.NumGoroutine") = false ∧ fn.body.isNone = false ∧ ∀ w1, I i w1 → Ret Tryz.prog (fs.getD i default).1 (fs.getD i default).2 w1 (fun v w' => ∃ e : Int, v = .int .i64 e ∧ (e = 0 → I (i + 1) w') ∧ (e ≠ 0 → Q e w'))) :
    Ret Tryz.prog 45 [.slice p n c] w (fun v w'=>∃ e:Int,v = .int .i64 e∧(e=0→I n w')∧(e≠0→Q e w')):=by
 have hX:=h0
 refine eN 18 Tryz.func45 ?_
 refine Ab (Aa ?_)
 refine pA (Ac (t_n (Ab (Ab (Aa ?_)))))
 refine pM ?_
 refine p1 (Ak u149 rfl) ?_
 refine pM (Ac (t_n (Am ?_)))
 have hlen:=(hl 0 w h0).len
 have hcap:=(hl 0 w h0).cap
 have hfit:=(hl 0 w h0).fit
 refine Bi (ι:=Nat) [2,4,5,8,9,10,11,12,13,14,15,16,17] (fun k=>[(8,.int .i64 (k:Int))]) (fun k w'=>I k w'∧(k≤n)) (fun k=>n - k) (0) ⟨rfl,trivial⟩ ⟨hX,by omega⟩ ?_
 rintro k GL0 w1 ⟨hE1,hk⟩
 have hX:=hE1
 refine Ab (Aa ?_)
 refine p1 (Bv rfl rfl) ?_
 refine Ac (t_n (Ab ?_))
 refine As rfl (fun hc9=>?_) (fun hc9=>?_)
 ·refine Ah (t_n (Ab (Am (Ab (Aa ?_)))))
  refine p1 (Dc u149 sz95 rfl rfl ((hl _ _ hX).adr Ab8 (by omega)) (by omega)) ?_
  refine p1 (Ae un95 rfl ((hl _ _ hX).fnAt _ (by omega))) ?_
  refine pA (Ac (t_n (Ab (Aa ?_))))
  refine pM ?_
  obtain⟨fn,hf,hnm,hbd,hcall⟩:=hfs k (by omega)
  refine I7 (fs:=[]) (cs:=(fs.getD k default).2) rfl hf hnm hbd rfl rfl (hcall _ hX) ?_
  rintro v2 w2 ⟨e,rfl,hI1,hQ1⟩
  refine pA (Ac (t_n (Ab (Aa ?_))))
  refine pM ?_
  refine p1 (A4 rfl rfl) ?_
  refine Ac (t_n ?_)
  refine As rfl (fun hc15=>?_) (fun hc15=>?_)
  ·refine Ab (Aa ?_)
   refine pM (pA (Ac (t_n (Al (b_r (t_r (t_r (b_r (t_r ?_)))))))))
   refine eR1 ?_
   exact⟨e,rfl,fun h=>absurd h hc15,hQ1⟩
  have hX:=hI1 (by omega)
  refine Ah (b_n (t_n (Aa ?_)))
  refine p1 (A1 rfl rfl (Aj (by omega) (by omega))) ?_
  refine pM (Ac ?_)
  refine t_n (aK (k+1) ⟨rfl,trivial⟩ ?_)
  exact⟨⟨hX,by omega⟩,by((show _<_);omega)⟩
 refine Ba (t_e (t_e (Bq (t_n (Ab (Aa ?_))))))
 refine pA (Ac (t_n (Al ?_)))
 refine eR1 ?_
 exact⟨0,rfl,fun _=>by rw[show n=k from by omega];exact hX,fun h=>absurd rfl h⟩
theorem grow2 {S:Nat→Prop} {w w1 w':World} (h1:w.heap.size≤w1.heap.size) (h2:w1.heap.size≤w'.heap.size):∀ k,k<w'.heap.size→grow (grow S w w1) w1 w' k→grow S w w' k:=fun k hk hg=>by
  rcases hg with (hs | ⟨a,b⟩) | ⟨a,b⟩
  · exact .inl hs
  · exact .inr ⟨a,by omega⟩
  · exact .inr ⟨by omega,b⟩
theorem K3 (fs:List Clo) (ops:List (DS→DS×Int)) (κ:Nat→Nat) (gd:Nat) (S:Nat→Prop) (D:DS) (p:Option Addr) (n c:Nat) (w:World) (hD:Dsk S w gd D) (hg:DG D (κ 0)) (hl:Sl kFn 95 0 w p n c fs) (ho:ops.length=n)
    (hfs : ∀ i, i < n → ∃ fn, Tryz.prog.funcs[(fs.getD i default).1]? = some fn ∧ (fn.name == "runtime.NumGoroutine") = false ∧ fn.body.isNone = false ∧ ∀ Di w1, Dsk (grow S w w1) w1 gd Di → ModS S ED w w1 → DG Di (κ i) →
      Ret Tryz.prog (fs.getD i default).1 (fs.getD i default).2 w1 (fun v w'=>v = .int .i64 ((ops.getD i fun D=>(D,0)) Di).2∧Dsk (grow (grow S w w1) w1 w') w' gd ((ops.getD i fun D=>(D,0)) Di).1∧ModS (grow S w w1) ED w1 w'∧DG ((ops.getD i fun D=>(D,0)) Di).1 (κ (i+1)))) :
    Ret Tryz.prog 45 [.slice p n c] w (fun v w'=>v = .int .i64 (runD ops D).2∧Dsk (grow S w w') w' gd (runD ops D).1∧ModS S ED w w'):=by
  refine⟨Calls.mono (Vs fs (fun i w'=>∃ Di,Dsk (grow S w w') w' gd Di∧ModS S ED w w'∧DG Di (κ i)∧runD ops D=runD (ops.drop i) Di) (fun e w'=>e=(runD ops D).2∧Dsk (grow S w w') w' gd (runD ops D).1∧ModS S ED w w') 0 p n c w
    ⟨D,hD.grown w,.refl _ _ _,hg,rfl⟩ (fun i w' ⟨Di,_,m,_⟩=>hl.modS m (fun _ _=>Nat.zero_le _) (by decide)) fun i hi=>?_).out ?_⟩
  · obtain ⟨fn, h1, h2, h3, h4⟩ := hfs i hi
    refine⟨fn,h1,h2,h3,fun w1 ⟨Di,hDi,m,hgi,hr⟩=>⟨Calls.mono (h4 Di w1 hDi m hgi).out ?_⟩⟩
    rintro e w' ⟨v,rfl,rfl,hD',m',hg'⟩
    have hd:=Xl (ops:=ops) (i:=i) (by omega) Di
    have hD2:Dsk (grow S w w') w' gd ((ops.getD i fun D=>(D,0)) Di).1:=hD'.mono (grow2 m.size m'.size)
    refine⟨_,rfl,_,rfl,fun h0=>⟨_,hD2,m.step m',hg',?_⟩,fun h0=>?_⟩
    · rw[hr,hd,andD,if_pos h0]
    · have : runD ops D = (ops.getD i fun D => (D, 0)) Di := by rw [hr, hd, andD, if_neg h0]
      rw[this];exact⟨rfl,hD2,m.step m'⟩
  · rintro e w' ⟨v, rfl, e', rfl, h1, h2⟩
    refine⟨_,rfl,?_⟩
    by_cases h0:e'=0
    · obtain ⟨Di, a, b, _, hr⟩ := h1 h0
      have hz:ops.drop n=[]:=List.drop_eq_nil_of_le (by omega)
      rw[hz] at hr
      rw[hr,h0];exact⟨rfl,a,b⟩
    · obtain ⟨a, b, c⟩ := h2 h0
      rw[a];exact⟨rfl,b,c⟩
theorem Abd (gd:Nat) (S:Nat→Prop) (D:DS) (w:World) (hD:Dsk S w gd D) (hok:DOk D) (hst:D.steps<4611686018427387904) (hle:D.left≤9223372036854775807) (hnm:∀ x∈D.l,Ay x.1=true) (b0:Nat) (hb0:Blk w b0 #[.pointer (some ⟨gd,0,none⟩)] 34) :
    Ret Tryz.prog 98 [.pointer (some ⟨b0,0,none⟩)] w (fun v w'=>v = .int .i64 (Bh D nNew).2∧Dsk (grow S w w') w' gd (Bh D nNew).1∧ModS S ED w w'):=by
 have hX:=Ext.refl w
 refine eN 4 Tryz.func98 ?_
 refine Ab (Aa ?_)
 refine pA (Ac (t_n (Ab (Aa ?_))))
 refine p1 (Ae un34 rfl (hb0.cell (rfl))) ?_
 have hXs:=hX.size
 refine Ag Tryz.func18 fn18 fb18 (Ij gd S D _ hD hok hst hle nNew (by decide)) rfl ?_
 rintro v1 w1 ⟨rfl,hD2,hM2⟩
 refine pA (Ac (t_n (Al ?_)))
 refine eR1 ?_
 exact⟨rfl,hD2.wide hXs,(ModS.ofExt hX).trans hM2 (fun _ _ h=>h)⟩
theorem Abb (gd:Nat) (S:Nat→Prop) (D:DS) (w:World) (hD:Dsk S w gd D) (hok:DOk D) (hst:D.steps<4611686018427387904) (hle:D.left≤9223372036854775807) (hnm:∀ x∈D.l,Ay x.1=true) (b0:Nat) (hb0:Blk w b0 #[.pointer (some ⟨gd,0,none⟩)] 34) :
    Ret Tryz.prog 100 [.pointer (some ⟨b0,0,none⟩)] w (fun v w'=>v = .int .i64 (syncD D nNew).2∧Dsk (grow S w w') w' gd (syncD D nNew).1∧ModS S ED w w'):=by
 have hX:=Ext.refl w
 refine eN 4 Tryz.func100 ?_
 refine Ab (Aa ?_)
 refine pA (Ac (t_n (Ab (Aa ?_))))
 refine p1 (Ae un34 rfl (hb0.cell (rfl))) ?_
 have hXs:=hX.size
 refine Ag Tryz.func20 fn20 fb20 (Lv gd S D _ hD hok hst hle nNew (by decide)) rfl ?_
 rintro v1 w1 ⟨rfl,hD2,hM2⟩
 refine pA (Ac (t_n (Al ?_)))
 refine eR1 ?_
 exact⟨rfl,hD2.wide hXs,(ModS.ofExt hX).trans hM2 (fun _ _ h=>h)⟩
theorem Aba (gd:Nat) (S:Nat→Prop) (D:DS) (w:World) (hD:Dsk S w gd D) (hok:DOk D) (hst:D.steps<4611686018427387904) (hle:D.left≤9223372036854775807) (hnm:∀ x∈D.l,Ay x.1=true) (b0:Nat) (hb0:Blk w b0 #[.pointer (some ⟨gd,0,none⟩)] 34) :
    Ret Tryz.prog 101 [.pointer (some ⟨b0,0,none⟩)] w (fun v w'=>v = .int .i64 (Cf D nNew nMan).2∧Dsk (grow S w w') w' gd (Cf D nNew nMan).1∧ModS S ED w w'):=by
 have hX:=Ext.refl w
 refine eN 4 Tryz.func101 ?_
 refine Ab (Aa ?_)
 refine pA (Ac (t_n (Ab (Aa ?_))))
 refine p1 (Ae un34 rfl (hb0.cell (rfl))) ?_
 have hXs:=hX.size
 refine Ag Tryz.func102 fn102 fb102 (T8 gd S D _ hD hok hst hle nNew nMan (by decide) (by decide)) rfl ?_
 rintro v1 w1 ⟨rfl,hD2,hM2⟩
 refine pA (Ac (t_n (Al ?_)))
 refine eR1 ?_
 exact⟨rfl,hD2.wide hXs,(ModS.ofExt hX).trans hM2 (fun _ _ h=>h)⟩
theorem Abc (gd:Nat) (S:Nat→Prop) (D:DS) (w:World) (hD:Dsk S w gd D) (hok:DOk D) (hst:D.steps<4611686018427387904) (hle:D.left≤9223372036854775807) (hnm:∀ x∈D.l,Ay x.1=true) (b0 b1 e B:Nat) (p:Option Addr) (n c:Nat) (ys:By) (hb0:Blk w b0 #[.pointer (some ⟨gd,0,none⟩)] 34) (hb1:Blk w b1 #[.slice p n c] 23) (hl:Sl kByte e B w p n c ys) :
    Ret Tryz.prog 99 [.pointer (some ⟨b0,0,none⟩),.pointer (some ⟨b1,0,none⟩)] w (fun v w'=>v = .int .i64 (A3 D nNew ys).2∧Dsk (grow S w w') w' gd (A3 D nNew ys).1∧ModS S ED w w'):=by
 have hX:=Ext.refl w
 refine eN 6 Tryz.func99 ?_
 refine Ab (Aa ?_)
 refine pA (Ac (t_n (Ab (Aa ?_))))
 refine p1 (Ae un34 rfl (hb0.cell (rfl))) ?_
 refine p1 (Ae un23 rfl (hb1.cell (rfl))) ?_
 have hXs:=hX.size
 refine Ag Tryz.func19 fn19 fb19 (Ik gd S D _ hD hok hst hle nNew (by decide) e B _ _ _ _ hl) rfl ?_
 rintro v1 w1 ⟨rfl,hD2,hM2⟩
 refine pA (Ac (t_n (Al ?_)))
 refine eR1 ?_
 exact⟨rfl,hD2.wide hXs,(ModS.ofExt hX).trans hM2 (fun _ _ h=>h)⟩
theorem Ret.and {P:Program} {g:FuncId} {as_:List Value} {w:World} {R:Value→World→Prop} {Q:Prop} (h:Ret P g as_ w R) (hq:Q):Ret P g as_ w (fun v w'=>R v w'∧Q) :=
  ⟨Calls.mono h.out fun e w' ⟨v,h1,h2⟩=>⟨v,h1,h2,hq⟩⟩
theorem Ret.imp {P:Program} {g:FuncId} {as_:List Value} {w:World} {R R':Value→World→Prop} (h:Ret P g as_ w R) (hq:∀ v w',R v w'→R' v w'):Ret P g as_ w R' :=
  ⟨Calls.mono h.out fun e w' ⟨v,h1,h2⟩=>⟨v,h1,hq _ _ h2⟩⟩
theorem Ret.dg {P:Program} {g:FuncId} {as_:List Value} {w:World} {A:Value→World→Prop} {B C:World→Prop} {Q:Prop} (h:Ret P g as_ w (fun v w'=>A v w'∧B w'∧C w')) (hq:Q):Ret P g as_ w (fun v w'=>A v w'∧B w'∧C w'∧Q) :=
  h.imp fun _ _ ⟨a,b,c⟩=>⟨a,b,c,hq⟩
theorem Fu (gd:Nat) (S:Nat→Prop) (D:DS) (w:World) (hD:Dsk S w gd D) (hok:DOk D) (hst:D.steps<4611686018427380000) (hle:D.left≤9223372036854775807) (hnm:∀ x∈D.l,Ay x.1=true) (s z:Nat) (xs:By) (e B:Nat) (p:Option Addr) (n c:Nat) (hl:Sl kByte 5 B w p n c xs) (hq:Qt w) :
    Ret Tryz.prog 51 [.pointer (some ⟨gd,0,none⟩),.agg #[.int .i64 (s:Int),.int .i64 (z:Int),.slice p n c]] w (fun v w'=>v = .int .i64 (writeM D ⟨s,z,xs⟩).2∧Dsk (grow S w w') w' gd (writeM D ⟨s,z,xs⟩).1∧ModS S ED w w'):=by
 have hD:=hD.narrow (Nat.le_refl _)
 have hX:=Ext.refl w
 refine eN 21 Tryz.func51 ?_
 refine Ab (Aa ?_)
 have hz2:=hX.size
 refine Ci (by conv=>lhs;whnf) rfl ?_
 intro w1 g2 hN2
 have hE1:=hN2.ext
 have hX:=hX.ext hE1
 have hD:=hD.ext hE1
 have hB2:=hN2.blk
 have hq2:=hN2.g_eq
 have hz3:=hX.size
 have hl3_2:=hB2.lt
 refine Eh (by conv=>lhs;whnf) ?_
 intro w2 g3 hN3
 have hE2:=hN3.ext
 have hX:=hX.ext hE2
 have hD:=hD.ext hE2
 have hB2:=hB2.ext hE2
 have hB3:=hN3.blk
 have hq3:=hN3.g_eq
 refine pA (Ac (t_n (Ab (Aa ?_))))
 refine p1 (Bj ua99 rfl hB3 (by exact sz99)) ?_
 have hXw:=hX.size
 refine Ag Tryz.func97 fn97 fb97 (Kj (s:Int) (z:Int) xs _ _ _ _ _ (hl.ext hX) (hq.ext hX)) rfl ?_
 rintro v3 w3 ⟨⟨qp,mp,cp,ep,rfl,hpe,hP⟩,hE3⟩
 have hX:=hX.ext hE3
 have hD:=hD.ext hE3
 have hB2:=hB2.ext hE3
 have hB3:=hB3.ext hE3
 have hPx:∀ w2,Ext w3 w2→ep=0→Own kByte 5 0 w.heap.size w2 qp mp cp (manB ⟨s,z,xs⟩):=fun w2 hx he=>by
   obtain⟨_,s2,z2,hs2,hz2,_,hOw⟩:=hP.resolve_right (fun h=>h.1 he)
   have e1:s2=s:=by omega
   have e2:z2=z:=by omega
   subst e1 e2
   exact(hOw.lower hXw).ext hx
 have hG:=Ext.refl w3
 refine pM ?_
 refine p1 (Ao rfl rfl) ?_
 refine p1 (Ao rfl rfl) ?_
 have hz5:=hX.size
 have hl5_2:=hB2.lt
 have hl5_3:=hB3.lt
 refine A7 zr23 ?_
 intro w4 g5 hN5
 have hE4:=hN5.ext
 have hX:=hX.ext hE4
 have hD:=hD.ext hE4
 have hB2:=hB2.ext hE4
 have hB3:=hB3.ext hE4
 have hG:=hG.ext hE4
 have hB5:=hN5.blk
 have hq5:=hN5.g_eq
 refine Aq rfl (by conv=>lhs;whnf) rfl rfl sz23 hB5 (by exact Nat.zero_lt_one) ?_
 intro w5 hP5
 have hX:=hX.put hP5 (by omega)
 have hD:=hD.modT (hP5.mod 0 (Nat.zero_le _)) (by decide)
 have hB2:=hP5.keep hB2 (by omega)
 have hB3:=hP5.keep hB3 (by omega)
 have hG:=hG.put hP5 (by omega)
 have hB5:=hP5.blk
 try simp only[List.setIfInBounds_toArray,List.set_cons_zero,List.set_cons_succ] at hB5
 refine pA (Ac (t_n (Ab (Ab (Aa ?_)))))
 refine pM ?_
 refine p1 (A4 rfl rfl) ?_
 refine Ac (t_n ?_)
 refine As rfl (fun hc13=>?_) (fun hc13=>?_)
 ·have hpw:writeM D ⟨s,z,xs⟩=(D,errM s z xs):=by unfold writeM;rw[if_neg (by rw[← hpe];exact hc13)]
  refine Ab (Aa ?_)
  refine pM (pA (Ac (t_n (Al (t_r ?_)))))
  refine eR1 ?_
  exact⟨by rw[hpw,hpe],by rw[hpw];exact hD.mono (fun k _ h => .inl h.1),ModS.ofExt hX⟩
 have he0:ep=0:=by omega
 have hpw:writeM D ⟨s,z,xs⟩=writeD D (manB ⟨s,z,xs⟩):=by unfold writeM;rw[if_pos (by rw[← hpe];exact he0)]
 refine Ah (t_n (Ab (Aa ?_)))
 refine p1 (Bc (fs:=[]) (cs:=[.pointer (some ⟨g2,0,none⟩)]) rfl rfl) ?_
 refine p1 (Bc (fs:=[]) (cs:=[.pointer (some ⟨g2,0,none⟩),.pointer (some ⟨g5,0,none⟩)]) rfl rfl) ?_
 refine p1 (Bc (fs:=[]) (cs:=[.pointer (some ⟨g2,0,none⟩)]) rfl rfl) ?_
 refine p1 (Bc (fs:=[]) (cs:=[.pointer (some ⟨g2,0,none⟩)]) rfl rfl) ?_
 refine Au u149 inf95 rfl (by decide) (fun base hb=>Gs [fcv (98,[.pointer (some ⟨g2,0,none⟩)]),fcv (99,[.pointer (some ⟨g2,0,none⟩),.pointer (some ⟨g5,0,none⟩)]),fcv (100,[.pointer (some ⟨g2,0,none⟩)]),fcv (101,[.pointer (some ⟨g2,0,none⟩)])] (by intro v hv';simp only[List.mem_cons,List.not_mem_nil,or_false] at hv';rcases hv' with rfl | rfl | rfl | rfl <;> rfl) base hb) ?_
 intro w6 g19 hN19
 have hE6:=hN19.ext
 have hX:=hX.ext hE6
 have hD:=hD.ext hE6
 have hB2:=hB2.ext hE6
 have hG:=hG.ext hE6
 have hB5:=hB5.ext hE6
 have hS19:Sl kFn 95 0 w6 (some ⟨g19,0,none⟩) 4 4 [(98,[.pointer (some ⟨g2,0,none⟩)]),(99,[.pointer (some ⟨g2,0,none⟩),.pointer (some ⟨g5,0,none⟩)]),(100,[.pointer (some ⟨g2,0,none⟩)]),(101,[.pointer (some ⟨g2,0,none⟩)])]:=(Cu (B0:=0) ([(98,[.pointer (some ⟨g2,0,none⟩)]),(99,[.pointer (some ⟨g2,0,none⟩),.pointer (some ⟨g5,0,none⟩)]),(100,[.pointer (some ⟨g2,0,none⟩)]),(101,[.pointer (some ⟨g2,0,none⟩)])]:List Clo) hN19 (Nat.zero_le _) (by simp)).sl
 have hOw:=hPx _ hG he0
 have hOu:=Wg (S:=(fun j=>S j∧j<w.heap.size)) hOw (fun j h=>h.2)
 have hXs:=hX.size
 refine Ag Tryz.func45 fn45 fb45 (K3 [(98,[.pointer (some ⟨g2,0,none⟩)]),(99,[.pointer (some ⟨g2,0,none⟩),.pointer (some ⟨g5,0,none⟩)]),(100,[.pointer (some ⟨g2,0,none⟩)]),(101,[.pointer (some ⟨g2,0,none⟩)])] [fun D=>Bh D nNew,fun D=>A3 D nNew (manB ⟨s,z,xs⟩),fun D=>syncD D nNew,fun D=>Cf D nNew nMan] (fun i=>D.steps+i) gd (fun j=>S j∧j<w.heap.size) D _ _ _ _ hD (⟨hok,Nat.le_refl _,hle,hnm⟩) hS19 rfl (fun i hi=>?_)) rfl ?_
 · rcases i with _ | _ | _ | _ | i
   · exact⟨Tryz.f98,Tryz.func98,fn98,fb98,fun Di w1 hDi m hgi=>(Abd gd _ Di w1 hDi hgi.ok (by have:=hgi.steps;(try dsimp only at this);omega) hgi.left hgi.names g2 (hB2.modS m (.inr (by decide)))).dg (hgi.create _)⟩
   · exact⟨Tryz.f99,Tryz.func99,fn99,fb99,fun Di w1 hDi m hgi=>(Abc gd _ Di w1 hDi hgi.ok (by have:=hgi.steps;(try dsimp only at this);omega) hgi.left hgi.names g2 g5 _ _ _ _ _ _ (hB2.modS m (.inr (by decide))) (hB5.modS m (.inr (by decide))) (hOu.modS m).sl).dg (hgi.append _ _)⟩
   · exact⟨Tryz.f100,Tryz.func100,fn100,fb100,fun Di w1 hDi m hgi=>(Abb gd _ Di w1 hDi hgi.ok (by have:=hgi.steps;(try dsimp only at this);omega) hgi.left hgi.names g2 (hB2.modS m (.inr (by decide)))).dg (hgi.sync _)⟩
   · exact⟨Tryz.f101,Tryz.func101,fn101,fb101,fun Di w1 hDi m hgi=>(Aba gd _ Di w1 hDi hgi.ok (by have:=hgi.steps;(try dsimp only at this);omega) hgi.left hgi.names g2 (hB2.modS m (.inr (by decide)))).dg (hgi.rename _ _)⟩
   · exact absurd hi (by omega)
 rintro v7 w7 ⟨rfl,hD2,hM2⟩
 refine pA (Ac (t_n (Al ?_)))
 refine eR1 ?_
 exact⟨by rw[hpw,Nd],by rw[hpw,Nd];exact hD2.mono (fun k _ hg=>hg.imp (fun h=>h.1) (fun ⟨a,b⟩=>⟨by omega,b⟩)),((ModS.ofExt hX).trans hM2 (fun _ _ h=>h)).mono (fun j _ h=>h.1)⟩
end Go.Proofs.Eng
end
