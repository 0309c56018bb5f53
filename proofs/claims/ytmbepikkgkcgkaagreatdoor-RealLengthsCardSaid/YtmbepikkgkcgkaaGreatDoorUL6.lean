/- Merged and shortened by a program: part 6. -/
import Derived.Test.YtmbepikkgkcgkaaGreatDoorUL5
set_option maxRecDepth 100000
set_option maxHeartbeats 8000000
namespace Go.Proofs.YtmbepikkgkcgkaaGreatDoor
open Go.RowKit
variable {g r : Prop}
open Go.Proofs.Tryz
theorem BC(k:r)(h:Hid r→g:=by intro h;refine S_ ?_;refine Ac ?_;refine AA (Ah rfl) rfl ?_;exact h.out):g:=h ⟨k⟩
theorem aA(k:r)(h:Hid r→g:=by intro h;refine AA (R2 rfl rfl) rfl ?_;exact h.out):g:=h ⟨k⟩
theorem Lk(k:r)(h:Hid r→g:=by intro h;refine AA (Ah rfl) rfl ?_;refine NK Ci rfl ?_;refine NK Ci rfl ?_;exact h.out):g:=h ⟨k⟩
theorem Fq(k:r)(h:Hid r→g:=by intro h;refine NK Ci rfl ?_;refine NK Ci rfl ?_;exact h.out):g:=h ⟨k⟩
theorem C4(k:r)(h:Hid r→g:=by intro h;refine AA (My rfl gn rfl) rfl ?_;exact h.out):g:=h ⟨k⟩
theorem Jw(h:g:=by refine AM ?_;refine S_ ?_;refine Ac ?_;refine AA (Ae rfl) rfl ?_;refine AM ?_;refine S_ ?_;exact fS (Dt rfl) (by (kernel_rfl))):g:=h
theorem rq(k:r)(h:Hid r→g:=by intro h;refine AA (R2 rfl rfl) rfl ?_;refine AA (Ah rfl) rfl ?_;refine Kp Ci ?_;refine AA (Ah rfl) rfl ?_;refine Kp Ci ?_;exact h.out):g:=h ⟨k⟩
theorem D6(k:r)(h:Hid r→g:=by intro h;refine AA (Ah rfl) rfl ?_;refine Kp Ci ?_;exact h.out):g:=h ⟨k⟩
theorem Ss(k:r)(h:Hid r→g:=by intro h;refine AA (Ft rfl) rfl ?_;refine Kp Ci ?_;exact h.out):g:=h ⟨k⟩
theorem Q0(k:r)(h:Hid r→g:=by intro h;refine AA (Ab rfl (Lw _ _)) rfl ?_;exact h.out):g:=h ⟨k⟩
theorem BI(k:r)(h:Hid r→g:=by intro h;refine Kp Ci ?_;exact h.out):g:=h ⟨k⟩
theorem NB(k:r)(h:Hid r→g:=by intro h;refine AA (Bj rfl rfl Xi Dp rfl) rfl ?_;exact h.out):g:=h ⟨k⟩
theorem Wt(k:r)(h:Hid r→g:=by intro h;refine AA (Ku rfl underlying53) rfl ?_;exact h.out):g:=h ⟨k⟩
theorem PK(k:r)(h:Hid r→g:=by intro h;refine AA (dJ rfl rfl) rfl ?_;exact h.out):g:=h ⟨k⟩
theorem Ba(k:r)(h:Hid r→g:=by intro h;refine AA (PC rfl gn rfl) rfl ?_;exact h.out):g:=h ⟨k⟩
theorem CX(k:r)(h:Hid r→g:=by intro h;refine Ac ?_;refine AA (Ah rfl) rfl ?_;exact h.out):g:=h ⟨k⟩
theorem Do(k:r)(h:Hid r→g:=by intro h;refine AM ?_;refine S_ ?_;refine Ac ?_;refine AA (Dx (b:=1) rfl rfl O_) rfl ?_;refine AA (Ah rfl) rfl ?_;refine AM ?_;exact h.out):g:=h ⟨k⟩
theorem DP(h:g:=by refine AA (Ae rfl) rfl ?_;refine AM ?_;refine S_ ?_;exact fS (Dt rfl) (by (kernel_rfl))):g:=h
theorem UP(L:List Nd)(es:List (Value×C1))(N:Nat)(a:List Int)(m cap:Nat)(_hN:L.length=N)(_hNl:N≤2000000)(hm:a.length=m)(hml:m≤1000000):
  Ev prog (.call 41 [.c (.ptr 0 0),.c (.sl 1 0 m cap 1)] [.row false (.ac [.sl 2 0 N N 3,.mp 3]),.row false (.ai a),.row false (.an L),.row false (.mp es)])
   (.val (.c (.val (.bool (hasB N a)))) [.row false (.ac [.sl 2 0 N N 3,.mp 3]),.row false (.ai a),.row false (.an L),.row false (.mp es)]):=by
 refine AJ func41 rfl ntmps41 rfl AN ?_;refine Hk ?_;refine HN ?_;refine Pn ?_;refine DL [0,7,8,9] (fun (j:Nat)=>⟨25,AQ [0,7,8,9] [Ai 0,.c (.sl 1 0 m cap 1),Aj (m:Int),Aj (j:Int)],[.row false (.ac [.sl 2 0 N N 3,.mp 3]),.row false (.ai a),.row false (.an L),.row false (.mp es)]⟩) (fun j=>m-j) (fun j=>j≤m∧hasB N a=hasB N (a.drop j)) 0 K_ ⟨Nat.zero_le _,by rw [List.drop_zero]⟩ ?_
 rintro j ⟨hj,hB⟩
 by_cases hlt:j<m
 ·rw [Wm O_] at hB
  refine NJ ?_;refine lX ?_;refine AA (Iz rfl rfl B6 Dp) rfl ?_;refine Bv ?_;generalize AX a j=x at*
  by_cases h1:x<0
  ·rw [show hasB N a=false by rw [hB];simp;omega]
   refine BC ?_;refine aA ?_;refine Lk ?_;refine Fq ?_;refine Fq ?_;refine NK Ci rfl ?_;refine C4 ?_;exact Jw
  ·by_cases h2:(N:Int)≤x
   ·rw [show hasB N a=false by rw [hB];simp;omega]
    refine BC ?_;refine rq ?_;refine D6 ?_;refine Ss ?_;refine Q0 ?_;refine BI ?_;refine NB ?_;refine BI ?_;refine Wt ?_;refine BI ?_;refine PK ?_;refine Ba ?_;exact Jw
   ·refine S_ ?_
    refine CX ?_;refine rq ?_;refine D6 ?_;refine Ss ?_;refine Q0 ?_;refine BI ?_;refine NB ?_;refine BI ?_;refine Wt ?_;refine BI ?_;refine PK ?_;refine Ba ?_;refine Do ?_;refine ⟨j+1,K_,by show m-(j+1)<m-j;omega,by omega,?_⟩
    rw [hB,show (decide (0≤x)&&decide (x<(N:Int)))=true by simp;omega,Bool.true_and]
 ·obtain rfl:j=m:=by omega
  rw [show hasB N a=true by rw [hB,←hm,List.drop_length];rfl]
  refine NJ ?_;exact DP
theorem Sn(k:r)(h:Hid r→g:=by intro h;refine AJ func40 rfl ntmps40 rfl AN ?_;exact h.out):g:=h ⟨k⟩
theorem AG(k:r)(h:Hid r→g:=by intro h;refine S_ ?_;refine Ac ?_;exact h.out):g:=h ⟨k⟩
theorem IM(k:r)(h:Hid r→g:=by intro h;refine AA (Ae rfl) rfl ?_;refine AA (Ae rfl) rfl ?_;refine AM ?_;refine S_ ?_;refine Ac ?_;refine AA (Ah rfl) rfl ?_;exact h.out):g:=h ⟨k⟩
theorem GS(k:r)(h:Hid r→g:=by intro h;refine AM ?_;refine S_ ?_;refine Ac ?_;refine AA (B4 (b:=1) rfl rfl) rfl ?_;refine AA (Ae rfl) rfl ?_;refine AM ?_;refine S_ ?_;refine Ac ?_;exact h.out):g:=h ⟨k⟩
theorem Cu(h:g:=by refine AA (Ae rfl) rfl ?_;refine AA (Ae rfl) rfl ?_;refine AM ?_;refine S_ ?_;exact qB (Dt rfl) (Dt rfl) (by (kernel_rfl))):g:=h
theorem FG(k:r)(h:Hid r→g:=by intro h;refine AA (B4 (b:=2) rfl rfl) rfl ?_;refine AA (Ae rfl) rfl ?_;refine AM ?_;refine S_ ?_;refine Ac ?_;exact h.out):g:=h ⟨k⟩
theorem Gg(k:r)(h:Hid r→g:=by intro h;refine AA (B4 (b:=4) rfl rfl) rfl ?_;refine AA (Ae rfl) rfl ?_;refine AM ?_;refine S_ ?_;refine Ac ?_;refine AA (B4 (b:=5) rfl rfl) rfl ?_;exact h.out):g:=h ⟨k⟩
theorem Ad(k:r)(h:Hid r→g:=by intro h;refine AA (Ae rfl) rfl ?_;refine AM ?_;refine S_ ?_;refine Ac ?_;exact h.out):g:=h ⟨k⟩
theorem It(k:r)(h:Hid r→g:=by intro h;refine AA (B4 (b:=6) rfl rfl) rfl ?_;exact h.out):g:=h ⟨k⟩
theorem PL(k:r)(h:Hid r→g:=by intro h;refine AA (B4 (b:=8) rfl rfl) rfl ?_;exact h.out):g:=h ⟨k⟩
theorem QT(k:r)(h:Hid r→g:=by intro h;refine AA (B4 (b:=7) rfl rfl) rfl ?_;exact h.out):g:=h ⟨k⟩
theorem AS(k:r)(h:Hid r→g:=by intro h;refine AM ?_;refine S_ ?_;refine Ac ?_;exact h.out):g:=h ⟨k⟩
theorem LW(k:r)(h:Hid r→g:=by intro h;refine AA (dk rfl rfl) rfl ?_;refine AA (Ae rfl) rfl ?_;refine AM ?_;refine S_ ?_;refine Ac ?_;exact h.out):g:=h ⟨k⟩
theorem TR(k:Int):Ev prog (.call 40 [Aj k] []) (.val (.tup [Aj ((Cr k:Nat):Int),Aj ((FV k:Nat):Int)]) []):=by
 unfold Cr FV
 by_cases h1:k=1
 ·simp only [h1,if_true,if_false,Int.reduceEq,or_self,or_false]
  refine Sn ?_;refine AG ?_;refine IM ?_;refine GS ?_;exact Cu
 by_cases h2:k=2
 ·simp only [h2,or_true,if_true,if_false,Int.reduceEq,or_self]
  refine Sn ?_;refine AG ?_;refine IM ?_;refine GS ?_;refine FG ?_;exact Cu
 by_cases h4:k=4
 ·simp only [h4,if_true,if_false,Int.reduceEq,or_self,or_false]
  refine Sn ?_;refine AG ?_;refine IM ?_;refine GS ?_;refine FG ?_;refine AA (B4 (b:=4) rfl rfl) rfl ?_;refine AA (Ae rfl) rfl ?_;refine AM ?_;refine S_ ?_;refine Ac ?_;exact Cu
 by_cases h5:k=5
 ·simp only [h5,or_true,if_true,if_false,Int.reduceEq,or_self,or_false]
  refine Sn ?_;refine AG ?_;refine IM ?_;refine GS ?_;refine FG ?_;refine Gg ?_;refine Ad ?_;exact Cu
 by_cases h6:k=6
 ·simp only [h6,or_true,if_true,if_false,Int.reduceEq,or_self,or_false]
  refine Sn ?_;refine AG ?_;refine IM ?_;refine GS ?_;refine FG ?_;refine Gg ?_;refine Ad ?_;refine It ?_;refine Ad ?_;exact Cu
 by_cases h8:k=8
 ·simp only [h8,or_true,if_true,if_false,Int.reduceEq,or_self]
  refine Sn ?_;refine AG ?_;refine IM ?_;refine GS ?_;refine FG ?_;refine Gg ?_;refine Ad ?_;refine It ?_;refine Ad ?_;refine PL ?_;refine Ad ?_;exact Cu
 by_cases h7:k=7
 ·simp only [h7,if_true,if_false,Int.reduceEq,or_self]
  refine Sn ?_;refine AG ?_;refine IM ?_;refine GS ?_;refine FG ?_;refine Gg ?_;refine Ad ?_;refine It ?_;refine Ad ?_;refine PL ?_;refine Ad ?_;refine QT ?_;refine Ad ?_;exact Cu
 simp only [h1,h2,h4,h5,h6,h8,h7,or_self,if_false]
 refine Sn ?_;refine AG ?_;refine IM ?_;refine AS ?_;refine LW ?_;refine LW ?_;refine LW ?_;refine LW ?_;refine LW ?_;refine LW ?_;refine LW ?_;exact Cu
theorem E8{P:Program}{k:Nat}{c:Code}{s:St}{Φ:Ex→St→Prop}(keep:List Nat){σ:Type}(I:σ→St)(y:σ)(h1:WC P k c s (VC k keep I y))(h2:Φ .normal (I y)):WC P k c s Φ:=by
 obtain ⟨e,r,g1,g2⟩:=h1.h
 cases e with
 |normal=>obtain ⟨x,g3,rfl⟩:=g2;exact ⟨⟨_,_,Ev.tidy keep g1 g3,h2⟩⟩
 |exit id=>exact g2.elim
 |ret=>exact g2.elim
theorem FC{A B:Prop}(a:A)(b:B)(k:r)(h:A→B→Hid r→g:=by intro a b h;refine Bq (AZ a b rfl rfl rfl Bb) AK rfl ?_;exact h.out):g:=h a b ⟨k⟩
theorem gO(k:r)(h:Hid r→g:=by intro h;refine AJ func21 rfl ntmps21 rfl AN ?_;exact h.out):g:=h ⟨k⟩
theorem Iu(k:r)(h:Hid r→g:=by intro h;refine AA (Ae rfl) rfl ?_;refine AA (Ae rfl) rfl ?_;refine AM ?_;refine S_ ?_;exact h.out):g:=h ⟨k⟩
theorem M8(k:r)(h:Hid r→g:=by intro h;refine Ac ?_;refine AA (Ah rfl) rfl ?_;refine AA (dk rfl rfl) rfl ?_;exact h.out):g:=h ⟨k⟩
theorem JV(k:r)(h:Hid r→g:=by intro h;refine AA (Ah rfl) rfl ?_;refine NK Ci rfl ?_;refine NK Ci rfl ?_;refine AA (My rfl gn rfl) rfl ?_;exact h.out):g:=h ⟨k⟩
theorem BZ(k:r)(h:Hid r→g:=by intro h;refine AA (Ah rfl) rfl ?_;refine Kp Ci ?_;refine AA (Ah rfl) rfl ?_;refine Kp Ci ?_;exact h.out):g:=h ⟨k⟩
theorem G0(k:r)(h:Hid r→g:=by intro h;refine AA (dk rfl rfl) rfl ?_;exact h.out):g:=h ⟨k⟩
theorem JN(k:r)(h:Hid r→g:=by intro h;refine AA (PC rfl gn rfl) rfl ?_;refine AA (Ae rfl) rfl ?_;refine AM ?_;exact h.out):g:=h ⟨k⟩
theorem E1(k:r)(h:Hid r→g:=by intro h;refine AA (I0 rfl) rfl ?_;refine AA (C5 rfl rfl) rfl ?_;refine AA (C5 rfl rfl) rfl ?_;refine AA (Ae rfl) rfl ?_;refine AA (Ae rfl) rfl ?_;refine AM ?_;refine S_ ?_;refine Ac ?_;refine AA (Ah rfl) rfl ?_;exact h.out):g:=h ⟨k⟩
theorem Dd(k:r)(h:Hid r→g:=by intro h;refine AA (R2 rfl rfl) rfl ?_;refine AA (Ah rfl) rfl ?_;refine Kp Ci ?_;refine AA (Ah rfl) rfl ?_;refine Kp Ci ?_;refine AA (uZ rfl rfl) rfl ?_;exact h.out):g:=h ⟨k⟩
theorem A7(k:r)(h:Hid r→g:=by intro h;refine AA (Ae rfl) rfl ?_;refine AM ?_;refine S_ ?_;exact h.out):g:=h ⟨k⟩
theorem ET(k:r)(h:Hid r→g:=by intro h;refine Kp Ci ?_;refine AA (Ah rfl) rfl ?_;refine Kp Ci ?_;refine AA (Ah rfl) rfl ?_;refine Kp Ci ?_;exact h.out):g:=h ⟨k⟩
theorem Fn(k:r)(h:Hid r→g:=by intro h;refine AA (Jl rfl) rfl ?_;exact h.out):g:=h ⟨k⟩
theorem EY(k:r)(h:Hid r→g:=by intro h;refine Kp Ci ?_;refine AA (My rfl gn rfl) rfl ?_;exact h.out):g:=h ⟨k⟩
theorem Fo(k:r)(h:Hid r→g:=by intro h;refine Kp Ci ?_;refine AA (Ah rfl) rfl ?_;refine NK Ci rfl ?_;refine NK Ci rfl ?_;refine Kp Ci ?_;refine AA (PC rfl gn rfl) rfl ?_;exact h.out):g:=h ⟨k⟩
theorem AO(k:r)(h:Hid r→g:=by intro h;refine AA (Ah rfl) rfl ?_;exact h.out):g:=h ⟨k⟩
theorem CF(k:r)(h:Hid r→g:=by intro h;refine AA (BE rfl rfl) rfl ?_;exact h.out):g:=h ⟨k⟩
theorem VS(k:r)(h:Hid r→g:=by intro h;refine AA (Il rfl rfl) rfl ?_;exact h.out):g:=h ⟨k⟩
theorem BB(k:r)(h:Hid r→g:=by intro h;refine AA (Ae rfl) rfl ?_;refine AM ?_;refine S_ ?_;refine Ac ?_;refine AA (Ah rfl) rfl ?_;refine AA (Ah rfl) rfl ?_;exact h.out):g:=h ⟨k⟩
theorem BD(k:r)(h:Hid r→g:=by intro h;refine S_ ?_;refine Ac ?_;refine AA (Ah rfl) rfl ?_;refine AA (Ah rfl) rfl ?_;exact h.out):g:=h ⟨k⟩
theorem AY(k:r)(h:Hid r→g:=by intro h;refine AA (Ae rfl) rfl ?_;refine AM ?_;refine S_ ?_;refine Ac ?_;refine AA (Ah rfl) rfl ?_;exact h.out):g:=h ⟨k⟩
theorem KB(k:r)(h:Hid r→g:=by intro h;refine AA (Ft rfl) rfl ?_;exact h.out):g:=h ⟨k⟩
theorem GU(k:r)(h:Hid r→g:=by intro h;refine AA (Bj rfl rfl Xi Dp rfl) rfl ?_;refine AA (Ku rfl underlying53) rfl ?_;exact h.out):g:=h ⟨k⟩
theorem RG(k:r)(h:Hid r→g:=by intro h;refine EQ 10 mixed K_ rfl rfl rfl ?_;exact h.out):g:=h ⟨k⟩
theorem II(k:r)(h:Hid r→g:=by intro h;refine AE (Ah rfl) rfl ?_;refine AE (Ft rfl) rfl ?_;exact h.out):g:=h ⟨k⟩
theorem By(k:r)(h:Hid r→g:=by intro h;refine AE (Ah rfl) rfl ?_;refine AE (Ah rfl) rfl ?_;exact h.out):g:=h ⟨k⟩
theorem PH(k:r)(h:Hid r→g:=by intro h;refine AE (Bj rfl rfl Xi Dp rfl) rfl ?_;exact h.out):g:=h ⟨k⟩
theorem Wr(k:r)(h:Hid r→g:=by intro h;refine AE (Ku rfl underlying53) rfl ?_;exact h.out):g:=h ⟨k⟩
theorem A1(k:r)(h:Hid r→g:=by intro h;refine AM ?_;refine S_ ?_;exact h.out):g:=h ⟨k⟩
theorem IR(k:r)(h:Hid r→g:=by intro h;refine B7 (Ah rfl) rfl ?_;refine B7 (Ah rfl) rfl ?_;exact h.out):g:=h ⟨k⟩
theorem mX(k:r)(h:Hid r→g:=by intro h;refine pH [] K_ (Bj rfl rfl Xi Dp rfl) rfl ?_;exact h.out):g:=h ⟨k⟩
theorem KN(k:r)(h:Hid r→g:=by intro h;refine B7 (Ah rfl) rfl ?_;exact h.out):g:=h ⟨k⟩
theorem ft(k:r)(h:Hid r→g:=by intro h;refine AA (FN (b:=1) rfl rfl O_ O_) rfl ?_;exact h.out):g:=h ⟨k⟩
theorem Sq(h:g:=by exact qB (Dt rfl) (Dt rfl) (by (kernel_rfl))):g:=h
theorem uV(L:List Nd)(N:Nat)(k n:Int)(a:List Int)(m cap:Nat)(hA:EB L)(hN:L.length=N)(hNl:N≤1000000)(hm:a.length=m)(hml:m≤1000)(hr:∀x∈k::n::a,-9223372036854775808≤x∧x≤9223372036854775807)(he:Bz N k n a=0)(hf:GV L ⟨k,n,a⟩=none):Ev prog (.call 21 [Ai 0,Aj k,Aj n,.c (.sl 1 0 m cap 1)] [.row true (.ac [.sl 2 0 N N 3,.mp 3]),.row false (.ai a),.row true (.an L),.row true (.mp (Bf L))]) (.val (.tup [Aj ((N:Nat):Int),Aj ((0:Nat):Int)]) [.row true (.ac [.sl 4 0 (N+1) (N+1) 3,.mp 3]),.row false (.ai a),.dead,.row true (.mp (Bf (L++[⟨k,n,a⟩]))),.row true (.an (L++[⟨k,n,a⟩]))]):=by
 have hok:=IK he
 have c1:=hok.kind
 dsimp only at c1
 have c2:¬(n<0∨(0<n∧DJ k=false)):=by
  have h3:=hok.num
  dsimp only at h3
  rintro (h | ⟨h,h2⟩)
  ·omega
  ·rw [h3.2 h] at h2;cases h2
 have c2n:¬n<0:=fun h=>c2 (.inl h)
 have c5:=hok.len
 dsimp only at c5
 have ml:=Dj k
 have c7:hasB N a=true:=by
  cases hq:hasB N a with
  |true=>rfl
  |false=>revert he;unfold Bz;rw [if_neg O_,if_neg c2,if_neg O_,if_pos hq];intro h;cases h
 refine gO ?_;refine AG ?_;refine Iu ?_;refine E8 [0,1,2,3,10] (fun (q:Bool)=>⟨118,AQ [0,1,2,3,10] [Ai 0,Aj k,Aj n,.c (.sl 1 0 m cap 1),.c (.val (.bool q))],[.row true (.ac [.sl 2 0 N N 3,.mp 3]),.row false (.ai a),.row true (.an L),.row true (.mp (Bf L))]⟩) (DJ k) ?_ ?_
 ·by_cases h1:k=1
  ·refine S_ ?_
   refine M8 ?_;refine JV ?_;refine JV ?_;refine Bv ?_;exact ⟨true,K_,by simp [DJ,h1]⟩
  ·by_cases h2:k=2
   ·refine S_ ?_
    refine M8 ?_;refine BZ ?_;refine G0 ?_;refine Ba ?_;refine JV ?_;refine Bv ?_;exact ⟨true,K_,by simp [DJ,h2]⟩
   ·refine S_ ?_
    refine M8 ?_;refine BZ ?_;refine G0 ?_;refine Ba ?_;refine BZ ?_;refine G0 ?_;refine JN ?_;exact ⟨decide (k=4),K_,by simp [DJ,h1,h2]⟩
 refine BC ?_;refine FC (TR k) eb ?_;refine E1 ?_;refine Dd ?_;refine Ba ?_;refine A7 ?_;refine E8 [0,1,2,3,11,12,38] (fun (q:Bool)=>⟨118,AQ [0,1,2,3,11,12,38] [Ai 0,Aj k,Aj n,.c (.sl 1 0 m cap 1),Aj ((Cr k:Nat):Int),Aj ((FV k:Nat):Int),.c (.val (.bool q))],[.row true (.ac [.sl 2 0 N N 3,.mp 3]),.row false (.ai a),.row true (.an L),.row true (.mp (Bf L))]⟩) false ?_ ?_
 ·by_cases c3:0<n
  ·have c4:DJ k=true:=by cases hq:DJ k with
    |true=>rfl
    |false=>exact absurd (Or.inr ⟨c3,hq⟩) c2
   refine BC ?_;refine Dd ?_;refine ET ?_;refine Fn ?_;refine EY ?_;refine JN ?_;exact ⟨!(DJ k),K_,by rw [c4];rfl⟩
  ·refine S_ ?_
   refine CX ?_;refine Dd ?_;refine Fo ?_;refine JN ?_;exact ⟨false,K_,rfl⟩
 refine BC ?_;refine HN ?_;refine AO ?_;refine CF ?_;refine BZ ?_;refine HN ?_;refine BI ?_;refine D6 ?_;refine VS ?_;refine Ba ?_;refine BB ?_;refine FC (UP L (Bf L) N a m cap hN O_ hm O_) bI ?_;refine Fn ?_;refine Bv ?_;refine Q_ ?_;refine Bn rfl (by rw [c7];rfl) ?_
 refine BD ?_;refine AO ?_;refine FC (cK k n a m cap hm hml hr) kq ?_;refine AY ?_;refine KB ?_;refine AA (Ab rfl (Qu _ _)) rfl ?_;refine AA (Bj rfl rfl Tr Dp rfl) rfl ?_;refine AO ?_;refine DK (et (i:=Tryz.t3) (c:= .val (.int .i64 0)) underlying73 underlying9 K_ K_ (fun _=>rfl) rfl rfl rfl hA.keyed trivial (O2 hf)) rfl ?_
 refine E1 ?_;refine AY ?_;refine KB ?_;refine Q0 ?_;refine GU ?_;refine AA (MZ (b:=1048576) rfl rfl) rfl ?_;refine A7 ?_;refine RG ?_;refine II ?_;refine AE (Ab rfl (Qu _ _)) rfl ?_;refine AE (Bj rfl rfl Tr Dp rfl) rfl ?_;refine By ?_;refine AE (Ft rfl) rfl ?_;refine AE (Ab rfl (Lw _ _)) rfl ?_;refine PH ?_;refine Wr ?_;refine Bc ?_;refine fZ (Qh (c:= .val (.int .i64 (N:Int))) underlying73 underlying9 rfl rfl rfl rfl hA.keyed trivial (O2 hf) AK) ?_;refine A1 ?_;refine H3 [(10,[]),(11,[2]),(14,[0])] [0,2] 2 mixed K_ K_ ?_;refine IR ?_;refine B7 (Ft rfl) rfl ?_;refine B7 (Ab rfl (Lw _ _)) rfl ?_;refine mX ?_;refine IR ?_;refine KN ?_;refine pn (xL (AZ (ZB a m cap hm hml) rW rfl rfl rfl rfl)) (fun _=>rfl) rfl ?_
 refine B7 (TK rfl rfl rfl) rfl ?_;refine Em (Ev.mem (cV rfl rfl)) rfl Yw ?_;refine Em (YJ rfl rfl rfl rfl underlying53 underlying53 lm hN O_ AN AK) rfl Yw ?_;refine B7 (Ft rfl) rfl ?_;refine B7 (Ab rfl (Lw _ _)) rfl ?_;refine Tq (Wx (w:= .ac [.sl 5 0 (N+1) (N+1) 3,.mp 3]) rfl rfl rfl rfl kM (by show 0<2;decide) rfl AK) rfl Yw ?_
 refine PO ?_;refine BC ?_;refine KB ?_;refine Q0 ?_;refine GU ?_;refine ft ?_;refine Iu ?_;rw [V7,hN]
 exact Sq
def swp(l:List Int)(i j:Nat):List Int:=(l.set i (AX l j)).set j (AX l i)
def XE(l:List Int):Nat→List Int
 |0=>l
 |j+1=>swp (XE l j) j (l.length-1-j)
@[simp] theorem vJ(l:List Int)(i j:Nat):(swp l i j).length=l.length:=by simp [swp]
@[simp] theorem NV(l:List Int):∀j,(XE l j).length=l.length
 |0=>rfl
 |j+1=>by simp [XE,NV l j]
theorem mF(l:List Int)(j:Nat)(hj:2*j≤l.length)(i:Nat)(hi:i<l.length):AX (XE l j) i=if i<j∨l.length-1-i<j then AX l (l.length-1-i) else AX l i:=by
 induction j generalizing i with
 |zero=>rw [if_neg O_];rfl
 |succ j ih=>
  have h1:=ih O_
  simp only [XE,swp]
  simp only [AX,List.getD_eq_getElem?_getD,List.getElem?_set,List.length_set,NV] at h1 ⊢
  by_cases e1:l.length-1-j=i
  ·subst e1
   rw [if_pos rfl,if_pos O_,Option.getD_some,h1 j O_,if_neg O_,if_pos O_]
   congr 2
   omega
  ·rw [if_neg e1]
   by_cases e2:j=i
   ·subst e2
    rw [if_pos rfl,if_pos O_,Option.getD_some,h1 _ O_,if_neg O_,if_pos O_]
   ·rw [if_neg e2,h1 i hi]
    by_cases e3:i<j∨l.length-1-i<j
    ·rw [if_pos e3,if_pos O_]
    ·rw [if_neg e3,if_neg O_]
theorem lQ(l:List Int)(j:Nat)(hj:j=l.length/2):XE l j=l.reverse:=by
 apply List.ext_getElem (by simp)
 intro i h1 h2
 simp only [NV] at h1
 have h3:=mF l j O_ i h1
 simp only [AX,List.getD_eq_getElem?_getD] at h3
 rw [List.getElem?_eq_getElem (by simpa using h1),Option.getD_some] at h3
 rw [h3,List.getElem_reverse]
 by_cases e:i<j∨l.length-1-i<j
 ·rw [if_pos e,List.getElem?_eq_getElem O_,Option.getD_some]
 ·rw [if_neg e,List.getElem?_eq_getElem O_,Option.getD_some]
  congr 1
  omega
section
variable {P:Program} {S:List Nat} {i:Nat} {M0:Ag} {ops:Array Oper} {K:St→Prop} {l:List Oper} {N:Nat} {T:Nat→AV} {M M':Ag} {ty pos af}
theorem Zn {t : TypeId} {a v : Operand} {b o : Nat} {x : List Int} {w : Int} (hb : S.contains b = true) (ha : AC T a = .c (.ptr b o)) (hv : AC T v = .c (.val (.int .i64 w))) (hm : M[b]? = some (.row true (.ai x))) (hs : DN P t = some 1) (ho : o < x.length) (hM : M.set b (.row true (.ai (Vg x o w))) = M')
    (hk : XO P S M0 ops (i + 1) l ⟨N, T, M'⟩ K) : XO P S M0 ops i (⟨none, .store t a v, ty, pos, af, none⟩ :: l) ⟨N, T, M⟩ K := fG hb ha hv hm rfl hs ho (ud x o w) hM hk
end
theorem NG(k:r)(h:Hid r→g:=by intro h;refine AA (up rfl rfl O_) rfl ?_;exact h.out):g:=h ⟨k⟩
theorem Iw(k:r)(h:Hid r→g:=by intro h;refine Ed (Ah rfl) rfl ?_;exact h.out):g:=h ⟨k⟩
theorem eJ(k:r)(h:Hid r→g:=by intro h;refine Ed (Ff rfl rfl underlying41 OF O_) rfl ?_;exact h.out):g:=h ⟨k⟩
theorem Z0(k:r)(h:Hid r→g:=by intro h;refine AA (Dx (b:=1) rfl rfl O_) rfl ?_;exact h.out):g:=h ⟨k⟩
theorem KD(k:r)(h:Hid r→g:=by intro h;refine AA (Ae rfl) rfl ?_;refine AA (Ae rfl) rfl ?_;refine AM ?_;exact h.out):g:=h ⟨k⟩
theorem sY(l:List Int)(n cap:Nat)(hl:l.length=n)(hn:n≤2000000):Ev prog (.call 68 [.c (.sl 0 0 n cap 1)] [.row true (.ai l)]) (.val (.tup []) [.row true (.ai l.reverse)]):=by
 refine AJ func68 rfl ntmps68 rfl AN ?_;refine BC ?_;refine HN ?_;refine NG ?_;refine Iu ?_;refine DL [0,2,3] (fun (zz:Nat×Int×List Int)=>⟨28,AQ [0,2,3] [.c (.sl 0 0 n cap 1),Aj (zz.1:Int),Aj zz.2.1],[.row true (.ai zz.2.2)]⟩) (fun zz=>n-zz.1) (fun zz=>(zz.2.1=(n:Int)-1-(zz.1:Int)∧2*zz.1≤n)∧zz.2.2=XE l zz.1) (0,(n:Int)-1,l) K_ ⟨⟨by simp,by simp⟩,rfl⟩ ?_
 rintro ⟨j,x,q⟩ ⟨⟨hx,hj⟩,hq⟩
 dsimp only at hx hj hq ⊢
 by_cases h1:(j:Int)<x
 ·obtain ⟨k,rfl⟩:∃k:Nat,x=(k:Int):=⟨x.toNat,by omega⟩
  have hqn:q.length=n:=by rw [hq];simp [hl]
  have hs:XE l (j+1)=swp q j k:=by rw [hq];simp only [XE];congr 1;omega
  clear hq
  refine BD ?_;refine CF ?_;refine A1 ?_;refine Oz [0] mixed K_ ?_;refine Iw ?_;refine Iw ?_;refine Iw ?_;refine Iw ?_;refine Iw ?_;refine Iw ?_;refine eJ ?_;first | first
   |refine Ed (MI rfl rfl B6 Dp) rfl ?_
   |refine Ed (Iz rfl rfl B6 Dp) rfl ?_
   |refine Ed (D5 rfl B6 Dp) rfl ?_
   |refine Ed (Zq rfl rfl rfl B6 Dp) rfl ?_
   |refine Ed (Bj rfl rfl B6 Dp rfl) rfl ?_ | first
   |refine FL K_ (MI rfl rfl B6 Dp) rfl ?_
   |refine FL K_ (Iz rfl rfl B6 Dp) rfl ?_
   |refine FL K_ (D5 rfl B6 Dp) rfl ?_
   |refine FL K_ (Zq rfl rfl rfl B6 Dp) rfl ?_
   |refine FL K_ (Bj rfl rfl B6 Dp rfl) rfl ?_
  refine Iw ?_;refine Iw ?_;refine eJ ?_;first | first
   |refine Ed (MI rfl rfl B6 Dp) rfl ?_
   |refine Ed (Iz rfl rfl B6 Dp) rfl ?_
   |refine Ed (D5 rfl B6 Dp) rfl ?_
   |refine Ed (Zq rfl rfl rfl B6 Dp) rfl ?_
   |refine Ed (Bj rfl rfl B6 Dp rfl) rfl ?_ | first
   |refine FL K_ (MI rfl rfl B6 Dp) rfl ?_
   |refine FL K_ (Iz rfl rfl B6 Dp) rfl ?_
   |refine FL K_ (D5 rfl B6 Dp) rfl ?_
   |refine FL K_ (Zq rfl rfl rfl B6 Dp) rfl ?_
   |refine FL K_ (Bj rfl rfl B6 Dp rfl) rfl ?_
  refine eJ ?_;refine Zn rfl rfl rfl rfl OF Dp AK ?_;refine eJ ?_;refine Zn rfl rfl rfl rfl OF Dp AK ?_;refine eE ?_;refine BC ?_;refine Z0 ?_;refine AO ?_;refine ft ?_;refine KD ?_;refine ⟨(j+1,((k-1:Nat):Int),swp q j k),K_,?_,⟨?_,?_⟩,hs.symm⟩
  ·dsimp only;omega
  ·dsimp only;omega
  ·dsimp only;omega
 ·rw [←lQ l j O_,←hq]
  refine BD ?_;refine aA ?_;refine A1 ?_;exact uq (by (exact .inl rfl)) (by (kernel_rfl))
def qe(x:Nd):AV:= .agg (.ac [.val (.int .i64 x.k),.val (.int .i64 x.n),.is x.a])
theorem sG(n:Nat):Iq prog 4 n=some (.ac (List.replicate n (.val (.bool false)))):=by kernel_rfl
def mark(c:List Bool)(a:List Int):List Bool:=a.foldl (fun c x=>c.set x.toNat true) c
def Yo(L:List Nd):Nat→List Bool→List Int
 |0,_=>[]
 |k+1,c=>if I6 c k then (k:Int)::Yo L k (mark c (Al L k).a) else Yo L k c
def BQ(L:List Nd)(i:Nat):List Int:=(Yo L (i+1) ((List.replicate (i+1) false).set i true)).reverse
theorem Nb(a:List Int):∀c:List Bool,(mark c a).length=c.length:=by
 induction a with
 |nil=>intro c;rfl
 |cons x a ih=>intro c;exact (ih _).trans (by simp)
theorem gp(c:List Bool)(a:List Int)(j:Nat)(hj:j<a.length):mark c (a.take (j+1))=(mark c (a.take j)).set (AX a j).toNat true:=by
 rw [List.take_succ_eq_append_getElem hj]
 simp only [mark,List.foldl_append,List.foldl_cons,List.foldl_nil,AX,List.getD_eq_getElem?_getD,List.getElem?_eq_getElem hj,Option.getD_some]
theorem QH(L:List Nd):∀k c,(Yo L k c).length≤k
 |0,_=>Nat.le_refl _
 |k+1,c=>by
  unfold Yo
  split
  ·exact Nat.succ_le_succ (QH L k _)
  ·exact Nat.le_succ_of_le (QH L k _)
theorem NM(L:List Nd)(i:Nat):(BQ L i).length≤i+1:=by
 unfold BQ
 rw [List.length_reverse]
 exact QH L _ _
theorem AW(k:r)(h:Hid r→g:=by intro h;refine AM ?_;refine S_ ?_;refine Ac ?_;refine AA (Ah rfl) rfl ?_;exact h.out):g:=h ⟨k⟩
theorem V9(k:r)(h:Hid r→g:=by intro h;refine AA (RO rfl rfl underlying53 NI O_) rfl ?_;exact h.out):g:=h ⟨k⟩
theorem gP(k:r)(h:Hid r→g:=by intro h;refine B0 rfl rfl rfl rfl NI C7 C7 AK ?_;exact h.out):g:=h ⟨k⟩
theorem gQ(L:List Nd)(es:List (Value×C1))(N i:Nat)(hN:L.length=N)(hi:i<N):Ev prog (.call 46 [Ai 0,Aj (i:Int)] [.row false (.ac [.sl 1 0 N N 3,.mp 2]),.row false (.an L),.row false (.mp es)]) (.val (qe (Al L i)) [.row false (.ac [.sl 1 0 N N 3,.mp 2]),.row false (.an L),.row false (.mp es)]):=by
 unfold qe
 refine AJ func46 rfl ntmps46 rfl AN ?_;refine AG ?_;refine A2 (BR fx AN) AK rfl ?_;refine AW ?_;refine KB ?_;refine Q0 ?_;refine NB ?_;refine AO ?_;refine V9 ?_;refine DK (OV (j:=i) rfl O_ rfl MJ NI O_) rfl ?_;refine gP ?_;refine A1 ?_;exact fS (Iy rfl rfl MJ NI C7 D_) (by (kernel_rfl))
theorem Fm(k:r)(h:Hid r→g:=by intro h;refine AA (Ae rfl) rfl ?_;exact h.out):g:=h ⟨k⟩
theorem WU(k:r)(h:Hid r→g:=by intro h;refine A2 (aJ (l:=[_]) underlying41 bm rfl rfl D_ D_ AN) AK rfl ?_;exact h.out):g:=h ⟨k⟩
theorem PR(k:r)(h:Hid r→g:=by intro h;refine AA (Ff rfl rfl underlying116 lC O_) rfl ?_;exact h.out):g:=h ⟨k⟩
theorem F6(k:r)(h:Hid r→g:=by intro h;refine AA (Ae rfl) rfl ?_;refine AA (Ae rfl) rfl ?_;refine AM ?_;refine Q_ ?_;exact h.out):g:=h ⟨k⟩
theorem F7(h:g:=by refine S_ ?_;exact qB (Dt rfl) (Dt rfl) (by (kernel_rfl))):g:=h
theorem RA(k:r)(h:Hid r→g:=by intro h;refine AA (MZ (b:=0) rfl rfl) rfl ?_;exact h.out):g:=h ⟨k⟩
theorem FK(k:r)(h:Hid r→g:=by intro h;refine AM ?_;refine S_ ?_;refine Ac ?_;refine AA (Ah rfl) rfl ?_;refine AA (Ah rfl) rfl ?_;exact h.out):g:=h ⟨k⟩
theorem QM(k:r)(h:Hid r→g:=by intro h;refine AA (Jl rfl) rfl ?_;refine AM ?_;refine Q_ ?_;exact h.out):g:=h ⟨k⟩
theorem Za(k:r)(h:Hid r→g:=by intro h;refine tU rfl rfl rfl rfl underlying41 underlying41 bm Hn Hn O_ AN AK rfl ?_;exact h.out):g:=h ⟨k⟩
theorem Th(k:r)(h:Hid r→g:=by intro h;refine AA (Ab rfl (XF _ _)) rfl ?_;exact h.out):g:=h ⟨k⟩
theorem IF(k:r)(h:Hid r→g:=by intro h;refine AA (uc rfl underlying41 rfl) rfl ?_;exact h.out):g:=h ⟨k⟩
theorem Qi(k:r)(h:Hid r→g:=by intro h;refine AA (Ah rfl) rfl ?_;refine AM ?_;exact h.out):g:=h ⟨k⟩
theorem U7(k:r)(h:Hid r→g:=by intro h;refine AA (Tt rfl rfl underlying41 OF Dp) rfl ?_;exact h.out):g:=h ⟨k⟩
theorem bD(k:r)(h:Hid r→g:=by intro h;refine AA (D5 rfl B6 Dp) rfl ?_;exact h.out):g:=h ⟨k⟩
theorem Sc(k:r)(h:Hid r→g:=by intro h;refine S_ ?_;refine Ac ?_;refine AA (BE rfl rfl) rfl ?_;exact h.out):g:=h ⟨k⟩
theorem mV(L:List Nd)(es:List (Value×C1))(N i:Nat)(hN:L.length=N)(hNl:N≤1048576)(hi:i<N)(hA:EB L):Ev prog (.call 44 [Ai 0,Aj (i:Int)] [.row false (.ac [.sl 1 0 N N 3,.mp 2]),.row false (.an L),.row false (.mp es)]) (.val (.tup [.c (.is (BQ L i)),Aj ((0:Nat):Int)]) [.row false (.ac [.sl 1 0 N N 3,.mp 2]),.row false (.an L),.row false (.mp es)]):=by
 have hh:hasB N [(i:Int)]=true:=by simp [hasB];omega
 refine AJ func44 rfl ntmps44 rfl AN ?_;refine AG ?_;refine Fm ?_;refine BB ?_;refine WU ?_;refine FC (UP L es N [(i:Int)] 1 1 hN O_ rfl O_) bI ?_;refine Fn ?_;refine AM ?_;rw [hh]
 refine BC ?_;refine Z0 ?_;refine DK (em (n:=i+1) (m:=4) underlying116 rfl rfl yI sG O_ O_ rfl) rfl ?_;refine BB ?_;refine PR ?_;refine Qj (q:=true) rfl rfl rfl lC (by rw [List.length_replicate];omega) AK ?_
 refine AS ?_;refine AY ?_;refine A7 ?_;refine Jn 7 1 (.ai []) rfl rfl AN rfl ?_;refine S_ ?_;refine DL [0,1,6,7,8] (fun (zz:Nat×Int×List Bool×Nat×List Int)=>⟨56,AQ [0,1,6,7,8] [Ai 0,Aj (i:Int),.c (.sl 3 0 (i+1) (i+1) 1),.c (.sl 4 0 zz.2.2.2.1 zz.2.2.2.1 1),Aj zz.2.1],[.row false (.ac [.sl 1 0 N N 3,.mp 2]),.row false (.an L),.row false (.mp es),.row true (.bl zz.2.2.1),.row true (.ai zz.2.2.2.2)]⟩) (fun zz=>zz.1) (fun zz=>(zz.2.1=(zz.1:Int)-1∧zz.1≤i+1∧zz.2.2.1.length=i+1)∧(zz.2.2.2.2.length=zz.2.2.2.1∧zz.1+zz.2.2.2.1≤i+1)∧BQ L i=(zz.2.2.2.2++Yo L zz.1 zz.2.2.1).reverse) (i+1,(i:Int),(List.replicate (i+1) false).set i true,0,[]) K_ ⟨⟨by simp,Nat.le_refl _,by simp⟩,⟨rfl,by simp⟩,rfl⟩ ?_
 rintro ⟨k,x,c,on,out⟩ ⟨⟨hx,hk,hc⟩,⟨hol,hon⟩,hB⟩
 dsimp only at hx hk hc hol hon hB ⊢
 cases k with
 |zero=>
  subst hx
  rw [hB,show Yo L 0 c=[] by rfl,List.append_nil]
  refine BC ?_;refine PK ?_;refine AW ?_;refine DK (Eg (sY out on on hol O_) yQ rfl rfl rfl Bb AK) rfl ?_;refine AW ?_;refine F6 ?_;refine pS 4 rfl rfl (by simp [hol]) AK ?_
  exact F7
 |succ k=>
  obtain rfl:x=(k:Int):=by omega
  clear hx
  rw [Yo.eq_2] at hB
  generalize hq:I6 c k=q at*
  cases q with
  |false=>
   rw [if_neg (by simp)] at hB
   refine BC ?_;refine RA ?_;refine FK ?_;refine PR ?_;refine AA (Oy rfl rfl WK Dp) rfl ?_;refine QM ?_;refine EH rfl (by rw [hq];rfl) ?_
   refine BC ?_;refine NG ?_;refine Bv ?_;refine ⟨(k,(k:Int)-1,c,on,out),K_,?_,⟨rfl,?_,hc⟩,⟨hol,?_⟩,hB⟩
   ·dsimp only;omega
   ·dsimp only;omega
   ·dsimp only;omega
  |true=>
   rw [if_pos rfl] at hB
   refine BC ?_;refine RA ?_;refine FK ?_;refine PR ?_;refine AA (Oy rfl rfl WK Dp) rfl ?_;refine QM ?_;refine Bn rfl (by rw [hq];rfl) ?_
   refine BD ?_;refine WU ?_;refine Za ?_;refine AY ?_;refine KB ?_;refine Q0 ?_;refine NB ?_;refine AO ?_;refine V9 ?_;refine Th ?_;refine DK (Ev.val (fN (j:=k) rfl O_ rfl Ny O_)) rfl ?_;refine IF ?_;refine Qi ?_;have hnd:=hA.nd (i:=k) O_
   have hargs:=hnd.args
   have hlen:=hnd.len.2
   have hml:=Dj (Al L k).k
   have hmc:(mark c (Al L k).a).length=i+1:=by rw [Nb];exact hc
   clear hnd
   generalize (Al L k).a=a at*
   generalize hm:a.length=m at*
   refine S_ ?_;refine AT [0,1,6,7,8,43,44,45] (fun (zz:Nat×List Bool)=>⟨56,AQ [0,1,6,7,8,43,44,45] [Ai 0,Aj ((i:Int)),.c (.sl 3 0 (i+1) (i+1) 1),.c (.sl 4 0 (on+1) (on+1) 1),Aj ((k:Int)),.c (.is a),Aj ((m:Int)),Aj ((zz.1:Int))],[.row false (.ac [.sl 1 0 N N 3,.mp 2]),.row false (.an L),.row false (.mp es),.row true (.bl zz.2),.row true (.ai (out++[(k:Int)]))]⟩) (fun j=>(j,mark c (a.take j))) (m) K_ ?_ ?_
   ·intro j hj
    dsimp only
    have h1:=hargs (AX a j) (by simp [AX,show j<a.length by omega])
    have h2:(mark c (a.take j)).length=i+1:=by rw [Nb];exact hc
    rw [gp c a j O_]
    generalize mark c (a.take j)=c' at*
    obtain ⟨y,hy⟩:∃y:Nat,AX a j=(y:Int):=⟨(AX a j).toNat,by omega⟩
    refine NJ ?_;refine U7 ?_;refine bD ?_;refine Bv ?_;rw [hy] at h1 ⊢
    rw [Int.toNat_natCast]
    refine BD ?_;refine PR ?_;refine Qj (q:=true) rfl rfl rfl lC Dp AK ?_;refine Do ?_;exact ⟨(j+1,_),K_,rfl⟩
   ·dsimp only
    rw [show a.take m=a by rw [←hm,List.take_length]]
    refine Sc ?_;refine AW ?_;refine NG ?_;refine Bv ?_;refine ⟨(k,(k:Int)-1,mark c a,on+1,out++[(k:Int)]),K_,?_,⟨rfl,?_,hmc⟩,⟨by simp [hol],?_⟩,by rw [hB];simp⟩
    ·dsimp only;omega
    ·dsimp only;omega
    ·dsimp only;omega
section
variable {P:Program} {T:Nat→AV} {M M':Ag} {t t' el:TypeId} {s x:Operand}
theorem yK{lo hi:Option Operand}{y:List Int}{l h:Nat}(hx:AC T x= .c (.is y))(hu:P.underlying t=some (.slice el))(hs:DN P el=some 1)(hl:PJ 0 (lo.map (AC T))=some (l:Int))(hh:PJ y.length (hi.map (AC T))=some (h:Int))(h1:l≤h)(h2:h≤y.length):AI P (AC T) M (.slice t x lo hi none)=some (.c (.is (cut y l (h-l)))):=by
 show G9 P M t (AC T x) (lo.map (AC T)) (hi.map (AC T))=_
 rw [hx]
 simp only [G9,hu,hl,hh]
 rw [if_pos ⟨hs,by omega,by omega,by omega⟩]
 congr 4
 omega
theorem Rg{lo:Operand}{y:List Int}{l:Nat}{kd:IntKind}(hx:AC T x= .c (.is y))(hl:AC T lo= .c (.val (.int kd (l:Int))))(hu:P.underlying t=some (.slice el))(hs:DN P el=some 1)(h2:l≤y.length):AI P (AC T) M (.slice t x (some lo) none none)=some (.c (.is (y.drop l))):=by
 rw [yK (l:=l) (h:=y.length) hx hu hs (by simp [PJ,FD,hl]) rfl h2 (Nat.le_refl _)]
 congr 3
 unfold cut
 rw [List.take_of_length_le (by simp)]
theorem eK{l y:AB 8}{n c b by':Nat}{own:Bool}(hs:AC T s= .c (.lb l))(hx:AC T x= .c (.sl b 0 n c 1))(hm:M[b]?=some (.row own (.a8 y)))(hn:y.length=n)(hu:P.underlying t=some (.slice el))(hu2:P.underlying t'=some (.slice el))(he:Bh P el=some (1,by'))(hb:(l.length+n)*by'≤140737488355328∧l.length+n≤9223372036854775807):
  Ev P (.op (.call { callee:= .builtin .append,args:= #[s,x],argTypes:= #[t,t'] }) (AC T) M) (.val (.c (.bs (l++y))) M):=
 mJ hs (by subst hn;rw [hx];simp [Ew,hm,F1,Arr.size]) hu hu2 he hb
theorem fD{l y:AB 8}{by':Nat}(hs:AC T s= .c (.lb l))(hx:AC T x= .c (.bs y))(hu:P.underlying t=some (.slice el))(hu2:P.underlying t'=some (.slice el))(he:Bh P el=some (1,by'))(hb:(l.length+y.length)*by'≤140737488355328∧l.length+y.length≤9223372036854775807):
  Ev P (.op (.call { callee:= .builtin .append,args:= #[s,x],argTypes:= #[t,t'] }) (AC T) M) (.val (.c (.bs (l++y))) M):=
 mJ hs (by rw [hx];simp [Ew]) hu hu2 he hb
end
section
variable {P:Program} {ops:Array Oper} {l:List Oper} {N d:Nat} {T:Nat→AV} {M M':Ag} {K:St→Prop} {ty:TypeId} {pos:String} {af:Array Edge}
theorem Sk{op:Op}{v:AV}(h:Ev P (.op op (AC T) (BT M)) (.val v (BT M)))(hd:decide (d<N)=true)(hk:HO P ops l ⟨N,upd T d v,M⟩ K):HO P ops (⟨some d,op,ty,pos,af,none⟩::l) ⟨N,T,M⟩ K:=
 Iv (news:=[]) (by rw [List.append_nil];exact h) (List.append_nil _) hd hk
end
def Nm(x:Nat)(X1:AB 8)(j3:Nat):AB 8:=X1++[((BitVec.ofNat 64 x)>>>(8*j3)).setWidth 8]
def EN(x:Nat):Nat→AB 8
 |0=>[]
 |j3+1=>Nm x (EN x j3) j3
@[simp] theorem Ke(x j3:Nat):(EN x j3).length=j3:=by
 induction j3 with
 |zero=>(simp [EN, *];done)
 |succ j3 ih=>rw [EN.eq_2,Nm];(simp [ih];done)
def Ge(x:Nat):AB 8:=(EN x 4)
abbrev CP(x:List (BitVec 8)):Row:= .row true (.a8 x)
theorem NA(k:r)(h:Hid r→g:=by intro h;refine AA (BE (b:=4) rfl rfl) rfl ?_;exact h.out):g:=h ⟨k⟩
theorem aQ(k:r)(h:Hid r→g:=by intro h;refine AA (HA rfl underlying3 underlying70 (wD _)) rfl ?_;exact h.out):g:=h ⟨k⟩
theorem JP(k:r)(h:Hid r→g:=by intro h;refine AA (Ls (a:=8) rfl rfl O_) rfl ?_;exact h.out):g:=h ⟨k⟩
theorem Qn(k:r)(h:Hid r→g:=by intro h;refine AA (CQ rfl rfl) rfl ?_;exact h.out):g:=h ⟨k⟩
theorem SZ(k:r)(h:Hid r→g:=by intro h;refine AA (HA rfl underlying70 underlying5 (mZ _)) rfl ?_;exact h.out):g:=h ⟨k⟩
theorem RZ(k:r)(h:Hid r→g:=by intro h;refine A2 (Wf (l:=[_]) underlying23 HL rfl rfl D_ D_ AN) AK rfl ?_;exact h.out):g:=h ⟨k⟩
theorem Cl(k:r)(h:Hid r→g:=by intro h;refine sr rfl rfl rfl rfl underlying23 underlying23 HL Hn Hn O_ AN AK rfl ?_;exact h.out):g:=h ⟨k⟩
theorem FW(k:r)(h:Hid r→g:=by intro h;refine AA (Dx (b:=1) rfl rfl O_) rfl ?_;refine AA (Ah rfl) rfl ?_;refine AM ?_;exact h.out):g:=h ⟨k⟩
theorem P1(k:r)(h:Hid r→g:=by intro h;refine AA (BE (a:=4) (b:=4) rfl rfl) rfl ?_;exact h.out):g:=h ⟨k⟩
theorem CU(k:r)(h:Hid r→g:=by intro h;refine AM ?_;refine S_ ?_;refine Ac ?_;refine AA (Ah rfl) rfl ?_;refine AA (Ae rfl) rfl ?_;refine AM ?_;refine S_ ?_;exact h.out):g:=h ⟨k⟩
theorem FB(h:g:=by exact fS (Dt rfl) (by (kernel_rfl))):g:=h
theorem gb(x:Nat)(_hx:x≤9223372036854775807):Ev prog (.call 35 [Aj ((x:Nat):Int),Aj ((4:Nat):Int)] []) (.val (.c (.sl 0 0 4 4 1)) [CP (Ge x)]):=by
 have hP:=Hid.mk (Ge.eq_1 x)
 refine AJ func35 rfl ntmps35 rfl AN ?_;refine P7 ?_;refine BB ?_;refine A1 ?_;refine Jn 5 1 (.a8 ([])) rfl rfl AN rfl ?_;refine S_ ?_;refine AT [0,5,7,8] (fun (zz:Nat×AB 8)=>⟨22,AQ [0,5,7,8] [Aj (((x:Nat):Int)),.c (.sl 0 0 zz.1 zz.1 1),Aj (((4:Nat):Int)),Aj (((zz.1:Nat):Int))],[CP (zz.2)]⟩) (fun j3=>(j3,EN x j3)) (4) K_ ?_ ?_
 ·intro j3 hj3
  try dsimp only
  have hX1:(EN x j3).length=j3:=by rw [Ke x _];try omega
  rw [EN.eq_2,Nm]
  generalize EN x j3=X1 at*
  refine AG ?_;refine NA ?_;refine AW ?_;refine BB ?_;refine aQ ?_;refine AO ?_;refine JP ?_;refine Qn ?_;refine SZ ?_;refine RZ ?_;refine Cl ?_;refine Ad ?_;refine FW ?_;exact ⟨(j3+1,_),K_,rfl⟩
 ·try dsimp only
  have hY2:(EN x 4).length=4:=by rw [Ke x _];try omega
  generalize EN x 4=Y2 at*
  refine AG ?_;refine P1 ?_;refine CU ?_;rw [hP.out]
  exact FB
@[simp] theorem Px(x:Nat):(Ge x).length=4:=by
 unfold Ge
 (simp [Ke, *];done)
attribute [irreducible] Ge
def NP(x:Nat)(X1:AB 8)(j3:Nat):AB 8:=X1++[((BitVec.ofNat 64 x)>>>(8*j3)).setWidth 8]
def EK(x:Nat):Nat→AB 8
 |0=>[]
 |j3+1=>NP x (EK x j3) j3
@[simp] theorem Ko(x j3:Nat):(EK x j3).length=j3:=by
 induction j3 with
 |zero=>(simp [EK, *];done)
 |succ j3 ih=>rw [EK.eq_2,NP];(simp [ih];done)
def En(x:Nat):AB 8:=(EK x 8)
theorem Pz(k:r)(h:Hid r→g:=by intro h;refine AA (BE (b:=8) rfl rfl) rfl ?_;exact h.out):g:=h ⟨k⟩
theorem Tn(k:r)(h:Hid r→g:=by intro h;refine AA (BE (a:=8) (b:=8) rfl rfl) rfl ?_;exact h.out):g:=h ⟨k⟩
theorem R3(x:Nat)(_hx:x≤9223372036854775807):Ev prog (.call 35 [Aj ((x:Nat):Int),Aj ((8:Nat):Int)] []) (.val (.c (.sl 0 0 8 8 1)) [CP (En x)]):=by
 have hP:=Hid.mk (En.eq_1 x)
 refine AJ func35 rfl ntmps35 rfl AN ?_;refine P7 ?_;refine BB ?_;refine A1 ?_;refine Jn 5 1 (.a8 ([])) rfl rfl AN rfl ?_;refine S_ ?_;refine AT [0,5,7,8] (fun (zz:Nat×AB 8)=>⟨22,AQ [0,5,7,8] [Aj (((x:Nat):Int)),.c (.sl 0 0 zz.1 zz.1 1),Aj (((8:Nat):Int)),Aj (((zz.1:Nat):Int))],[CP (zz.2)]⟩) (fun j3=>(j3,EK x j3)) (8) K_ ?_ ?_
 ·intro j3 hj3
  try dsimp only
  have hX1:(EK x j3).length=j3:=by rw [Ko x _];try omega
  rw [EK.eq_2,NP]
  generalize EK x j3=X1 at*
  refine AG ?_;refine Pz ?_;refine AW ?_;refine BB ?_;refine aQ ?_;refine AO ?_;refine JP ?_;refine Qn ?_;refine SZ ?_;refine RZ ?_;refine Cl ?_;refine Ad ?_;refine FW ?_;exact ⟨(j3+1,_),K_,rfl⟩
 ·try dsimp only
  have hY2:(EK x 8).length=8:=by rw [Ko x _];try omega
  generalize EK x 8=Y2 at*
  refine AG ?_;refine Tn ?_;refine CU ?_;rw [hP.out]
  exact FB
@[simp] theorem QL(x:Nat):(En x).length=8:=by
 unfold En
 (simp [Ko, *];done)
attribute [irreducible] En
def Pf(l:List (AB 8)):Nat→Nat
 |0=>0
 |j+1=>Pf l j+(4+(Ih l j).length)
def bU(l:List (AB 8)):Nat→AB 8
 |0=>[]
 |j+1=>(bU l j++Ge (Ih l j).length)++Ih l j
@[simp] theorem W4(l:List (AB 8))(j:Nat):(bU l j).length=Pf l j:=by
 induction j with
 |zero=>rfl
 |succ j ih=>simp only [bU,Pf,List.length_append,Px,ih];omega
theorem Td (l : List (AB 8)) {i j : Nat} (h : i ≤ j) : Pf l i ≤ Pf l j := by
  induction j with
  | zero => obtain rfl : i = 0 := by omega
            exact Nat.le_refl _
  | succ j ih =>
    rcases Nat.lt_or_ge j i with h1 | h1
    · obtain rfl : i = j + 1 := by omega
      exact Nat.le_refl _
    · have := ih h1
      rw [Pf.eq_2]; omega
def jn(l:List (AB 8)):AB 8:=bU l l.length
def jl(l:List (AB 8)):Nat:=Pf l l.length
theorem SC(l:List (AB 8)):(jn l).length=jl l:=W4 l _
theorem El(k:r)(h:Hid r→g:=by intro h;refine AA (Ae rfl) rfl ?_;refine AA (Ae rfl) rfl ?_;refine AM ?_;refine S_ ?_;refine Ac ?_;exact h.out):g:=h ⟨k⟩
theorem Ru(k:r)(h:Hid r→g:=by intro h;refine AA (Ku rfl underlying22) rfl ?_;exact h.out):g:=h ⟨k⟩
theorem Yc(k:r)(h:Hid r→g:=by intro h;refine AA (Ff rfl rfl underlying22 aj O_) rfl ?_;exact h.out):g:=h ⟨k⟩
theorem T5(k:r)(h:Hid r→g:=by intro h;refine AA (qY rfl rfl js Dp) rfl ?_;exact h.out):g:=h ⟨k⟩
theorem Dr(k:r)(h:Hid r→g:=by intro h;refine AA (uA rfl underlying23 rfl) rfl ?_;exact h.out):g:=h ⟨k⟩
theorem Yn(k:r)(h:Hid r→g:=by intro h;refine AA (Dx (a:=4) rfl rfl O_) rfl ?_;exact h.out):g:=h ⟨k⟩
theorem Hu(k:r)(h:Hid r→g:=by intro h;refine AA (Dx rfl rfl O_) rfl ?_;exact h.out):g:=h ⟨k⟩
theorem GP(k:r)(h:Hid r→g:=by intro h;refine AA (Il (b:=65536) rfl rfl) rfl ?_;exact h.out):g:=h ⟨k⟩
theorem ir(l:List (AB 8))(n cap:Nat)(hl:l.length=n)(hn:n≤1099511627776)(hs:jl l≤65536):Ev prog (.call 11 [.c (.sl 0 0 n cap 1)] [.row false (.ab l)]) (.val (.tup [.c (.bs (jn l)),Aj ((0:Nat):Int)]) [.row false (.ab l)]):=by
 have hP:Hid (jn l=bU l n):=⟨by rw [jn,hl]⟩
 have hs:Pf l n≤65536:=by rw [jl,hl] at hs;exact hs
 have hl:l.length=n:=hl
 refine AJ func11 rfl ntmps11 rfl AN ?_;refine AG ?_;refine El ?_;refine AY ?_;refine Ru ?_;refine Pn ?_;refine AT [0,4,10,11,12] (fun (zz:Nat×Nat)=>⟨39,AQ [0,4,10,11,12] [.c (.sl 0 0 n cap 1),Aj (((zz.2:Nat):Int)),.c (.sl 0 0 n cap 1),Aj (((n:Nat):Int)),Aj (((zz.1:Nat):Int))],[.row false (.ab l)]⟩) (fun j=>(j,Pf l j)) (n) K_ ?_ ?_
 ·intro j hj
  have h1:Pf l (j+1)≤65536:=Nat.le_trans (Td l hj) hs
  try dsimp only
  rw [Pf.eq_2] at*
  generalize Pf l j=X at*
  refine NJ ?_;refine Yc ?_;refine T5 ?_;refine BB ?_;refine Dr ?_;refine Yn ?_;refine Hu ?_;refine AY ?_;refine GP ?_;refine Do ?_;exact ⟨(j+1,_),K_,rfl⟩
 ·try dsimp only
  refine NJ ?_;refine AY ?_;refine Ru ?_;refine Pn ?_;refine Jn 7 1 (.a8 []) rfl rfl AN rfl ?_;refine S_ ?_;refine AT [7,24,25,26] (fun (zz:Nat×Nat×AB 8)=>⟨39,AQ [7,24,25,26] [.c (.sl 1 0 zz.2.1 zz.2.1 1),.c (.sl 0 0 n cap 1),Aj (((n:Nat):Int)),Aj (((zz.1:Nat):Int))],[.row false (.ab l),CP (zz.2.2)]⟩) (fun j=>(j,Pf l j,bU l j)) (n) K_ ?_ ?_
  ·intro j hj
   have h1:Pf l (j+1)≤65536:=Nat.le_trans (Td l hj) hs
   have hX:(bU l j).length=Pf l j:=W4 l j
   try dsimp only
   rw [Pf.eq_2] at*
   rw [bU.eq_2]
   generalize Pf l j=Y at*
   generalize bU l j=X at*
   refine NJ ?_;refine Yc ?_;refine T5 ?_;refine Bv ?_;have h2:(X++Ge (Ih l j).length).length=Y+4:=by simp [hX]
   refine BD ?_;refine Dr ?_;refine FC (gb (Ih l j).length O_) eT ?_;refine Cl ?_;refine AO ?_;refine jm rfl rfl rfl underlying23 underlying23 HL Hn Hn O_ AN AK rfl ?_;refine Ad ?_;refine FW ?_;rw [show Y+(4+(Ih l j).length)=Y+4+(Ih l j).length by omega]
   exact ⟨(j+1,_,_),K_,rfl⟩
  ·try dsimp only
   have hX:(bU l n).length=Pf l n:=W4 l n
   rw [hP.out]
   generalize Pf l n=Y at*
   generalize bU l n=X at*
   refine Sc ?_;refine A1 ?_;refine IB 7 rfl rfl hX rfl ?_;refine BC ?_;exact Cu
theorem iW(l:List (AB 8))(n:Nat)(h:65536<Pf l n):∃q,q<n∧Pf l q≤65536∧65536<Pf l (q+1):=by
 induction n with
 |zero=>simp [Pf] at h
 |succ n ih=>
  by_cases h1:65536<Pf l n
  ·obtain ⟨q,h2,h3⟩:=ih h1
   exact ⟨q,by omega,h3⟩
  ·exact ⟨n,by omega,by omega,h⟩
theorem bu(l:List (AB 8))(n cap:Nat)(hl:l.length=n)(hn:n≤1099511627776)(hb:∀j,(Ih l j).length≤1099511627776)(hs:65536<jl l):Ev prog (.call 11 [.c (.sl 0 0 n cap 1)] [.row false (.ab l)]) (.val (.tup [.c (.bs []),Aj ((2:Nat):Int)]) [.row false (.ab l)]):=by
 have hs:65536<Pf l n:=by rw [jl,hl] at hs;exact hs
 obtain ⟨q,hq,h1,h2⟩:=iW l n hs
 refine AJ func11 rfl ntmps11 rfl AN ?_;refine AG ?_;refine El ?_;refine AY ?_;refine Ru ?_;refine Pn ?_;refine AT [0,4,10,11,12] (fun (zz:Nat×Nat)=>⟨39,AQ [0,4,10,11,12] [.c (.sl 0 0 n cap 1),Aj (((zz.2:Nat):Int)),.c (.sl 0 0 n cap 1),Aj (((n:Nat):Int)),Aj (((zz.1:Nat):Int))],[.row false (.ab l)]⟩) (fun j=>(j,Pf l j)) (q) K_ ?_ ?_
 ·intro j hj
  have h3:Pf l (j+1)≤65536:=Nat.le_trans (Td l hj) h1
  clear h2
  try dsimp only
  rw [Pf.eq_2] at*
  generalize Pf l j=X at*
  refine NJ ?_;refine Yc ?_;refine T5 ?_;refine BB ?_;refine Dr ?_;refine Yn ?_;refine Hu ?_;refine AY ?_;refine GP ?_;refine Do ?_;exact ⟨(j+1,_),K_,rfl⟩
 ·try dsimp only
  have h3:=hb q
  rw [Pf.eq_2] at h2
  generalize Pf l q=X at*
  refine NJ ?_;refine Yc ?_;refine T5 ?_;refine BB ?_;refine Dr ?_;refine Yn ?_;refine Hu ?_;refine AY ?_;refine GP ?_;refine AS ?_;refine DK (tZ (Ev.val (Ae rfl))) rfl ?_;refine A7 ?_;exact Sq
def Yz(b:AB 8):Nat→Nat
 |0=>0
 |k+1=>Yz b k ||| (nth b k).toNat*2^(8*k)
theorem Wi(x:BitVec 8){k:Nat}(hk:k<4):x.toNat*2^(8*k)<4294967296:=by
 have:=x.isLt
 rcases (by omega:k=0∨k=1∨k=2∨k=3) with rfl | rfl | rfl | rfl<;>omega
theorem co(b:AB 8):∀k,k≤4→Yz b k<4294967296
 |0,_=>by simp [Yz]
 |k+1,h=>Nat.or_lt_two_pow (n:=32) (co b k O_) (Wi _ O_)
def oc(b:AB 8):Option (List (AB 8)):=
 if b.length=0 then some []
 else if _h:b.length<4 then none
 else if (b.drop 4).length<Yz b 4 then none
 else (oc ((b.drop 4).drop (Yz b 4))).map ((b.drop 4).take (Yz b 4):: ·)
termination_by b.length
decreasing_by simp only [List.length_drop];omega
def oV(b:AB 8):List (AB 8)×Nat:=
 if 65536<b.length then ([],2) else match oc b with | some l=>(l,0) | none=>([],2)
theorem aT{b:AB 8}{l:List (AB 8)}(h:b.length≤65536)(hl:oc b=some l):oV b=(l,0):=by
 unfold oV
 rw [if_neg O_,hl]
theorem Up{b:AB 8}(h:65536<b.length∨oc b=none):oV b=([],2):=by
 unfold oV
 split
 ·rfl
 ·rcases h with h | h
  ·omega
  ·rw [h]
theorem oq(out:List (AB 8))(x:AB 8)(o:Option (List (AB 8))):(o.map (x:: ·)).map (out++ ·)=o.map ((out++[x])++ ·):=by
 cases o<;>simp
theorem MU(k:r)(h:Hid r→g:=by intro h;refine AA (Il (b:=0) rfl rfl) rfl ?_;exact h.out):g:=h ⟨k⟩
theorem IZ(k:r)(h:Hid r→g:=by intro h;refine A2 (nX underlying23 HL) AK rfl ?_;exact h.out):g:=h ⟨k⟩
theorem Fa(k:r)(h:Hid r→g:=by intro h;refine AA (Ah rfl) rfl ?_;refine AA (Ah rfl) rfl ?_;exact h.out):g:=h ⟨k⟩
theorem cM(k:r)(h:Hid r→g:=by intro h;refine DK (Zm (Ev.mem (pI rfl rfl underlying23 underlying23 HL Hn O_ AN)) AN Au rfl) rfl ?_;exact h.out):g:=h ⟨k⟩
theorem cB(k:r)(h:Hid r→g:=by intro h;refine A2 (rE underlying22 ep (oA _) rfl CS_ D_ D_ AN) AK rfl ?_;exact h.out):g:=h ⟨k⟩
theorem cZ(b:AB 8)(hb:b.length≤1099511627776):Ev prog (.call 15 [.c (.bs b)] []) (.val (.tup [.c (.sl 0 0 (oV b).1.length (oV b).1.length 1),Aj ((oV b).2:Int)]) [.row true (.ab (oV b).1)]):=by
 refine AJ func15 rfl ntmps15 rfl AN ?_;refine AG ?_;refine KD ?_;by_cases h0:65536<b.length
 ·rw [Up (.inl h0)]
  refine BC ?_;refine Dr ?_;refine GP ?_;refine AS ?_;refine F6 ?_;refine Jn 2 1 (.ab []) rfl rfl AN rfl ?_;exact F7
 ·refine S_ ?_
  refine CX ?_;refine Dr ?_;refine GP ?_;refine AS ?_;refine A7 ?_;refine Jn 4 1 (.ab []) rfl rfl AN rfl ?_;refine S_ ?_;refine DL [0,4] (fun (zz:AB 8×Nat×List (AB 8))=>⟨48,AQ [0,4] [.c (.bs zz.1),.c (.sl 0 0 zz.2.1 zz.2.1 1)],[.row true (.ab zz.2.2)]⟩) (fun zz=>zz.1.length) (fun zz=>oc b=(oc zz.1).map (zz.2.2++ ·)∧zz.2.2.length=zz.2.1∧zz.1.length+zz.2.1≤65536) (b,0,[]) K_ ⟨by simp,rfl,by simp;omega⟩ ?_
  rintro ⟨r,on,out⟩ ⟨hR,hol,hsz⟩
  dsimp only at hR hol hsz ⊢
  rw [oc.eq_1 r] at hR
  by_cases h1:r.length=0
  ·rw [if_pos h1] at hR
   rw [aT (l:=out) O_ (by rw [hR];simp)]
   refine BC ?_;refine Dr ?_;refine MU ?_;refine AM ?_;rw [hol]
   refine BC ?_;exact Cu
  rw [if_neg h1] at hR
  refine BC ?_;refine Dr ?_;refine MU ?_;refine AM ?_;by_cases h2:r.length<4
  ·rw [dif_pos h2] at hR
   rw [Up (.inr (by rw [hR];rfl))]
   refine BC ?_;refine Dr ?_;refine NA ?_;refine AS ?_;refine F6 ?_;refine Jn 2 1 (.ab []) rfl rfl AN rfl ?_;exact F7
  rw [dif_neg h2] at hR
  refine BC ?_;refine Dr ?_;refine NA ?_;refine AS ?_;refine AY ?_;refine A1 ?_;refine AT [0,4,5,16] (fun (zz:Nat×Nat)=>⟨48,AQ [0,4,5,16] [.c (.bs r),.c (.sl 0 0 on on 1),Aj (((zz.2:Nat):Int)),Aj (((zz.1:Nat):Int))],[.row true (.ab out)]⟩) (fun j=>(j,Yz r j)) (4) K_ ?_ ?_
  ·intro j hj
   have h3:=co r j O_
   have h4:=Wi (nth r j) hj
   try dsimp only
   rw [Yz.eq_2]
   generalize Yz r j=X at*
   refine AG ?_;refine NA ?_;refine AW ?_;refine BB ?_;refine AO ?_;refine AA (tw rfl rfl underlying23 CE Dp) rfl ?_;refine AA (qo rfl bB Dp) rfl ?_;refine AA (HA rfl underlying5 underlying3 (zM _)) rfl ?_;refine AO ?_;refine JP ?_;refine DK (Ev.val (vO rfl rfl O_ O_)) rfl ?_;refine DK (Ev.val (xm rfl rfl O_ O_)) rfl ?_;refine Ad ?_;refine FW ?_;exact ⟨(j+1,_),K_,rfl⟩
  ·have h3:=co r 4 O_
   have h5:(r.drop 4).length=r.length-4:=by simp
   try dsimp only
   generalize Yz r 4=n at*
   generalize hr4:r.drop 4=r4 at*
   refine AG ?_;refine NA ?_;refine AW ?_;refine AA (nH (l:=4) rfl rfl underlying23 CE Wo) rfl ?_;refine Bv ?_;rw [hr4]
   by_cases h6:r4.length<n
   ·rw [if_pos h6] at hR
    rw [Up (.inr (by rw [hR];rfl))]
    refine BD ?_;refine Dr ?_;refine VS ?_;refine AS ?_;refine F6 ?_;refine Jn 2 1 (.ab []) rfl rfl AN rfl ?_;exact F7
   rw [if_neg h6,oq] at hR
   have h7:(r4.take n).length=n:=by simp;omega
   have h8:(r4.drop n).length=r4.length-n:=by simp
   refine BD ?_;refine Dr ?_;refine VS ?_;refine AW ?_;refine IZ ?_;refine Fa ?_;refine AA (cQ rfl rfl underlying23 CE Wo) rfl ?_;refine cM ?_;refine cB ?_;refine nZ rfl rfl rfl rfl underlying22 underlying22 ep Hn O_ AN AK rfl ?_;refine BB ?_;refine AA (nH rfl rfl underlying23 CE Wo) rfl ?_;refine Bv ?_;refine ⟨(r4.drop n,on+1,out++[r4.take n]),K_,?_,hR,?_,?_⟩
   ·dsimp only;omega
   ·simp [hol]
   ·dsimp only;omega
abbrev Dn:=List (Int×AB 8)
def EF(D:Dn):List (Value×C1):=D.map fun p=>(.int .i64 p.1,.bs p.2)
def An(D:Dn)(x:Int):AB 8:=match D.find? (fun p=>p.1==x) with | some p=>p.2 | none=>[]
def D9(D:Dn)(x:Int):Prop:= ∃p∈D,p.1=x
structure Xm(D:Dn):Prop where
 dist:D.Pairwise fun p q=>p.1≠q.1
 len:∀p∈D,p.2.length≤100000
theorem Xm.keyed{D:Dn}(h:Xm D):Keyed (.int .i64) (EF D):=by
 refine ⟨fun p hp=>?_,?_⟩
 ·obtain ⟨q,_,rfl⟩:=List.mem_map.1 hp
  exact rfl
 ·unfold EF
  rw [List.pairwise_map]
  refine h.dist.imp fun hne e=>hne (Value.int.inj e).2
theorem nw{D:Dn}{x:Int}(h:D9 D x):(x,An D x)∈D:=by
 unfold An
 cases hf:D.find? (fun p=>p.1==x) with
 |none=>
  obtain ⟨p,hp,rfl⟩:=h
  have:=List.find?_eq_none.1 hf p hp
  simp at this
 |some p=>
  have h1:=List.mem_of_find?_eq_some hf
  have h2:=List.find?_some hf
  simp only [beq_iff_eq] at h2
  subst h2
  exact h1
theorem IH{D:Dn}{x:Int}(h:D9 D x):((.int .i64 x,.bs (An D x)):Value×C1)∈EF D:=List.mem_map.2 ⟨_,nw h,rfl⟩
theorem NS{D:Dn}(hD:Xm D)(x:Int):(An D x).length≤100000:=by
 unfold An
 cases hf:D.find? (fun p=>p.1==x) with
 |none=>exact Nat.zero_le _
 |some p=>exact hD.len p (List.mem_of_find?_eq_some hf)
def LH(l:List (AB 8)):AB 8×Nat:=if jl l≤65536 then (jn l,0) else ([],2)
theorem nl{l:List (AB 8)}{n:Nat}(h:∀x∈l,x.length≤n)(j:Nat):(Ih l j).length≤n:=by
 unfold Ih
 rw [List.getD_eq_getElem?_getD]
 cases hj:l[j]? with
 |none=>exact Nat.zero_le _
 |some x=>exact h x (List.mem_of_getElem? hj)
theorem mS(l:List (AB 8))(n cap:Nat)(hl:l.length=n)(hn:n≤1099511627776)(hb:∀x∈l,x.length≤100000):Ev prog (.call 11 [.c (.sl 0 0 n cap 1)] [.row false (.ab l)]) (.val (.tup [.c (.bs (LH l).1),Aj (((LH l).2:Nat):Int)]) [.row false (.ab l)]):=by
 unfold LH
 by_cases h:jl l≤65536
 ·rw [if_pos h];exact ir l n cap hl hn h
 ·rw [if_neg h];exact bu l n cap hl hn (fun j=>Nat.le_trans (nl hb j) D_) O_
theorem mw(D:Dn)(a:List Int)(j:Nat)(hj:j<a.length):(a.take (j+1)).map (An D)=(a.take j).map (An D)++[An D (AX a j)]:=by
 rw [List.take_succ_eq_append_getElem hj,List.map_append]
 simp only [List.map_cons,List.map_nil,AX,List.getD_eq_getElem?_getD,List.getElem?_eq_getElem hj,Option.getD_some]
theorem Ub(k:r)(h:Hid r→g:=by intro h;refine AA (Ab rfl (gM _ _)) rfl ?_;exact h.out):g:=h ⟨k⟩
theorem VV(k:r)(h:Hid r→g:=by intro h;refine AA (Bj rfl rfl oP Dp rfl) rfl ?_;exact h.out):g:=h ⟨k⟩
theorem Ty(k:r)(h:Hid r→g:=by intro h;refine AA (C5 rfl rfl) rfl ?_;refine AA (C5 rfl rfl) rfl ?_;exact h.out):g:=h ⟨k⟩
theorem RE(L:List Nd)(es:List (Value×C1))(N:Nat)(D:Dn)(a:List Int)(hD:Xm D)(ha:∀x∈a,D9 D x)(hlen:a.length≤400):Ev prog (.call 69 [Ai 0,.c (.is a)] [.row false (.ac [.ptr 1 0,.mp 2]),.row false (.ac [.sl 3 0 N N 3,.mp 4]),.row false (.mp (EF D)),.row false (.an L),.row false (.mp es)])
  (.val (.tup [.c (.bs (LH (a.map (An D))).1),.c (.val (.int .i64 (((LH (a.map (An D))).2:Nat):Int)))]) [.row false (.ac [.ptr 1 0,.mp 2]),.row false (.ac [.sl 3 0 N N 3,.mp 4]),.row false (.mp (EF D)),.row false (.an L),.row false (.mp es)]):=by
 generalize hm:a.length=m at*
 refine AJ func69 rfl ntmps69 rfl AN ?_;refine AG ?_;refine El ?_;refine AY ?_;refine IF ?_;refine Pn ?_;refine Jn 6 1 (.ab []) rfl rfl AN rfl ?_;refine S_ ?_;refine AT [0,6,9,10,11] (fun (zz:Nat×List (AB 8))=>⟨29,AQ [0,6,9,10,11] [Ai 0,.c (.sl 5 0 zz.1 zz.1 1),.c (.is a),Aj ((m:Int)),Aj ((zz.1:Int))],[.row false (.ac [.ptr 1 0,.mp 2]),.row false (.ac [.sl 3 0 N N 3,.mp 4]),.row false (.mp (EF D)),.row false (.an L),.row false (.mp es),.row true (.ab zz.2)]⟩) (fun j=>(j,(a.take j).map (An D))) (m) K_ ?_ ?_
 ·intro j hj
  dsimp only
  have h1:D9 D (AX a j):=ha _ (by simp [AX,show j<a.length by omega])
  have h2:((a.take j).map (An D)).length=j:=by simp;omega
  rw [mw D a j O_]
  generalize (a.take j).map (An D)=u at*
  refine NJ ?_;refine U7 ?_;refine bD ?_;refine Bv ?_;generalize AX a j=x at*
  refine BD ?_;refine KB ?_;refine Ub ?_;refine VV ?_;refine AO ?_;refine DK (IG (c:= .bs (An D x)) underlying85 underlying3 rfl rfl rfl hD.keyed (IH h1)) rfl ?_;refine cB ?_;refine nZ rfl rfl rfl rfl underlying22 underlying22 ep Hn O_ AN AK rfl ?_;refine Ad ?_;refine FW ?_;exact ⟨(j+1,_),K_,rfl⟩
 ·dsimp only
  rw [show a.take m=a by rw [←hm,List.take_length]]
  have h2:(a.map (An D)).length=m:=by simp [hm]
  have h3:∀x∈a.map (An D),x.length≤100000:=fun x hx=>by obtain ⟨y,_,rfl⟩:=List.mem_map.1 hx;exact NS hD y
  generalize a.map (An D)=u at*
  refine Sc ?_;refine AW ?_;refine FC (mS u m m h2 O_ h3) xG ?_;refine Ty ?_;exact Cu
def OA(X1:AB 8):AB 8:=X1++[0#8]
def Ea(b:AB 8):Nat→AB 8
 |0=>b
 |j1+1=>OA (Ea b j1)
@[simp] theorem Kb(b:AB 8)(j1:Nat):(Ea b j1).length=b.length+j1:=by
 induction j1 with
 |zero=>(simp [Ea, *];done)
 |succ j1 ih=>rw [Ea.eq_2,OA];(simp [ih];omega)
def Jo(b:AB 8):AB 8:=(Ea b ((16-b.length%16)%16))
theorem Fv(k:r)(h:Hid r→g:=by intro h;refine S_ ?_;refine Ac ?_;refine AA (Ah rfl) rfl ?_;refine AA (Ku rfl underlying23) rfl ?_;exact h.out):g:=h ⟨k⟩
theorem Fu(k:r)(h:Hid r→g:=by intro h;refine AA (GL (b:=0) rfl rfl) rfl ?_;refine AM ?_;refine S_ ?_;refine Ac ?_;refine AA (Ah rfl) rfl ?_;exact h.out):g:=h ⟨k⟩
theorem Ur(k:r)(h:Hid r→g:=by intro h;refine A2 (Wf (l:=[0#8]) underlying23 HL rfl rfl D_ D_ AN) AK rfl ?_;exact h.out):g:=h ⟨k⟩
theorem Ik(k:r)(h:Hid r→g:=by intro h;refine AA (GL (b:=0) rfl rfl) rfl ?_;exact h.out):g:=h ⟨k⟩
theorem WY(b:AB 8)(n cap:Nat)(hb:b.length=n)(hn:n≤1099511627776):Ev prog (.call 146 [.c (.sl 0 0 n cap 1)] [CP (b)]) (.val (.c (.sl 1 0 (n+(16-n%16)%16) (n+(16-n%16)%16) 1)) [.dead,CP (Jo b)]):=by
 have hP:=Hid.mk (Jo.eq_1 b)
 try simp only [hb] at hP
 refine AJ func146 rfl ntmps146 rfl AN ?_;refine AG ?_;refine A7 ?_;refine mK 0 rfl rfl AN rfl ?_;refine S_ ?_;refine AT [0] (fun (zz:Nat×AB 8)=>⟨11,AQ [0] [.c (.sl 1 0 (n+zz.1) (n+zz.1) 1)],[.dead,CP (zz.2)]⟩) (fun j1=>(j1,Ea b j1)) ((16-n%16)%16) K_ ?_ ?_
 ·intro j1 hj1
  try dsimp only
  have hX1:(Ea b j1).length=n+j1:=by rw [Kb b _];try omega
  rw [Ea.eq_2,OA]
  try simp only [hb]
  generalize Ea b j1=X1 at*
  refine Fv ?_;refine AA (IS (b:=16) rfl rfl O_ O_) rfl ?_;refine Fu ?_;refine Ur ?_;refine Cl ?_;refine Bv ?_;exact ⟨(j1+1,_),K_,rfl⟩
 ·try dsimp only
  have hY2:(Ea b ((16-n%16)%16)).length=n+(16-n%16)%16:=by rw [Kb b _];try omega
  generalize Ea b ((16-n%16)%16)=Y2 at*
  refine Fv ?_;refine AA (IS (b:=16) rfl rfl O_ O_) rfl ?_;refine Ik ?_;refine CU ?_;rw [hP.out]
  exact FB
@[simp] theorem vN(b:AB 8):(Jo b).length=b.length+(16-b.length%16)%16:=by
 unfold Jo
 (simp [Kb, *];done)
attribute [irreducible] Jo
def DE(x:BitVec 32)(k:Int):BitVec 32:=(x<<<((BitVec.ofInt 64 k)&&&31#64).toNat) ||| (x>>>(32#64-((BitVec.ofInt 64 k)&&&31#64)).toNat)
theorem C6(x:BitVec 32)(k:Int):Ev prog (.call 63 [.c (.val (Es x)),Aj k] []) (.val (.c (.val (Es (DE x k)))) []):=by
 have hP:=Hid.mk (DE.eq_1 x k)
 refine AJ func63 rfl ntmps63 rfl AN ?_;refine Hk ?_;refine AA (HA rfl underlying3 underlying71 (sE _)) rfl ?_;refine AA (FE (b:=31#64) rfl rfl) rfl ?_;refine BB ?_;refine AA (kz rfl rfl) rfl ?_;refine Fa ?_;refine AA (YB (a:=32#64) rfl rfl) rfl ?_;refine AA (oI rfl rfl) rfl ?_;refine AA (uW rfl rfl) rfl ?_;refine A7 ?_;rw [hP.out]
 exact FB
attribute [irreducible] DE
def F0(x:BitVec 64)(k:Int):BitVec 64:=(x<<<((BitVec.ofInt 64 k)&&&63#64).toNat) ||| (x>>>(64#64-((BitVec.ofInt 64 k)&&&63#64)).toNat)
theorem FY(k:r)(h:Hid r→g:=by intro h;refine AA (VD rfl rfl) rfl ?_;exact h.out):g:=h ⟨k⟩
theorem E2(x:BitVec 64)(k:Int):Ev prog (.call 171 [.c (.val (BP x)),Aj k] []) (.val (.c (.val (BP (F0 x k)))) []):=by
 have hP:=Hid.mk (F0.eq_1 x k)
 refine AJ func171 rfl ntmps171 rfl AN ?_;refine Hk ?_;refine AA (HA rfl underlying3 underlying71 (sE _)) rfl ?_;refine AA (FE (b:=63#64) rfl rfl) rfl ?_;refine BB ?_;refine AA (lF rfl rfl) rfl ?_;refine Fa ?_;refine AA (YB (a:=64#64) rfl rfl) rfl ?_;refine AA (ll rfl rfl) rfl ?_;refine FY ?_;refine A7 ?_;rw [hP.out]
 exact FB
attribute [irreducible] F0
def Mv(x:AB 32)(a b:Nat):AB 32:=put x a ((nth x a)+(nth x b))
@[simp] theorem aE(x:AB 32)(a b:Nat):(Mv x a b).length=x.length:=by simp [Mv]
def Mu(a d:Nat)(X1:AB 32):AB 32:=put X1 d (DE ((nth X1 d)^^^(nth X1 a)) ((16:Nat):Int))
@[simp] theorem aI(a d:Nat)(X1:AB 32):(Mu a d X1).length=X1.length:=by simp [Mu]
def MC(c d:Nat)(X2:AB 32):AB 32:=put X2 c ((nth X2 c)+(nth X2 d))
@[simp] theorem aH(c d:Nat)(X2:AB 32):(MC c d X2).length=X2.length:=by simp [MC]
def Ml(b c:Nat)(X3:AB 32):AB 32:=put X3 b (DE ((nth X3 b)^^^(nth X3 c)) ((12:Nat):Int))
@[simp] theorem Zk(b c:Nat)(X3:AB 32):(Ml b c X3).length=X3.length:=by simp [Ml]
def L6(a b:Nat)(X4:AB 32):AB 32:=put X4 a ((nth X4 a)+(nth X4 b))
@[simp] theorem bP(a b:Nat)(X4:AB 32):(L6 a b X4).length=X4.length:=by simp [L6]
def MS(a d:Nat)(X5:AB 32):AB 32:=put X5 d (DE ((nth X5 d)^^^(nth X5 a)) ((8:Nat):Int))
@[simp] theorem Zc(a d:Nat)(X5:AB 32):(MS a d X5).length=X5.length:=by simp [MS]
def Lt(c d:Nat)(X6:AB 32):AB 32:=put X6 c ((nth X6 c)+(nth X6 d))
@[simp] theorem bC(c d:Nat)(X6:AB 32):(Lt c d X6).length=X6.length:=by simp [Lt]
def Lp(b c:Nat)(X7:AB 32):AB 32:=put X7 b (DE ((nth X7 b)^^^(nth X7 c)) ((7:Nat):Int))
@[simp] theorem Zy(b c:Nat)(X7:AB 32):(Lp b c X7).length=X7.length:=by simp [Lp]
def Be(x:AB 32)(a b c d:Nat):AB 32:=(Lp b c (Lt c d (MS a d (L6 a b (Ml b c (MC c d (Mu a d (Mv x a b))))))))
abbrev VZ(x:List (BitVec 32)):Row:= .row true (.a32 x)
theorem At{A B:Prop}(a:A)(b:B)(k:r)(h:A→B→Hid r→g:=by intro a b h;refine Iv (AZ (bs:=[]) a b K_ K_ rfl Bb) AK rfl ?_;exact h.out):g:=h a b ⟨k⟩
theorem Pp(k:r)(h:Hid r→g:=by intro h;refine EQ 13 mixed K_ rfl rfl rfl ?_;exact h.out):g:=h ⟨k⟩
theorem Fy(k:r)(h:Hid r→g:=by intro h;refine AE (Ft rfl) rfl ?_;refine AE (AP rfl rfl underlying181 CW O_) rfl ?_;refine AE (Un rfl rfl YZ Dp) rfl ?_;exact h.out):g:=h ⟨k⟩
theorem Hh(k:r)(h:Hid r→g:=by intro h;refine AE (RC rfl rfl) rfl ?_;exact h.out):g:=h ⟨k⟩
theorem OR(k:r)(h:Hid r→g:=by intro h;refine AE (Ft rfl) rfl ?_;refine AE (AP rfl rfl underlying181 CW O_) rfl ?_;exact h.out):g:=h ⟨k⟩
theorem LB(k:r)(h:Hid r→g:=by intro h;refine Bc ?_;refine LP rfl rfl rfl CW Dp AK ?_;exact h.out):g:=h ⟨k⟩
theorem OS(k:r)(h:Hid r→g:=by intro h;refine EQ 16 mixed K_ rfl rfl rfl ?_;exact h.out):g:=h ⟨k⟩
theorem KL(x:AB 32)(a b c d:Nat)(hx:x.length=16)(ha:a≤1099511627776)(hb:b≤1099511627776)(hc:c≤1099511627776)(hd:d≤1099511627776)(la:a<16)(lb:b<16)(lc:c<16)(ld:d<16):Ev prog (.call 149 [Ai 0,Aj ((a:Nat):Int),Aj ((b:Nat):Int),Aj ((c:Nat):Int),Aj ((d:Nat):Int)] [VZ (x)]) (.val (.tup []) [VZ (Be x a b c d)]):=by
 have hP_quar:Hid (Be x a b c d=(Lp b c (Lt c d (MS a d (L6 a b (Ml b c (MC c d (Mu a d (Mv x a b))))))))):=⟨rfl⟩
 refine AJ func149 rfl ntmps149 rfl AN ?_;refine S_ ?_;refine Pp ?_;refine By ?_;refine Fy ?_;refine By ?_;refine Fy ?_;refine Hh ?_;refine OR ?_;refine LB ?_;refine AM ?_;rw [show (put x a ((nth x a)+(nth x b)))=Mv x a b from rfl]
 have hX1:(Mv x a b).length=16:=Au
 generalize Mv x a b=X1 at*
 refine S_ ?_;refine OS ?_;refine By ?_;refine By ?_;refine Fy ?_;refine By ?_;refine Fy ?_;refine AE (O9 rfl rfl) rfl ?_;refine At (C6 ((nth X1 d)^^^(nth X1 a)) ((16:Nat):Int)) KR ?_;refine OR ?_;refine LB ?_;refine AM ?_;rw [show (put X1 d (DE ((nth X1 d)^^^(nth X1 a)) ((16:Nat):Int)))=Mu a d X1 from rfl]
 have hX2:(Mu a d X1).length=16:=Au
 generalize Mu a d X1=X2 at*
 refine S_ ?_;refine Pp ?_;refine By ?_;refine Fy ?_;refine By ?_;refine Fy ?_;refine Hh ?_;refine OR ?_;refine LB ?_;refine AM ?_;rw [show (put X2 c ((nth X2 c)+(nth X2 d)))=MC c d X2 from rfl]
 have hX3:(MC c d X2).length=16:=Au
 generalize MC c d X2=X3 at*
 refine S_ ?_;refine OS ?_;refine By ?_;refine By ?_;refine Fy ?_;refine By ?_;refine Fy ?_;refine AE (O9 rfl rfl) rfl ?_;refine At (C6 ((nth X3 b)^^^(nth X3 c)) ((12:Nat):Int)) KR ?_;refine OR ?_;refine LB ?_;refine AM ?_;rw [show (put X3 b (DE ((nth X3 b)^^^(nth X3 c)) ((12:Nat):Int)))=Ml b c X3 from rfl]
 have hX4:(Ml b c X3).length=16:=Au
 generalize Ml b c X3=X4 at*
 refine S_ ?_;refine Pp ?_;refine By ?_;refine Fy ?_;refine By ?_;refine Fy ?_;refine Hh ?_;refine OR ?_;refine LB ?_;refine AM ?_;rw [show (put X4 a ((nth X4 a)+(nth X4 b)))=L6 a b X4 from rfl]
 have hX5:(L6 a b X4).length=16:=Au
 generalize L6 a b X4=X5 at*
 refine S_ ?_;refine OS ?_;refine By ?_;refine By ?_;refine Fy ?_;refine By ?_;refine Fy ?_;refine AE (O9 rfl rfl) rfl ?_;refine At (C6 ((nth X5 d)^^^(nth X5 a)) ((8:Nat):Int)) KR ?_;refine OR ?_;refine LB ?_;refine AM ?_;rw [show (put X5 d (DE ((nth X5 d)^^^(nth X5 a)) ((8:Nat):Int)))=MS a d X5 from rfl]
 have hX6:(MS a d X5).length=16:=Au
 generalize MS a d X5=X6 at*
 refine S_ ?_;refine Pp ?_;refine By ?_;refine Fy ?_;refine By ?_;refine Fy ?_;refine Hh ?_;refine OR ?_;refine LB ?_;refine AM ?_;rw [show (put X6 c ((nth X6 c)+(nth X6 d)))=Lt c d X6 from rfl]
 have hX7:(Lt c d X6).length=16:=Au
 generalize Lt c d X6=X7 at*
 refine S_ ?_;refine OS ?_;refine By ?_;refine By ?_;refine Fy ?_;refine By ?_;refine Fy ?_;refine AE (O9 rfl rfl) rfl ?_;refine At (C6 ((nth X7 b)^^^(nth X7 c)) ((7:Nat):Int)) KR ?_;refine OR ?_;refine LB ?_;refine AM ?_;rw [show (put X7 b (DE ((nth X7 b)^^^(nth X7 c)) ((7:Nat):Int)))=Lp b c X7 from rfl]
 have hX8:(Lp b c X7).length=16:=Au
 generalize Lp b c X7=X8 at*
 refine S_ ?_;rw [hP_quar.out]
 exact uq (by (exact .inr rfl)) (by (kernel_rfl))
@[simp] theorem wz(x:AB 32)(a b c d:Nat):(Be x a b c d).length=x.length:=by
 unfold Be
 (simp [aE,aI,aH,Zk,bP,Zc,bC,Zy, *];done)
attribute [irreducible] Be
def VX(b:AB 8)(o:Nat)(X1:BitVec 64)(j3:Nat):BitVec 64:=X1 ||| (((nth b (o+j3)).setWidth 64)<<<(8*j3))
def LL(b:AB 8)(o:Nat):Nat→BitVec 64
 |0=>0#64
 |j3+1=>VX b o (LL b o j3) j3
def bA(b:AB 8)(o n:Nat):BitVec 64:=(LL b o n)
abbrev B1(x:List (BitVec 8)):Row:= .row false (.a8 x)
theorem Bt(k:r)(h:Hid r→g:=by intro h;refine AA (Ku rfl underlying23) rfl ?_;exact h.out):g:=h ⟨k⟩
theorem dZ(k:r)(h:Hid r→g:=by intro h;refine AA (YX rfl rfl underlying23 CE O_) rfl ?_;exact h.out):g:=h ⟨k⟩
theorem Fs(k:r)(h:Hid r→g:=by intro h;refine AA (Xy rfl rfl bB Dp) rfl ?_;exact h.out):g:=h ⟨k⟩
theorem bw(k:r)(h:Hid r→g:=by intro h;refine AA (HA rfl underlying5 underlying70 (sP _)) rfl ?_;exact h.out):g:=h ⟨k⟩
theorem ZN(b:AB 8)(o n cap:Nat)(hb:o+n≤b.length)(hn:n≤8796093022208):Ev prog (.call 148 [.c (.sl 0 o n cap 1)] [B1 (b)]) (.val (.c (.val (BP (bA b o n)))) [B1 (b)]):=by
 have hP:=Hid.mk (bA.eq_1 b o n)
 refine AJ func148 rfl ntmps148 rfl AN ?_;refine P7 ?_;refine AY ?_;refine Bt ?_;refine Pn ?_;refine AT [3,6,7,8] (fun (zz:Nat×BitVec 64)=>⟨22,AQ [3,6,7,8] [.c (.val (BP (zz.2))),.c (.sl 0 o n cap 1),Aj (((n:Nat):Int)),Aj (((zz.1:Nat):Int))],[B1 (b)]⟩) (fun j3=>(j3,LL b o j3)) (n) K_ ?_ ?_
 ·intro j3 hj3
  try dsimp only
  rw [LL.eq_2,VX]
  generalize LL b o j3=X1 at*
  refine Sc ?_;refine AW ?_;refine dZ ?_;refine Fs ?_;refine Fm ?_;refine BB ?_;refine bw ?_;refine AO ?_;refine JP ?_;refine AA (B2 rfl rfl) rfl ?_;refine FY ?_;refine Ad ?_;refine FW ?_;exact ⟨(j3+1,_),K_,rfl⟩
 ·try dsimp only
  generalize LL b o n=Y2 at*
  refine Sc ?_;refine CU ?_;rw [hP.out]
  exact FB
attribute [irreducible] bA
def M3(key:AB 8)(X1:AB 32)(j3:Nat):AB 32:=put X1 (4+j3) ((bA key (4*j3) (((4*j3)+4)-(4*j3))).setWidth 32)
def C8(key:AB 8):Nat→AB 32
 |0=>put (put (put (put (Nc 16) 0 1634760805#32) 1 857760878#32) 2 2036477234#32) 3 1797285236#32
 |j3+1=>M3 key (C8 key j3) j3
@[simp] theorem Jm(key:AB 8)(j3:Nat):(C8 key j3).length=16:=by
 induction j3 with
 |zero=>(simp [C8, *];done)
 |succ j3 ih=>rw [C8.eq_2,M3];(simp [ih];done)
def Ma(nonce:AB 8)(X3:AB 32)(j9:Nat):AB 32:=put X3 (13+j9) ((bA nonce (4*j9) (((4*j9)+4)-(4*j9))).setWidth 32)
def C9(counter:BitVec 32)(nonce:AB 8)(Y2:AB 32):Nat→AB 32
 |0=>put Y2 12 counter
 |j9+1=>Ma nonce (C9 counter nonce Y2 j9) j9
theorem Js(counter:BitVec 32)(nonce:AB 8)(Y2:AB 32)(hY2:Y2.length=16)(j9:Nat):(C9 counter nonce Y2 j9).length=16:=by
 induction j9 with
 |zero=>(simp [C9, *];done)
 |succ j9 ih=>rw [C9.eq_2,Ma];(simp [ih];done)
def K4(X5:AB 32):AB 32:=Be (Be (Be (Be (Be (Be (Be (Be X5 0 4 8 12) 1 5 9 13) 2 6 10 14) 3 7 11 15) 0 5 10 15) 1 6 11 12) 2 7 8 13) 3 4 9 14
def Cy(Y4:AB 32):Nat→AB 32
 |0=>Y4
 |j15+1=>K4 (Cy Y4 j15)
theorem In(Y4:AB 32)(hY4:Y4.length=16)(j15:Nat):(Cy Y4 j15).length=16:=by
 induction j15 with
 |zero=>(simp [Cy, *];done)
 |succ j15 ih=>rw [Cy.eq_2,K4];(simp [ih];done)
def Kc(Y4 Y14:AB 32)(X15:AB 8)(j27:Nat):AB 8:=put X15 j27 ((((nth Y14 (j27/4))+(nth Y4 (j27/4)))>>>(8*(j27%4))).setWidth 8)
def Cz(Y4 Y14:AB 32):Nat→AB 8
 |0=>Am 64
 |j27+1=>Kc Y4 Y14 (Cz Y4 Y14 j27) j27
@[simp] theorem Ir(Y4 Y14:AB 32)(j27:Nat):(Cz Y4 Y14 j27).length=64:=by
 induction j27 with
 |zero=>(simp [Cz, *];done)
 |succ j27 ih=>rw [Cz.eq_2,Kc];(simp [ih];done)
def Dl(key:AB 8)(counter:BitVec 32)(nonce:AB 8):AB 8:=(Cz (C9 counter nonce (C8 key 8) 3) (Cy (C9 counter nonce (C8 key 8) 3) 10) 64)
abbrev Co(x:List (BitVec 8)):AV:= .agg (.a8 x)
theorem Mq{A B:Prop}(a:A)(b:B)(k:r)(h:A→B→Hid r→g:=by intro a b h;refine Bq (AZ (bs:=[0]) a b K_ K_ rfl Bb) AK rfl ?_;exact h.out):g:=h a b ⟨k⟩
theorem YN{A B:Prop}(a:A)(b:B)(k:r)(h:A→B→Hid r→g:=by intro a b h;refine DK (Eg (bs:=[2]) a b K_ rfl rfl Bb AK) rfl ?_;exact h.out):g:=h a b ⟨k⟩
theorem B5(k:r)(h:Hid r→g:=by intro h;refine S_ ?_;refine Ac ?_;refine A2 (WZ vh AN) AK rfl ?_;refine A2 (WZ vh AN) AK rfl ?_;exact h.out):g:=h ⟨k⟩
theorem J3(k:r)(h:Hid r→g:=by intro h;refine A2 (BR tk AN) AK rfl ?_;exact h.out):g:=h ⟨k⟩
theorem DF(k:r)(h:Hid r→g:=by intro h;refine AM ?_;refine S_ ?_;refine Ac ?_;refine AA (Ah rfl) rfl ?_;refine AM ?_;refine S_ ?_;exact h.out):g:=h ⟨k⟩
theorem SI(k:r)(h:Hid r→g:=by intro h;refine AA (Ls (a:=4) rfl rfl O_) rfl ?_;exact h.out):g:=h ⟨k⟩
theorem UT(k:r)(h:Hid r→g:=by intro h;refine AA (Dx (b:=4) rfl rfl O_) rfl ?_;exact h.out):g:=h ⟨k⟩
theorem dN(k:r)(h:Hid r→g:=by intro h;refine AA (HA rfl underlying70 underlying106 (te _)) rfl ?_;exact h.out):g:=h ⟨k⟩
theorem Rb(k:r)(h:Hid r→g:=by intro h;refine AA (BE (b:=64) rfl rfl) rfl ?_;exact h.out):g:=h ⟨k⟩
theorem GM(k:r)(h:Hid r→g:=by intro h;refine AE (Un rfl rfl YZ Dp) rfl ?_;exact h.out):g:=h ⟨k⟩
theorem A0(k:r)(h:Hid r→g:=by intro h;refine AE (Ah rfl) rfl ?_;exact h.out):g:=h ⟨k⟩
theorem Cq(k:r)(h:Hid r→g:=by intro h;refine aO rfl rfl rfl CE Dp AK ?_;exact h.out):g:=h ⟨k⟩
theorem Rh(k:r)(h:Hid r→g:=by intro h;refine AA (BE (a:=64) (b:=64) rfl rfl) rfl ?_;exact h.out):g:=h ⟨k⟩
theorem dS(k:r)(h:Hid r→g:=by intro h;refine AA (Bi rfl rfl TD Ud C7 D_) rfl ?_;exact h.out):g:=h ⟨k⟩
theorem MK(k:r)(h:Hid r→g:=by intro h;refine B0 rfl rfl rfl rfl Ud C7 C7 AK ?_;exact h.out):g:=h ⟨k⟩
theorem VK(key:AB 8)(counter:BitVec 32)(nonce:AB 8)(hkey:key.length=32)(hnonce:nonce.length=12):Ev prog (.call 109 [Co (key),.c (.val (Es counter)),Co (nonce)] []) (.val (Co (Dl key counter nonce)) []):=by
 have hP:=Hid.mk (Dl.eq_1 key counter nonce)
 refine AJ func109 rfl ntmps109 rfl AN ?_;refine B5 ?_;refine J3 ?_;refine AS ?_;refine AA (ol (l:=(put (put (put (put (Nc 16) 0 (1634760805#32)) 1 (857760878#32)) 2 (2036477234#32)) 3 (1797285236#32))) ug underlying181 CW rfl rfl) rfl ?_;refine A2 (BR ko AN) AK rfl ?_;refine B0 rfl rfl rfl rfl cW C7 C7 AK ?_;refine DF ?_;refine AT [1,3,5,6,7,14] (fun (zz:Nat×AB 32)=>⟨79,AQ [1,3,5,6,7,14] [.c (.val (Es (counter))),Ai 0,Ai 1,Ai 2,Ai 3,Aj (((zz.1:Nat):Int))],[CP (key),CP (nonce),CP (Am 64),VZ (zz.2)]⟩) (fun j3=>(j3,C8 key j3)) (8) K_ ?_ ?_
 ·intro j3 hj3
  try dsimp only
  have hX1:(C8 key j3).length=16:=by rw [Jm key _];try omega
  rw [C8.eq_2,M3]
  generalize C8 key j3=X1 at*
  refine AG ?_;refine Pz ?_;refine AW ?_;refine AY ?_;refine Yn ?_;refine AO ?_;refine SI ?_;refine AO ?_;refine SI ?_;refine UT ?_;refine AA (HX rfl underlying37 CE rfl rfl rfl O_ O_ Rx rfl rfl) rfl ?_;refine Mq (ZN key (4*j3) (((4*j3)+4)-(4*j3)) (32-(4*j3)) AD AD) kp ?_;refine dN ?_;refine AA (AP rfl rfl underlying181 CW O_) rfl ?_;refine LP rfl rfl rfl CW Dp AK ?_;refine Do ?_;exact ⟨(j3+1,_),K_,rfl⟩
 ·try dsimp only
  have hY2:(C8 key 8).length=16:=by rw [Jm key _];try omega
  generalize C8 key 8=Y2 at*
  refine AG ?_;refine Tn ?_;refine AW ?_;refine AA (AP (j:=12) rfl rfl underlying181 CW O_) rfl ?_;refine LP rfl rfl rfl CW Dp AK ?_;refine DF ?_;refine AT [5,6,7,31] (fun (zz:Nat×AB 32)=>⟨79,AQ [5,6,7,31] [Ai 0,Ai 1,Ai 2,Aj (((zz.1:Nat):Int))],[CP (nonce),CP (Am 64),VZ (zz.2)]⟩) (fun j9=>(j9,C9 counter nonce Y2 j9)) (3) K_ ?_ ?_
  ·intro j9 hj9
   try dsimp only
   have hX3:(C9 counter nonce Y2 j9).length=16:=by rw [Js counter nonce Y2 hY2 _];try omega
   rw [C9.eq_2,Ma]
   generalize C9 counter nonce Y2 j9=X3 at*
   refine AG ?_;refine AA (BE (b:=3) rfl rfl) rfl ?_;refine AW ?_;refine AY ?_;refine AA (Dx (a:=13) rfl rfl O_) rfl ?_;refine AO ?_;refine SI ?_;refine AO ?_;refine SI ?_;refine UT ?_;refine AA (HX rfl underlying98 CE rfl rfl rfl O_ O_ Rx rfl rfl) rfl ?_;refine Mq (ZN nonce (4*j9) (((4*j9)+4)-(4*j9)) (12-(4*j9)) AD AD) kp ?_;refine dN ?_;refine AA (AP rfl rfl underlying181 CW O_) rfl ?_;refine LP rfl rfl rfl CW Dp AK ?_;refine Do ?_;exact ⟨(j9+1,_),K_,rfl⟩
  ·try dsimp only
   have hY4:(C9 counter nonce Y2 3).length=16:=by rw [Js counter nonce Y2 hY2 _];try omega
   generalize C9 counter nonce Y2 3=Y4 at*
   refine AG ?_;refine AA (BE (a:=3) (b:=3) rfl rfl) rfl ?_;refine AS ?_;refine AA (Bi rfl rfl pg cW C7 D_) rfl ?_;refine A2 (BR ko AN) AK rfl ?_;refine B0 rfl rfl rfl rfl cW C7 C7 AK ?_;refine DF ?_;refine AT [6,7,10,47] (fun (zz:Nat×AB 32)=>⟨79,AQ [6,7,10,47] [Ai 0,Ai 1,Ai 2,Aj (((zz.1:Nat):Int))],[CP (Am 64),VZ (Y4),VZ (zz.2)]⟩) (fun j15=>(j15,Cy Y4 j15)) (10) K_ ?_ ?_
   ·intro j15 hj15
    try dsimp only
    have hX5:(Cy Y4 j15).length=16:=by rw [In Y4 hY4 _];try omega
    rw [Cy.eq_2,K4]
    generalize Cy Y4 j15=X5 at*
    refine AG ?_;refine AA (BE (b:=10) rfl rfl) rfl ?_;refine AM ?_;have hQ6:(Be X5 0 4 8 12).length=16:=Au
    refine AG ?_;refine YN (KL X5 0 4 8 12 AD AD AD AD AD AD AD AD AD) OG ?_;refine AM ?_;have hQ7:(Be (Be X5 0 4 8 12) 1 5 9 13).length=16:=Au
    refine AG ?_;refine YN (KL (Be X5 0 4 8 12) 1 5 9 13 AD AD AD AD AD AD AD AD AD) OG ?_;refine AM ?_;have hQ8:(Be (Be (Be X5 0 4 8 12) 1 5 9 13) 2 6 10 14).length=16:=Au
    refine AG ?_;refine YN (KL (Be (Be X5 0 4 8 12) 1 5 9 13) 2 6 10 14 AD AD AD AD AD AD AD AD AD) OG ?_;refine AM ?_;have hQ9:(Be (Be (Be (Be X5 0 4 8 12) 1 5 9 13) 2 6 10 14) 3 7 11 15).length=16:=Au
    refine AG ?_;refine YN (KL (Be (Be (Be X5 0 4 8 12) 1 5 9 13) 2 6 10 14) 3 7 11 15 AD AD AD AD AD AD AD AD AD) OG ?_;refine AM ?_;have hQ10:(Be (Be (Be (Be (Be X5 0 4 8 12) 1 5 9 13) 2 6 10 14) 3 7 11 15) 0 5 10 15).length=16:=Au
    refine AG ?_;refine YN (KL (Be (Be (Be (Be X5 0 4 8 12) 1 5 9 13) 2 6 10 14) 3 7 11 15) 0 5 10 15 AD AD AD AD AD AD AD AD AD) OG ?_;refine AM ?_;have hQ11:(Be (Be (Be (Be (Be (Be X5 0 4 8 12) 1 5 9 13) 2 6 10 14) 3 7 11 15) 0 5 10 15) 1 6 11 12).length=16:=Au
    refine AG ?_;refine YN (KL (Be (Be (Be (Be (Be X5 0 4 8 12) 1 5 9 13) 2 6 10 14) 3 7 11 15) 0 5 10 15) 1 6 11 12 AD AD AD AD AD AD AD AD AD) OG ?_;refine AM ?_;have hQ12:(Be (Be (Be (Be (Be (Be (Be X5 0 4 8 12) 1 5 9 13) 2 6 10 14) 3 7 11 15) 0 5 10 15) 1 6 11 12) 2 7 8 13).length=16:=Au
    refine AG ?_;refine YN (KL (Be (Be (Be (Be (Be (Be X5 0 4 8 12) 1 5 9 13) 2 6 10 14) 3 7 11 15) 0 5 10 15) 1 6 11 12) 2 7 8 13 AD AD AD AD AD AD AD AD AD) OG ?_;refine AM ?_;have hQ13:(Be (Be (Be (Be (Be (Be (Be (Be X5 0 4 8 12) 1 5 9 13) 2 6 10 14) 3 7 11 15) 0 5 10 15) 1 6 11 12) 2 7 8 13) 3 4 9 14).length=16:=Au
    refine AG ?_;refine YN (KL (Be (Be (Be (Be (Be (Be (Be X5 0 4 8 12) 1 5 9 13) 2 6 10 14) 3 7 11 15) 0 5 10 15) 1 6 11 12) 2 7 8 13) 3 4 9 14 AD AD AD AD AD AD AD AD AD) OG ?_;refine Do ?_;exact ⟨(j15+1,_),K_,rfl⟩
   ·try dsimp only
    have hY14:(Cy Y4 10).length=16:=by rw [In Y4 hY4 _];try omega
    generalize Cy Y4 10=Y14 at*
    refine AG ?_;refine AA (BE (a:=10) (b:=10) rfl rfl) rfl ?_;refine AS ?_;refine J3 ?_;refine DF ?_;refine AT [6,7,10,11,58] (fun (zz:Nat×AB 8)=>⟨79,AQ [6,7,10,11,58] [Ai 0,Ai 1,Ai 2,Ai 3,Aj (((zz.1:Nat):Int))],[CP (Am 64),VZ (Y4),VZ (Y14),CP (zz.2)]⟩) (fun j27=>(j27,Cz Y4 Y14 j27)) (64) K_ ?_ ?_
    ·intro j27 hj27
     try dsimp only
     have hX15:(Cz Y4 Y14 j27).length=64:=by rw [Ir Y4 Y14 _];try omega
     rw [Cz.eq_2,Kc]
     generalize Cz Y4 Y14 j27=X15 at*
     refine AG ?_;refine Rb ?_;refine CU ?_;refine OS ?_;refine By ?_;refine AE (SD (b:=4) rfl rfl O_ O_) rfl ?_;refine AE (AP rfl rfl underlying181 CW O_) rfl ?_;refine GM ?_;refine A0 ?_;refine AE (SD (b:=4) rfl rfl O_ O_) rfl ?_;refine AE (AP rfl rfl underlying181 CW O_) rfl ?_;refine GM ?_;refine Hh ?_;refine A0 ?_;refine AE (IS (b:=4) rfl rfl O_ O_) rfl ?_;refine AE (Ls (a:=8) rfl rfl O_) rfl ?_;refine AE (Q7 rfl rfl) rfl ?_;refine AE (HA rfl underlying106 underlying5 (sA _)) rfl ?_;refine AE (AP rfl rfl underlying105 CE O_) rfl ?_;refine Bc ?_;refine Cq ?_;refine Do ?_;exact ⟨(j27+1,_),K_,rfl⟩
    ·try dsimp only
     have hY16:(Cz Y4 Y14 64).length=64:=by rw [Ir Y4 Y14 _];try omega
     generalize Cz Y4 Y14 64=Y16 at*
     refine AG ?_;refine Rh ?_;refine AS ?_;refine dS ?_;refine MK ?_;refine A1 ?_;rw [hP.out]
     exact fS (Iy rfl rfl TD Ud C7 D_) (by (kernel_rfl))
@[simp] theorem rj(key:AB 8)(counter:BitVec 32)(nonce:AB 8)(_hkey:key.length=32)(_hnonce:nonce.length=12):(Dl key counter nonce).length=64:=by
 unfold Dl
 (simp [Ir, *];done)
attribute [irreducible] Dl
def Mm(key:AB 8)(counter:BitVec 32)(nonce:AB 8)(j3:Nat)(X3:AB 8)(j7:Nat):AB 8:=put X3 ((64*j3)+j7) ((nth X3 ((64*j3)+j7))^^^(nth (Dl key (counter+(BitVec.ofNat 32 ((64*j3)/64))) nonce) (((64*j3)+j7)-(64*j3))))
def ES(key:AB 8)(counter:BitVec 32)(nonce X1:AB 8)(j3:Nat):Nat→AB 8
 |0=>X1
 |j7+1=>Mm key counter nonce j3 (ES key counter nonce X1 j3 j7) j7
@[simp] theorem I9(key:AB 8)(counter:BitVec 32)(nonce X1:AB 8)(j3 j7:Nat):(ES key counter nonce X1 j3 j7).length=X1.length:=by
 induction j7 with
 |zero=>(simp [ES, *];done)
 |succ j7 ih=>rw [ES.eq_2,Mm];(simp [ih];done)
def L2(key:AB 8)(counter:BitVec 32)(nonce t X1:AB 8)(j3:Nat):AB 8:=(ES key counter nonce X1 j3 (min (64*j3+64) t.length-64*j3))
def ER(key:AB 8)(counter:BitVec 32)(nonce t:AB 8):Nat→AB 8
 |0=>t
 |j3+1=>L2 key counter nonce t (ER key counter nonce t j3) j3
theorem Gn(key:AB 8)(counter:BitVec 32)(nonce t:AB 8)(_hkey:key.length=32)(_hnonce:nonce.length=12)(j3:Nat):(ER key counter nonce t j3).length=t.length:=by
 induction j3 with
 |zero=>(simp [ER, *];done)
 |succ j3 ih=>rw [ER.eq_2,L2];(simp [ih];done)
def GR(key:AB 8)(counter:BitVec 32)(nonce t:AB 8):AB 8:=(ER key counter nonce t ((t.length+63)/64))
theorem BL{A B:Prop}(a:A)(b:B)(k:r)(h:A→B→Hid r→g:=by intro a b h;refine Bq (AZ (bs:=[]) a b K_ K_ rfl Bb) AK rfl ?_;exact h.out):g:=h a b ⟨k⟩
theorem Rj(k:r)(h:Hid r→g:=by intro h;refine A2 (kr rfl rfl rfl underlying23 underlying23 HL Wo O_ AN) AK rfl ?_;exact h.out):g:=h ⟨k⟩
theorem DV(k:r)(h:Hid r→g:=by intro h;refine S_ ?_;refine Ac ?_;refine AA (Bi rfl rfl K8 KW C7 D_) rfl ?_;exact h.out):g:=h ⟨k⟩
theorem Py(k:r)(h:Hid r→g:=by intro h;refine AA (Bi rfl rfl dR nk C7 D_) rfl ?_;exact h.out):g:=h ⟨k⟩
theorem Nr(k:r)(h:Hid r→g:=by intro h;refine EQ 11 mixed K_ rfl rfl rfl ?_;exact h.out):g:=h ⟨k⟩
theorem bg(k:r)(h:Hid r→g:=by intro h;refine AE (Ff rfl rfl underlying23 CE O_) rfl ?_;exact h.out):g:=h ⟨k⟩
theorem Kx(k:r)(h:Hid r→g:=by intro h;refine AE (Xy rfl rfl bB Dp) rfl ?_;exact h.out):g:=h ⟨k⟩
theorem DG(k:r)(h:Hid r→g:=by intro h;refine AA (Dx (b:=1) rfl rfl O_) rfl ?_;refine AA (Ae rfl) rfl ?_;refine AM ?_;exact h.out):g:=h ⟨k⟩
theorem Zt(key:AB 8)(counter:BitVec 32)(nonce b:AB 8)(o n cap:Nat)(hkey:key.length=32)(hnonce:nonce.length=12)(hb:o+n≤b.length)(hn:n≤1099511627776):Ev prog (.call 76 [Co (key),.c (.val (Es counter)),Co (nonce),.c (.sl 0 o n cap 1)] [B1 (b)]) (.val (.c (.sl 1 0 n n 1)) [B1 (b),CP (GR key counter nonce (cut b o n))]):=by
 have hP:=Hid.mk (GR.eq_1 key counter nonce (cut b o n))
 have ht:(cut b o n).length=n:=by rw [Cg];omega
 try simp only [ht] at hP
 refine AJ func76 rfl ntmps76 rfl AN ?_;refine B5 ?_;refine Ad ?_;refine IZ ?_;refine AO ?_;refine Rj ?_;refine Ad ?_;refine A7 ?_;refine AT [1,4,6,9,10] (fun (zz:Nat×AB 8)=>⟨52,AQ [1,4,6,9,10] [.c (.val (Es (counter))),Ai 1,Ai 2,.c (.sl 3 0 n n 1),Aj (((64*zz.1:Nat):Int))],[B1 (b),CP (key),CP (nonce),CP (zz.2)]⟩) (fun j3=>(j3,ER key counter nonce (cut b o n) j3)) ((n+63)/64) K_ ?_ ?_
 ·intro j3 hj3
  try dsimp only
  have hX1:(ER key counter nonce (cut b o n) j3).length=n:=by rw [Gn key counter nonce (cut b o n) hkey hnonce _];try omega
  rw [ER.eq_2,L2]
  try simp only [ht]
  generalize ER key counter nonce (cut b o n) j3=X1 at*
  refine BD ?_;refine Bt ?_;refine CF ?_;refine AM ?_;have hQ2:(Dl key (counter+(BitVec.ofNat 32 ((64*j3)/64))) nonce).length=64:=Au
  refine DV ?_;refine Fa ?_;refine AA (SD (b:=64) rfl rfl O_ O_) rfl ?_;refine AA (HA rfl underlying3 underlying106 (yV _)) rfl ?_;refine AA (RC rfl rfl) rfl ?_;refine Py ?_;refine BL (VK key (counter+(BitVec.ofNat 32 ((64*j3)/64))) nonce AD AD) nU ?_;refine J3 ?_;refine MK ?_;refine CU ?_;refine AT [1,4,6,9,10,11,12] (fun (zz:Nat×AB 8)=>⟨52,AQ [1,4,6,9,10,11,12] [.c (.val (Es (counter))),Ai 1,Ai 2,.c (.sl 3 0 n n 1),Aj (((64*j3:Nat):Int)),Ai 4,Aj ((((64*j3)+zz.1:Nat):Int))],[B1 (b),CP (key),CP (nonce),CP (zz.2),CP (Dl key (counter+(BitVec.ofNat 32 ((64*j3)/64))) nonce)]⟩) (fun j7=>(j7,ES key counter nonce X1 j3 j7)) (min (64*j3+64) n-64*j3) K_ ?_ ?_
  ·intro j7 hj7
   try dsimp only
   have hX3:(ES key counter nonce X1 j3 j7).length=n:=by rw [I9 key counter nonce X1 j3 _];try omega
   rw [ES.eq_2,Mm]
   try simp only [ht,hX1]
   generalize ES key counter nonce X1 j3 j7=X3 at*
   refine BD ?_;refine AA (Dx (b:=64) rfl rfl O_) rfl ?_;refine AO ?_;refine Bt ?_;refine AA (XZ rfl rfl) rfl ?_;refine CF ?_;refine A1 ?_;refine Nr ?_;refine By ?_;refine bg ?_;refine Kx ?_;refine By ?_;refine AE (FN rfl rfl O_ O_) rfl ?_;refine AE (AP rfl rfl underlying105 CE O_) rfl ?_;refine Kx ?_;refine AE (VP rfl rfl) rfl ?_;refine bg ?_;refine Bc ?_;refine Cq ?_;refine AW ?_;refine DG ?_;exact ⟨(j7+1,_),K_,rfl⟩
  ·try dsimp only
   have hY4:(ES key counter nonce X1 j3 (min (64*j3+64) n-64*j3)).length=n:=by rw [I9 key counter nonce X1 j3 _];try omega
   generalize ES key counter nonce X1 j3 (min (64*j3+64) n-64*j3)=Y4 at*
   refine BD ?_;refine AA (Dx (b:=64) rfl rfl O_) rfl ?_;refine AO ?_;refine Bt ?_;refine AA (XZ rfl rfl) rfl ?_;refine CF ?_;refine AW ?_;refine AA (Dx (b:=64) rfl rfl O_) rfl ?_;refine Bv ?_;exact ⟨(j3+1,_),K_,rfl⟩
 ·try dsimp only
  have hY5:(ER key counter nonce (cut b o n) ((n+63)/64)).length=n:=by rw [Gn key counter nonce (cut b o n) hkey hnonce _];try omega
  generalize ER key counter nonce (cut b o n) ((n+63)/64)=Y5 at*
  refine BD ?_;refine Bt ?_;refine CF ?_;refine CU ?_;rw [hP.out]
  exact FB
theorem iw(key:AB 8)(counter:BitVec 32)(nonce b:AB 8)(n cap:Nat)(hkey:key.length=32)(hnonce:nonce.length=12)(hb:b.length=n)(hn:n≤1099511627776):Ev prog (.call 76 [Co (key),.c (.val (Es counter)),Co (nonce),.c (.sl 0 0 n cap 1)] [B1 (b)]) (.val (.c (.sl 1 0 n n 1)) [B1 (b),CP (GR key counter nonce b)]):=by
 have h_:=Zt key counter nonce b 0 n cap hkey hnonce O_ hn
 rw [HD hb] at h_
 exact h_
@[simp] theorem JG(key:AB 8)(counter:BitVec 32)(nonce t:AB 8)(hkey:key.length=32)(hnonce:nonce.length=12):(GR key counter nonce t).length=t.length:=by
 unfold GR
 (simp [Gn, *];done)
attribute [irreducible] GR
def Jb(r:AB 8)(o:Nat):Nat→BitVec 64
 |0=>0#64
 |k+1=>Jb r o k ||| ((nth r (o+k)).setWidth 64<<<(8*k))
theorem cI(r:AB 8)(o n cap:Nat)(hl:o+n≤r.length)(hn:n≤65536):Ev prog (.call 196 [.c (.sl 0 o n cap 1)] [B1 r]) (.val (.c (.val (BP (Jb r o n)))) [B1 r]):=by
 refine AJ func196 rfl ntmps196 rfl AN ?_;refine P7 ?_;refine AY ?_;refine Bt ?_;refine Pn ?_;refine TY [2,3,6,7,8] rfl ?_;refine cE [2,3,6,7,8] (fun (x:Nat×BitVec 64)=>⟨22,AQ [2,3,6,7,8] [.c (.val (.int .u64 0)),.c (.val (BP x.2)),.c (.sl 0 o n cap 1),.c (.val (.int .i64 n)),.c (.val (.int .i64 x.1))],[.row false (.a8 r)]⟩) (fun j=>(j,Jb r o j)) n rfl ?r ?e
 case r=>
  intro j hj
  simp only [Jb]
  refine Sc ?_;refine AW ?_;refine dZ ?_;refine Fs ?_;refine Fm ?_;refine BB ?_;refine bw ?_;refine AO ?_;refine JP ?_;refine AA (B2 rfl rfl) rfl ?_;refine FY ?_;refine Ad ?_;refine FW ?_;exact ⟨_,K_,rfl⟩
 case e=>
  dsimp only
  refine Sc ?_;refine A1 ?_;refine BC ?_;exact DP
def W7(r:AB 8)(i:Nat):BitVec 64:=(Jb r (i/8) (min (i/8+5) r.length-i/8)>>>(i%8))&&&67108863#64
theorem MW(k:r)(h:Hid r→g:=by intro h;refine AA (SD (b:=8) rfl rfl O_ O_) rfl ?_;exact h.out):g:=h ⟨k⟩
theorem NZ(k:r)(h:Hid r→g:=by intro h;refine AA (IS (b:=8) rfl rfl O_ O_) rfl ?_;exact h.out):g:=h ⟨k⟩
theorem V1(r:AB 8)(n cap i:Nat)(hl:r.length=n)(hn:n≤65536)(hi:i/8≤n):Ev prog (.call 184 [.c (.sl 0 0 n cap 1),Aj i] [B1 r]) (.val (.c (.val (BP (W7 r i)))) [B1 r]):=by
 subst hl
 refine AJ func184 rfl ntmps184 rfl AN ?_;refine AG ?_;refine BB ?_;refine MW ?_;refine AO ?_;refine MW ?_;refine AA (Dx (b:=5) rfl rfl O_) rfl ?_;refine AO ?_;refine Bt ?_;refine AA (XZ rfl rfl) rfl ?_;refine AA (YF rfl underlying23 CE rfl rfl O_ O_) rfl ?_;refine Bq (AZ (cI r _ _ _ O_ O_) dD rfl rfl rfl Bb) AK rfl ?_;refine AO ?_;refine NZ ?_;refine Qn ?_;refine AA (FE (b:=67108863#64) rfl rfl) rfl ?_;exact DP
def BJ(l:AB 64):Nat→AB 64×BitVec 64
 |0=>(l,0#64)
 |k+1=>(put (BJ l k).1 k ((nth (BJ l k).1 k+(BJ l k).2)&&&67108863#64),(nth (BJ l k).1 k+(BJ l k).2)>>>26)
theorem Xj(l:AB 64)(k:Nat):BJ l (k+1)=(put (BJ l k).1 k ((nth (BJ l k).1 k+(BJ l k).2)&&&67108863#64),(nth (BJ l k).1 k+(BJ l k).2)>>>26):=rfl
theorem EV(l:AB 64)(k:Nat):(BJ l k).1.length=l.length:=by
 induction k with
 |zero=>rfl
 |succ k ih=>simp [BJ,ih]
def BA(l:AB 64):AB 64:=put (BJ l 5).1 0 (nth (BJ l 5).1 0+5#64*(BJ l 5).2)
abbrev EE(x:List (BitVec 64)):AV:= .agg (.a64 x)
theorem Bk(k:r)(h:Hid r→g:=by intro h;refine S_ ?_;refine Ac ?_;refine A2 (WZ vh AN) AK rfl ?_;exact h.out):g:=h ⟨k⟩
theorem SP(k:r)(h:Hid r→g:=by intro h;refine A2 (BR ti AN) AK rfl ?_;exact h.out):g:=h ⟨k⟩
theorem Ef(k:r)(h:Hid r→g:=by intro h;refine S_ ?_;refine Ac ?_;refine AA (BE (b:=5) rfl rfl) rfl ?_;exact h.out):g:=h ⟨k⟩
theorem Fx(k:r)(h:Hid r→g:=by intro h;refine AA (AP rfl rfl underlying213 BN O_) rfl ?_;exact h.out):g:=h ⟨k⟩
theorem Db(k:r)(h:Hid r→g:=by intro h;refine AA (IE rfl rfl Ln Dp) rfl ?_;refine AA (Ah rfl) rfl ?_;exact h.out):g:=h ⟨k⟩
theorem DR(k:r)(h:Hid r→g:=by intro h;refine AA (TB rfl rfl) rfl ?_;exact h.out):g:=h ⟨k⟩
theorem FO(k:r)(h:Hid r→g:=by intro h;refine Wk rfl rfl rfl BN Dp AK ?_;exact h.out):g:=h ⟨k⟩
theorem BM(k:r)(h:Hid r→g:=by intro h;refine AA (IE rfl rfl Ln Dp) rfl ?_;exact h.out):g:=h ⟨k⟩
theorem FR(k:r)(h:Hid r→g:=by intro h;refine Wk rfl rfl rfl BN Dp AK ?_;refine AM ?_;refine S_ ?_;refine Ac ?_;refine AA (Dx (b:=1) rfl rfl O_) rfl ?_;refine AA (Ah rfl) rfl ?_;refine AM ?_;exact h.out):g:=h ⟨k⟩
theorem U5(k:r)(h:Hid r→g:=by intro h;refine AA (AP (j:=0) rfl rfl underlying213 BN O_) rfl ?_;exact h.out):g:=h ⟨k⟩
theorem OU(k:r)(h:Hid r→g:=by intro h;refine AA (Bi rfl rfl XN XH C7 D_) rfl ?_;exact h.out):g:=h ⟨k⟩
theorem R6(k:r)(h:Hid r→g:=by intro h;refine B0 rfl rfl rfl rfl XH C7 C7 AK ?_;exact h.out):g:=h ⟨k⟩
theorem Ja(l:AB 64)(hl:l.length=5):Ev prog (.call 197 [EE l] []) (.val (EE (BA l)) []):=by
 refine AJ func197 rfl ntmps197 rfl AN ?_;refine Bk ?_;refine SP ?_;refine AS ?_;refine AY ?_;refine AM ?_;refine TY [5,3,1,2] rfl ?_;refine S_ ?_;refine cE [5,3,1,2] (fun (x:Nat×BitVec 64×AB 64)=>⟨31,AQ [5,3,1,2] [.c (.val (.int .i64 x.1)),.c (.val (BP x.2.1)),.c (.ptr 0 0),.c (.ptr 1 0)],[.row true (.a64 x.2.2),.row true (.a64 (Af 5))]⟩) (fun j=>(j,(BJ l j).2,(BJ l j).1)) 5 rfl ?r ?e
 case r=>
  intro j hj
  have h1:(BJ l j).1.length=5:=by rw [EV,hl]
  generalize hS:(BJ l j).1=S at*
  generalize hC:(BJ l j).2=C at*
  dsimp only
  refine Ef ?_;refine AW ?_;refine AY ?_;refine Fx ?_;refine Db ?_;refine DR ?_;refine Fx ?_;refine FO ?_;refine AW ?_;refine Fx ?_;refine BM ?_;refine AA (CQ (j:=26) rfl rfl) rfl ?_;refine AY ?_;refine Fx ?_;refine BM ?_;refine AA (FE (b:=67108863#64) rfl rfl) rfl ?_;refine Fx ?_;refine FR ?_;refine ⟨(_,_,_),rfl,?_⟩
  simp only [BJ,hS,hC,fc,RW,C3 _ _ _ _ (show j<S.length by omega),if_true]
 case e=>
  have h1:(BJ l 5).1.length=5:=by rw [EV,hl]
  have hE:BA l=put (BJ l 5).1 0 (nth (BJ l 5).1 0+5#64*(BJ l 5).2):=rfl
  generalize hS:(BJ l 5).1=S at*
  generalize hC:(BJ l 5).2=C at*
  rw [hE]
  dsimp only
  refine Ef ?_;refine A1 ?_;refine AG ?_;refine U5 ?_;refine Db ?_;refine AA (GX (a:=5#64) rfl rfl) rfl ?_;refine DR ?_;refine U5 ?_;refine FO ?_;refine AS ?_;refine OU ?_;refine R6 ?_;refine A1 ?_;exact fS (Iy rfl rfl XN XH C7 D_) (by (kernel_rfl))
@[simp] theorem Ib(l:AB 64):(BA l).length=l.length:=by simp [BA,EV]
attribute [irreducible] BA
def XS(a b s:AB 64)(i j:Nat):AB 64:=
 put s ((i+j)%5) (nth s ((i+j)%5)+if 5≤i+j then nth a i*nth b j*5#64 else nth a i*nth b j)
def Lv(a b s:AB 64)(i:Nat):Nat→AB 64
 |0=>s
 |j+1=>XS a b (Lv a b s i j) i j
def Jg(a b:AB 64):Nat→AB 64
 |0=>Af 5
 |i+1=>Lv a b (Jg a b i) i 5
theorem Hx(a b s:AB 64)(i:Nat):∀j,(Lv a b s i j).length=s.length
 |0=>rfl
 |j+1=>by simp [Lv,XS,Hx a b s i j]
theorem H1(a b:AB 64):∀i,(Jg a b i).length=5
 |0=>rfl
 |i+1=>by rw [Jg,Hx,H1 a b i]
def Rt(a b:AB 64):AB 64:=BA (BA (Jg a b 5))
theorem gV(a b:AB 64):Rt a b=BA (BA (Jg a b 5)):=rfl
@[simp] theorem Vc(a b:AB 64):(Rt a b).length=5:=by rw [Rt,Ib,Ib,H1]
attribute [irreducible] Rt
abbrev CA(x:List (BitVec 64)):Row:= .row true (.a64 x)
theorem QA(k:r)(h:Hid r→g:=by intro h;refine EQ 8 mixed K_ rfl rfl rfl ?_;exact h.out):g:=h ⟨k⟩
theorem bW(k:r)(h:Hid r→g:=by intro h;refine AE (AP rfl rfl underlying213 BN O_) rfl ?_;exact h.out):g:=h ⟨k⟩
theorem Hm(k:r)(h:Hid r→g:=by intro h;refine AE (IE rfl rfl Ln Dp) rfl ?_;refine AE (Ah rfl) rfl ?_;exact h.out):g:=h ⟨k⟩
theorem G6(k:r)(h:Hid r→g:=by intro h;refine AE (IE rfl rfl Ln Dp) rfl ?_;exact h.out):g:=h ⟨k⟩
theorem Mh(k:r)(h:Hid r→g:=by intro h;refine AE (Ae rfl) rfl ?_;refine Bc ?_;exact h.out):g:=h ⟨k⟩
theorem bf(k:r)(h:Hid r→g:=by intro h;refine AA (IS (b:=5) rfl rfl O_ O_) rfl ?_;exact h.out):g:=h ⟨k⟩
theorem mI(a b:AB 64)(ha:a.length=5)(hb:b.length=5):Ev prog (.call 185 [EE a,EE b] []) (.val (EE (Rt a b)) []):=by
 refine AJ func185 rfl ntmps185 rfl AN ?_;refine B5 ?_;refine SP ?_;refine AS ?_;refine SP ?_;refine DF ?_;refine AT [2,3,5,9,4] (fun (x:Nat×AB 64)=>⟨42,AQ [2,3,5,9,4] [Ai 0,Ai 1,Ai 2,Aj (x.1),Ai 3],[CA (a),CA (b),CA (x.2),CA (Af 5)]⟩) (fun j=>(j,Jg a b j)) (5) K_ ?_ ?_
 ·intro i hi
  have h1:(Jg a b i).length=5:=H1 a b i
  simp only [Jg]
  generalize Jg a b i=S at*
  refine Ef ?_;refine AW ?_;refine AY ?_;refine A1 ?_;refine AT [2,3,5,9,4,6,12] (fun (x:Nat×AB 64)=>⟨42,AQ [2,3,5,9,4,6,12] [Ai 0,Ai 1,Ai 2,Aj (i),Ai 3,Aj (i),Aj (x.1)],[CA (a),CA (b),CA (x.2),CA (Af 5)]⟩) (fun j=>(j,Lv a b S i j)) (5) K_ ?_ ?_
  ·intro j hj
   have h2:(Lv a b S i j).length=5:=by rw [Hx,h1]
   simp only [Lv]
   generalize Lv a b S i j=U at*
   unfold XS
   refine Ef ?_;refine CU ?_;refine QA ?_;refine A0 ?_;refine bW ?_;refine Hm ?_;refine bW ?_;refine G6 ?_;refine AE (GX rfl rfl) rfl ?_;refine Mh ?_;refine FK ?_;refine Hu ?_;refine AA (MZ (b:=5) rfl rfl) rfl ?_;refine AM ?_;by_cases h5:5≤i+j
   ·rw [if_pos h5]
    refine BC ?_;refine AA (GX (b:=5#64) rfl rfl) rfl ?_;refine BB ?_;refine Hu ?_;refine bf ?_;refine Fx ?_;refine Db ?_;refine DR ?_;refine Fx ?_;refine FR ?_;exact ⟨_,K_,rfl⟩
   ·rw [if_neg h5]
    refine BD ?_;refine Hu ?_;refine bf ?_;refine Fx ?_;refine Db ?_;refine DR ?_;refine Fx ?_;refine FR ?_;exact ⟨_,K_,rfl⟩
  ·dsimp only
   have h3:(Lv a b S i 5).length=5:=by rw [Hx,h1]
   refine Ef ?_;refine Do ?_;exact ⟨_,K_,rfl⟩
 ·dsimp only
  have h1:(Jg a b 5).length=5:=H1 a b 5
  rw [gV]
  generalize Jg a b 5=S at*
  refine Ef ?_;refine AS ?_;refine OU ?_;refine Bq (AZ (Ja _ h1) To rfl rfl rfl Bb) AK rfl ?_;refine Bq (AZ (Ja _ (by rw [Ib];exact h1)) To rfl rfl rfl Bb) AK rfl ?_
  refine R6 ?_;refine A1 ?_;exact fS (Iy rfl rfl XN XH C7 D_) (by (kernel_rfl))
theorem jE(x y c:BitVec 64)(h:c.toNat≤1):(Cj x y c).toNat≤1:=by
 unfold Cj
 rw [BitVec.toNat_ofNat]
 have:=x.isLt
 have:=y.isLt
 omega
def LG(h:AB 64):AB 64:=
 if 0<(BJ (put (BA (BA (BA h))) 0 (nth (BA (BA (BA h))) 0+5#64)) 5).2.toNat
 then (BJ (put (BA (BA (BA h))) 0 (nth (BA (BA (BA h))) 0+5#64)) 5).1 else BA (BA (BA h))
def vj(h:AB 64):BitVec 64:=(nth h 0 ||| (nth h 1<<<26)) ||| (nth h 2<<<52)
def yf(h:AB 64):BitVec 64:=((nth h 2>>>12) ||| (nth h 3<<<14)) ||| (nth h 4<<<40)
def HH(lo hi:BitVec 64):Nat→AB 8
 |0=>Am 16
 |k+1=>put (put (HH lo hi k) k ((lo>>>(8*k)).setWidth 8)) (8+k) ((hi>>>(8*k)).setWidth 8)
theorem KC(lo hi:BitVec 64)(k:Nat):(HH lo hi k).length=16:=by
 induction k with
 |zero=>rfl
 |succ k ih=>simp [HH,ih]
def RP(h:AB 64)(key:AB 8):AB 8:=
 HH (vj (LG h)+Jb key 16 8+0#64) (yf (LG h)+Jb key 24 8+Cj (vj (LG h)) (Jb key 16 8) 0#64) 8
theorem WE(h:AB 64)(key:AB 8):RP h key=HH (vj (LG h)+Jb key 16 8+0#64) (yf (LG h)+Jb key 24 8+Cj (vj (LG h)) (Jb key 16 8) 0#64) 8:=rfl
@[simp] theorem Vk(h:AB 64)(key:AB 8):(RP h key).length=16:=by rw [WE,KC]
theorem gZ(h S:AB 64)(e:BA (BA (BA h))=S):LG h=if 0<(BJ (put S 0 (nth S 0+5#64)) 5).2.toNat then (BJ (put S 0 (nth S 0+5#64)) 5).1 else S:=by subst e;rfl
theorem ZU(h:AB 64):(LG h).length=h.length:=by
 unfold LG
 split<;>simp [EV]
attribute [irreducible] RP vj yf LG
attribute [local irreducible] Jb
theorem Po(k:r)(h:Hid r→g:=by intro h;refine A2 (BR cN AN) AK rfl ?_;exact h.out):g:=h ⟨k⟩
theorem E6(k:r)(h:Hid r→g:=by intro h;refine AM ?_;refine Q_ ?_;exact h.out):g:=h ⟨k⟩
theorem CD(k:r)(h:Hid r→g:=by intro h;refine AA (I0 rfl) rfl ?_;refine AA (C5 rfl rfl) rfl ?_;refine AA (C5 rfl rfl) rfl ?_;exact h.out):g:=h ⟨k⟩
theorem K7(k:r)(h:Hid r→g:=by intro h;refine B0 rfl rfl rfl rfl NU C7 C7 AK ?_;exact h.out):g:=h ⟨k⟩
theorem dq(h:g:=by exact fS (Iy rfl rfl L0 NU C7 D_) (by (kernel_rfl))):g:=h
theorem uw(h:AB 64)(key:AB 8)(hh:h.length=5)(hk:key.length=32):Ev prog (.call 186 [EE h,Co key] []) (.val (Co (RP h key)) []):=by
 have hS:(BA (BA (BA h))).length=5:=by simp [hh]
 have hM:=gZ h _ rfl
 have hE:=WE h key
 refine AJ func186 rfl ntmps186 rfl AN ?_;refine B5 ?_;refine Po ?_;refine AS ?_;refine OU ?_;refine Bq (AZ (Ja _ hh) To rfl rfl rfl Bb) AK rfl ?_;refine Bq (AZ (Ja _ (by simp [hh])) To rfl rfl rfl Bb) AK rfl ?_
 refine Bq (AZ (Ja _ (by simp [hh])) To rfl rfl rfl Bb) AK rfl ?_
 refine R6 ?_;refine AM ?_;generalize BA (BA (BA h))=S at*
 refine AG ?_;refine OU ?_;refine SP ?_;refine R6 ?_;refine AS ?_;refine U5 ?_;refine BM ?_;refine AA (TB (b:=5#64) rfl rfl) rfl ?_;refine U5 ?_;refine FO ?_;refine AS ?_;refine AY ?_;refine A1 ?_;refine AT [2,3,4,5,6,21] (fun (x:Nat×AB 64×BitVec 64)=>⟨99,AQ [2,3,4,5,6,21] [Ai 0,Ai 1,Ai 2,Ai 3,.c (.val (BP (x.2.2))),Aj (x.1)],[CA (S),CP (key),CP (Am 16),CA (x.2.1)]⟩) (fun j=>(j,BJ (put S 0 (nth S 0+5#64)) j)) (5) K_ ?_ ?_
 ·intro j hj
  have h1:(BJ (put S 0 (nth S 0+5#64)) j).1.length=5:=by rw [EV,Bp,hS]
  rw [Xj]
  generalize BJ (put S 0 (nth S 0+5#64)) j=U at*
  obtain ⟨U,C⟩:=U
  dsimp only at h1 ⊢
  refine Ef ?_;refine AW ?_;refine AY ?_;refine Fx ?_;refine Db ?_;refine DR ?_;refine Fx ?_;refine FO ?_;refine AW ?_;refine Fx ?_;refine BM ?_;refine AA (CQ (j:=26) rfl rfl) rfl ?_;refine AY ?_;refine Fx ?_;refine BM ?_;refine AA (FE (b:=67108863#64) rfl rfl) rfl ?_;refine Fx ?_;refine FR ?_;refine ⟨(_,_,_),rfl,?_⟩
  simp only [fc,RW,C3 _ _ _ _ (show j<U.length by omega),if_true]
 ·have h1:(BJ (put S 0 (nth S 0+5#64)) 5).1.length=5:=by rw [EV,Bp,hS]
  generalize BJ (put S 0 (nth S 0+5#64)) 5=U at*
  obtain ⟨U,C⟩:=U
  dsimp only at h1 hM ⊢
  refine Ef ?_;refine AW ?_;refine AA (gH (b:=0#64) rfl rfl) rfl ?_;refine E6 ?_;refine Id [2,3,4] (fun (x:AB 64)=>⟨99,AQ [2,3,4] [Ai 0,Ai 1,Ai 2],[CA (x),CP (key),CP (Am 16)]⟩) (LG h) rfl (fun hb=>?_) (fun hb=>?_) ?_
  ·refine S_ ?_
   refine AG ?_;refine OU ?_;refine R6 ?_;refine AM ?_;refine ⟨_,rfl,?_⟩
   rw [hM,if_pos (show 0<C.toNat from of_decide_eq_true hb)]
  ·refine S_ ?_
   refine ⟨_,rfl,?_⟩
   rw [hM,if_neg (show ¬0<C.toNat from of_decide_eq_false hb)]
  have hL:(LG h).length=5:=by rw [ZU,hh]
  have hlo:vj (LG h)=(nth (LG h) 0 ||| (nth (LG h) 1<<<26)) ||| (nth (LG h) 2<<<52):=by with_unfolding_all rfl
  have hhi:yf (LG h)=((nth (LG h) 2>>>12) ||| (nth (LG h) 3<<<14)) ||| (nth (LG h) 4<<<40):=by with_unfolding_all rfl
  rw [hlo,hhi] at hE
  clear hM hlo hhi
  generalize LG h=U at*
  refine AG ?_;refine U5 ?_;refine BM ?_;refine AA (AP (j:=1) rfl rfl underlying213 BN O_) rfl ?_;refine BM ?_;refine AA (B2 (j:=26) rfl rfl) rfl ?_;refine FY ?_;refine AA (AP (j:=2) rfl rfl underlying213 BN O_) rfl ?_;refine BM ?_;refine AA (B2 (j:=52) rfl rfl) rfl ?_;refine FY ?_;refine Ad ?_;refine AA (AP (j:=2) rfl rfl underlying213 BN O_) rfl ?_;refine BM ?_;refine AA (CQ (j:=12) rfl rfl) rfl ?_;refine AA (AP (j:=3) rfl rfl underlying213 BN O_) rfl ?_;refine BM ?_;refine AA (B2 (j:=14) rfl rfl) rfl ?_;refine FY ?_;refine AA (AP (j:=4) rfl rfl underlying213 BN O_) rfl ?_;refine BM ?_;refine AA (B2 (j:=40) rfl rfl) rfl ?_;refine FY ?_;refine AY ?_;refine AA (HX (l:=16) (h:=24) (len:=8) (cp:=16) rfl underlying37 CE rfl rfl rfl O_ O_ Rx rfl rfl) rfl ?_;refine Bq (AZ (cI key _ 8 _ O_ O_) dD rfl rfl rfl Bb) AK rfl ?_;refine Bq (fu Ta rfl rfl rfl (c:=0#64) rfl D_) AK rfl ?_;refine E1 ?_;refine AA (HX (l:=24) (h:=32) (len:=8) (cp:=8) rfl underlying37 CE rfl rfl rfl O_ O_ Rx rfl rfl) rfl ?_;refine Bq (AZ (cI key _ 8 _ O_ O_) dD rfl rfl rfl Bb) AK rfl ?_;refine AO ?_;refine Bq (fu Ta rfl rfl rfl rfl (jE _ _ _ D_)) AK rfl ?_;refine CD ?_;refine Ad ?_;refine Po ?_;refine AW ?_;refine AM ?_;rw [hE]
  generalize (nth U 0 ||| nth U 1<<<26 ||| nth U 2<<<52)+Jb key 16 8+0#64=lo
  generalize (nth U 2>>>12 ||| nth U 3<<<14 ||| nth U 4<<<40)+Jb key 24 8+Cj (nth U 0 ||| nth U 1<<<26 ||| nth U 2<<<52) (Jb key 16 8) 0#64=hi
  refine S_ ?_;refine AT [4,8,9,10,79] (fun (x:Nat×AB 8)=>⟨99,AQ [4,8,9,10,79] [Ai 0,.c (.val (BP (lo))),.c (.val (BP (hi))),Ai 1,Aj (x.1)],[CP (Am 16),CP (x.2)]⟩) (fun j=>(j,HH lo hi j)) (8) K_ ?_ ?_
  ·intro j hj
   have h2:(HH lo hi j).length=16:=KC lo hi j
   simp only [HH]
   generalize HH lo hi j=V at*
   refine AG ?_;refine Pz ?_;refine CU ?_;refine mD mixed K_ ?_;refine Jr (Ah rfl) rfl ?_;refine Jr (Ah rfl) rfl ?_;refine Jr (Dx (a:=8) rfl rfl O_) rfl ?_;refine Jr (Ah rfl) rfl ?_;refine Jr (Ah rfl) rfl ?_;refine Jr (Ls (a:=8) rfl rfl O_) rfl ?_;refine Jr (CQ rfl rfl) rfl ?_;refine Jr (HA rfl underlying70 underlying5 (mZ _)) rfl ?_;refine Jr (Ah rfl) rfl ?_;refine Jr (Ah rfl) rfl ?_;refine Jr (Ls (a:=8) rfl rfl O_) rfl ?_;refine Jr (CQ rfl rfl) rfl ?_;refine Jr (HA rfl underlying70 underlying5 (mZ _)) rfl ?_;refine Jr (AP rfl rfl underlying121 CE O_) rfl ?_;refine ZP rfl rfl rfl CE Dp AK ?_;refine Jr (AP rfl rfl underlying121 CE O_) rfl ?_;refine ZP rfl rfl rfl CE Dp AK ?_;refine yC ?_;refine AG ?_;refine FW ?_;exact ⟨_,K_,rfl⟩
  ·dsimp only
   have h2:(HH lo hi 8).length=16:=KC lo hi 8
   generalize HH lo hi 8=V at*
   refine AG ?_;refine Pz ?_;refine AS ?_;refine AA (Bi rfl rfl L0 NU C7 D_) rfl ?_;refine K7 ?_;refine A1 ?_;exact dq
def Ip(l:AB 8):Nat→AB 8
 |0=>l
 |k+1=>put (Ip l k) (4*k+3) (nth (Ip l k) (4*k+3)&&&15#8)
def Io(l:AB 8):Nat→AB 8
 |0=>l
 |k+1=>put (Io l k) (4*k+4) (nth (Io l k) (4*k+4)&&&252#8)
theorem PW(l:AB 8)(k:Nat):(Ip l k).length=l.length:=by
 induction k with
 |zero=>rfl
 |succ k ih=>simp [Ip,ih]
theorem PZ(l:AB 8)(k:Nat):(Io l k).length=l.length:=by
 induction k with
 |zero=>rfl
 |succ k ih=>simp [Io,ih]
def vS(key:AB 8):AB 8:=Io (Ip (cut key 0 16) 4) 3++[0#8]
def Jd(b:AB 8):Nat→AB 64
 |0=>Af 5
 |k+1=>put (Jd b k) k (W7 b (26*k))
theorem PM(b:AB 8)(k:Nat):(Jd b k).length=5:=by
 induction k with
 |zero=>rfl
 |succ k ih=>simp [Jd,ih]
def Ut(p:AB 8)(h:AB 64):Nat→AB 64
 |0=>h
 |k+1=>put (Ut p h k) k (nth (Ut p h k) k+W7 p (26*k))
theorem Sl(p:AB 8)(h:AB 64)(k:Nat):(Ut p h k).length=h.length:=by
 induction k with
 |zero=>rfl
 |succ k ih=>simp [Ut,ih]
def Vi(l:AB 8):Nat→AB 8
 |0=>l
 |k+1=>Vi l k++[0#8]
theorem Sg(l:AB 8)(k:Nat):(Vi l k).length=l.length+k:=by
 induction k with
 |zero=>rfl
 |succ k ih=>simp [Vi,ih];omega
def piece(t:AB 8)(i:Nat):AB 8:=cut t i (min (i+16) t.length-i)++[1#8]
def Nj(r:AB 64)(t:AB 8):Nat→AB 64
 |0=>Af 5
 |q+1=>Rt (Ut (Vi (piece t (16*q)) (17-(piece t (16*q)).length)) (Nj r t q) 5) r
theorem Qk(r:AB 64)(t:AB 8)(q:Nat):(Nj r t q).length=5:=by
 cases q with
 |zero=>rfl
 |succ q=>rw [Nj,Vc]
def QS(key t:AB 8):AB 8:=RP (Nj (Jd (vS key) 5) t ((t.length+15)/16)) key
theorem sd{j:Nat}(h:j<4):sX [3,7,11,15] j=4*j+3:=by
 match j,h with
 |0,_=>rfl
 |1,_=>rfl
 |2,_=>rfl
 |3,_=>rfl
theorem xV{j:Nat}(h:j<3):sX [4,8,12] j=4*j+4:=by
 match j,h with
 |0,_=>rfl
 |1,_=>rfl
 |2,_=>rfl
attribute [local irreducible] W7
theorem Ig(k:r)(h:Hid r→g:=by intro h;refine AA (Ff rfl rfl underlying23 CE O_) rfl ?_;exact h.out):g:=h ⟨k⟩
theorem Jq(k:r)(h:Hid r→g:=by intro h;refine AE (TB rfl rfl) rfl ?_;exact h.out):g:=h ⟨k⟩
theorem J2(k:r)(h:Hid r→g:=by intro h;refine AA (Bi rfl rfl K8 KW C7 D_) rfl ?_;exact h.out):g:=h ⟨k⟩
theorem cf(key t:AB 8)(n cap:Nat)(hk:key.length=32)(ht:t.length=n)(hn:n≤1099511627776):Ev prog (.call 147 [Co key,.c (.sl 0 0 n cap 1)] [B1 t]) (.val (Co (QS key t)) [B1 t]):=by
 have hP:QS key t=RP (Nj (Jd (Io (Ip (cut key 0 16) 4) 3++[0#8]) 5) t ((n+15)/16)) key:=by rw [←ht];rfl
 have hcut:(cut key 0 16).length=16:=by rw [Cg];omega
 refine AJ func147 rfl ntmps147 rfl AN ?_;refine Bk ?_;refine Po ?_;refine AS ?_;refine IZ ?_;refine AA (HX (l:=0) (h:=16) (len:=16) (cp:=32) rfl underlying37 CE rfl rfl rfl O_ O_ Rx rfl rfl) rfl ?_;refine Rj ?_;refine Ad ?_;refine A2 (aJ (l:=S3 [3,7,11,15]) underlying41 bm rfl rfl D_ D_ AN) AK rfl ?_;refine HN ?_;refine Qi ?_;generalize cut key 0 16=K at*
 refine S_ ?_;refine AT [2,4,5,19,20,21,1] (fun (x:Nat×AB 8)=>⟨101,AQ [2,4,5,19,20,21,1] [Ai 1,Ai 2,.c (.sl 3 0 16 16 1),.c (.sl 4 0 4 4 1),Aj (((4:Nat):Int)),Aj (x.1),.c (.sl 0 0 n cap 1)],[B1 (t),CP (key),CP (Am 16),CP (x.2),.row true (.ai (S3 [3,7,11,15]))]⟩) (fun j=>(j,Ip K j)) (4) K_ ?_ ?_
 ·intro j hj
  have h1:(Ip K j).length=16:=by rw [PW,hcut]
  simp only [Ip]
  generalize Ip K j=U at*
  refine NJ ?_;refine lX ?_;refine AA (MI rfl rfl B6 Dp) rfl ?_;refine Bv ?_;rw [sd hj]
  refine BD ?_;refine Ig ?_;refine Fs ?_;refine AA (Lr (b:=15#8) rfl rfl) rfl ?_;refine Ig ?_;refine Cq ?_;refine Do ?_;exact ⟨_,K_,rfl⟩
 ·have h1:(Ip K 4).length=16:=by rw [PW,hcut]
  generalize Ip K 4=U at*
  dsimp only
  refine NJ ?_;refine A2 (aJ (l:=S3 [4,8,12]) underlying41 bm rfl rfl D_ D_ AN) AK rfl ?_;refine HN ?_;refine Pn ?_;refine AT [2,4,5,32,33,34,1] (fun (x:Nat×AB 8)=>⟨101,AQ [2,4,5,32,33,34,1] [Ai 1,Ai 2,.c (.sl 3 0 16 16 1),.c (.sl 4 0 3 3 1),Aj (((3:Nat):Int)),Aj (x.1),.c (.sl 0 0 n cap 1)],[B1 (t),CP (key),CP (Am 16),CP (x.2),.row true (.ai (S3 [4,8,12]))]⟩) (fun j=>(j,Io U j)) (3) K_ ?_ ?_
  ·intro j hj
   have h2:(Io U j).length=16:=by rw [PZ,h1]
   simp only [Io]
   generalize Io U j=V at*
   refine NJ ?_;refine lX ?_;refine AA (MI rfl rfl B6 Dp) rfl ?_;refine Bv ?_;rw [xV hj]
   refine BD ?_;refine Ig ?_;refine Fs ?_;refine AA (Lr (b:=252#8) rfl rfl) rfl ?_;refine Ig ?_;refine Cq ?_;refine Do ?_;exact ⟨_,K_,rfl⟩
  ·have h2:(Io U 3).length=16:=by rw [PZ,h1]
   generalize Io U 3=V at*
   dsimp only
   refine NJ ?_;refine SP ?_;refine SP ?_;refine AW ?_;refine Ur ?_;refine Cl ?_;refine AY ?_;refine AM ?_;have h3:(V++[0#8]).length=17:=by simp [h2]
   generalize V++[0#8]=W at*
   refine S_ ?_;refine AT [2,4,5,10,11,48,1] (fun (x:Nat×AB 64)=>⟨101,AQ [2,4,5,10,11,48,1] [Ai 1,Ai 2,.c (.sl 3 0 17 17 1),Ai 4,Ai 5,Aj (x.1),.c (.sl 0 0 n cap 1)],[B1 (t),CP (key),CP (Am 16),CP (W),CA (x.2),CA (Af 5)]⟩) (fun j=>(j,Jd W j)) (5) K_ ?_ ?_
   ·intro j hj
    have h4:(Jd W j).length=5:=PM W j
    simp only [Jd]
    generalize Jd W j=X at*
    refine Ef ?_;refine AW ?_;refine BB ?_;refine AO ?_;refine AA (Ls (a:=26) rfl rfl O_) rfl ?_;refine Bq (AZ (V1 W 17 _ _ h3 O_ O_) mA rfl rfl rfl Bb) AK rfl ?_;refine Fx ?_;refine FR ?_;exact ⟨_,K_,rfl⟩
   ·have h4:(Jd W 5).length=5:=PM W 5
    generalize Jd W 5=X at*
    dsimp only
    refine Ef ?_;refine AS ?_;refine A7 ?_;refine AT [2,4,10,11,13,1] (fun (x:Nat×AB 64)=>⟨101,AQ [2,4,10,11,13,1] [Ai 1,Ai 2,Ai 3,Ai 4,Aj (x.1),.c (.sl 0 0 n cap 1)],[B1 (t),CP (key),CP (Am 16),CA (X),CA (x.2)]⟩) (fun q=>(16*q,Nj X t q)) ((n+15)/16) K_ ?_ ?_
    ·intro q hq
     have h5:(Nj X t q).length=5:=Qk X t q
     have hp:piece t (16*q)=cut t (16*q) (min (16*q+16) n-16*q)++[1#8]:=by rw [←ht];rfl
     have hc:(cut t (16*q) (min (16*q+16) n-16*q)).length=min (16*q+16) n-16*q:=by rw [Cg];omega
     have hz:(cut t (16*q) (min (16*q+16) n-16*q)++[1#8]).length=min (16*q+16) n-16*q+1:=by rw [List.length_append,hc];rfl
     rw [Nj,hp,hz]
     generalize Nj X t q=H at*
     refine BD ?_;refine Bt ?_;refine CF ?_;refine AS ?_;refine IZ ?_;refine Fa ?_;refine AO ?_;refine AA (Dx (b:=16) rfl rfl O_) rfl ?_;refine AO ?_;refine Bt ?_;refine AA (XZ rfl rfl) rfl ?_;refine AA (YF rfl underlying23 CE rfl rfl O_ O_) rfl ?_;refine Rj ?_;refine A2 (Wf (l:=[1#8]) underlying23 HL rfl rfl D_ D_ AN) AK rfl ?_;refine Cl ?_;refine Bv ?_;clear hp hc
     have hz1:min (16*q+16) n-16*q+1≤17:=by omega
     generalize cut t (16*q) (min (16*q+16) n-16*q)++[1#8]=Z at*
     generalize min (16*q+16) n-16*q+1=z at*
     refine S_ ?_;refine AT [2,4,10,11,13,1,14] (fun (x:Nat×AB 8)=>⟨101,AQ [2,4,10,11,13,1,14] [Ai 1,Ai 2,Ai 3,Ai 4,Aj (((16*q:Nat):Int)),.c (.sl 0 0 n cap 1),.c (.sl 5 0 (z+x.1) (z+x.1) 1)],[B1 (t),CP (key),CP (Am 16),CA (X),CA (H),CP (x.2)]⟩) (fun k=>(k,Vi Z k)) (17-z) K_ ?_ ?_
     ·intro k hk
      have h6:(Vi Z k).length=z+k:=by rw [Sg,hz]
      simp only [Vi]
      generalize Vi Z k=Y at*
      refine Fv ?_;refine AA (BE (b:=17) rfl rfl) rfl ?_;refine AW ?_;refine Ur ?_;refine Cl ?_;refine Bv ?_;exact ⟨_,K_,rfl⟩
     ·have h6:(Vi Z (17-z)).length=z+(17-z):=by rw [Sg,hz]
      have hy:z+(17-z)=17:=by omega
      dsimp only
      generalize Vi Z (17-z)=Y at*
      generalize z+(17-z)=y at*
      refine Fv ?_;refine AA (BE (b:=17) rfl rfl) rfl ?_;refine DF ?_;refine AT [2,4,10,11,13,1,14,82] (fun (x:Nat×AB 64)=>⟨101,AQ [2,4,10,11,13,1,14,82] [Ai 1,Ai 2,Ai 3,Ai 4,Aj (((16*q:Nat):Int)),.c (.sl 0 0 n cap 1),.c (.sl 5 0 y y 1),Aj (x.1)],[B1 (t),CP (key),CP (Am 16),CA (X),CA (x.2),CP (Y)]⟩) (fun i=>(i,Ut Y H i)) (5) K_ ?_ ?_
      ·intro i hi
       have h7:(Ut Y H i).length=5:=by rw [Sl,h5]
       simp only [Ut]
       generalize Ut Y H i=G at*
       refine Ef ?_;refine CU ?_;refine QA ?_;refine A0 ?_;refine bW ?_;refine G6 ?_;refine By ?_;refine AE (Ls (a:=26) rfl rfl O_) rfl ?_;refine Iv (AZ (V1 Y y _ _ h6 O_ O_) mA rfl rfl rfl Bb) AK rfl ?_;refine Jq ?_;refine Bc ?_;refine Fx ?_;refine FR ?_;exact ⟨_,K_,rfl⟩
      ·have h7:(Ut Y H 5).length=5:=by rw [Sl,h5]
       dsimp only
       generalize Ut Y H 5=G at*
       refine Ef ?_;refine AS ?_;refine OU ?_;refine OU ?_;refine FC (mI G X h7 h4) vG ?_;refine R6 ?_;refine AW ?_;refine AA (Dx (b:=16) rfl rfl O_) rfl ?_;refine Bv ?_;exact ⟨(16*q+16,_),K_,by rw [Nat.mul_succ]⟩
    ·have h5:(Nj X t ((n+15)/16)).length=5:=Qk X t _
     rw [hP]
     dsimp only
     generalize Nj X t ((n+15)/16)=H at*
     refine BD ?_;refine Bt ?_;refine CF ?_;refine AS ?_;refine OU ?_;refine J2 ?_;refine FC (uw H key h5 hk) tD ?_;refine K7 ?_;refine A1 ?_;exact dq
@[simp] theorem rK(key t:AB 8):(QS key t).length=16:=by with_unfolding_all exact Vk _ _
def Pr(ad tx:AB 8)(j5:Nat)(X5:AB 8)(j8:Nat):AB 8:=X5++[((BitVec.ofNat 64 (sX [ad.length,tx.length] j5))>>>(8*j8)).setWidth 8]
def FX(ad tx X4:AB 8)(j5:Nat):Nat→AB 8
 |0=>X4
 |j8+1=>Pr ad tx j5 (FX ad tx X4 j5 j8) j8
@[simp] theorem L1(ad tx X4:AB 8)(j5 j8:Nat):(FX ad tx X4 j5 j8).length=X4.length+j8:=by
 induction j8 with
 |zero=>(simp [FX, *];done)
 |succ j8 ih=>rw [FX.eq_2,Pr];(simp [ih];omega)
def P6(ad tx X4:AB 8)(j5:Nat):AB 8:=(FX ad tx X4 j5 8)
def Fb(ad tx:AB 8):Nat→AB 8
 |0=>Jo ((Jo ad)++tx)
 |j5+1=>P6 ad tx (Fb ad tx j5) j5
@[simp] theorem Mp(ad tx:AB 8)(j5:Nat):(Fb ad tx j5).length=(((ad.length+(16-ad.length%16)%16)+tx.length)+(16-((ad.length+(16-ad.length%16)%16)+tx.length)%16)%16)+8*j5:=by
 induction j5 with
 |zero=>(simp [Fb, *];done)
 |succ j5 ih=>rw [Fb.eq_2,P6];(simp [ih];omega)
def M9(key nonce ad tx:AB 8):AB 8:=QS (cut (Dl key 0#32 nonce) 0 32) (Fb ad tx 2)
theorem pQ{A B:Prop}(a:A)(b:B)(k:r)(h:A→B→Hid r→g:=by intro a b h;refine DK (Eg (bs:=[6]) a b K_ rfl rfl Bb AK) rfl ?_;exact h.out):g:=h a b ⟨k⟩
theorem bZ(k:r)(h:Hid r→g:=by intro h;refine A2 (W3 rfl rfl rfl underlying23 underlying23 HL Hn O_ AN) AK rfl ?_;exact h.out):g:=h ⟨k⟩
theorem Ze(key nonce ad:AB 8)(an acap:Nat)(b:AB 8)(o n cap:Nat)(hkey:key.length=32)(hnonce:nonce.length=12)(had:ad.length=an)(han:an≤1099511627)(hb:o+n≤b.length)(hn:n≤1099511627):Ev prog (.call 108 [Co (key),Co (nonce),.c (.sl 0 0 an acap 1),.c (.sl 1 o n cap 1)] [B1 (ad),B1 (b)]) (.val (Co (M9 key nonce ad (cut b o n))) [B1 (ad),B1 (b)]):=by
 have hP:=Hid.mk (M9.eq_1 key nonce ad (cut b o n))
 subst had
 have htx:(cut b o n).length=n:=by rw [Cg];omega
 try simp only [htx] at hP
 refine AJ func108 rfl ntmps108 rfl AN ?_;refine B5 ?_;refine Po ?_;refine AM ?_;have hQ1:(Dl key 0#32 nonce).length=64:=Au
 refine DV ?_;refine Py ?_;refine BL (VK key 0#32 nonce AD AD) nU ?_;refine J3 ?_;refine MK ?_;refine AM ?_;have hQ2:(Jo ad).length=ad.length+(16-ad.length%16)%16:=Au
 refine AG ?_;refine IZ ?_;refine AO ?_;refine bZ ?_;refine pQ (WY ad ad.length ad.length AD AD) ni ?_;refine Bv ?_;have hQ3:(Jo ((Jo ad)++(cut b o n))).length=((ad.length+(16-ad.length%16)%16)+n)+(16-((ad.length+(16-ad.length%16)%16)+n)%16)%16:=Au
 refine BD ?_;refine qJ rfl rfl rfl rfl underlying23 underlying23 HL Hn Wo O_ AN AK rfl ?_;refine DK (Eg (bs:=[8]) (WY ((Jo ad)++(cut b o n)) ((ad.length+(16-ad.length%16)%16)+n) ((ad.length+(16-ad.length%16)%16)+n) AD AD) ni K_ rfl rfl Bb AK) rfl ?_;refine AY ?_;refine Bt ?_;refine AO ?_;refine Bt ?_;refine A2 (aJ (l:=[_,_]) underlying41 bm rfl rfl D_ D_ AN) AK rfl ?_;refine HN ?_;refine Pn ?_;refine AT [8,9,10,29,30,31] (fun (zz:Nat×AB 8)=>⟨54,AQ [8,9,10,29,30,31] [Ai 2,Ai 3,.c (.sl 4 0 ((((ad.length+(16-ad.length%16)%16)+n)+(16-((ad.length+(16-ad.length%16)%16)+n)%16)%16)+8*zz.1) ((((ad.length+(16-ad.length%16)%16)+n)+(16-((ad.length+(16-ad.length%16)%16)+n)%16)%16)+8*zz.1) 1),.c (.sl 5 0 2 2 1),Aj (((2:Nat):Int)),Aj (((zz.1:Nat):Int))],[B1 (ad),B1 (b),CP (Am 16),CP (Dl key 0#32 nonce),CP (zz.2),.row true (.ai (S3 [ad.length,n]))]⟩) (fun j5=>(j5,Fb ad (cut b o n) j5)) (2) K_ ?_ ?_
 ·intro j5 hj5
  try dsimp only
  have hX4:(Fb ad (cut b o n) j5).length=(((ad.length+(16-ad.length%16)%16)+n)+(16-((ad.length+(16-ad.length%16)%16)+n)%16)%16)+8*j5:=by rw [Mp ad (cut b o n) _];try omega
  rw [Fb.eq_2,P6]
  try simp only [htx]
  generalize Fb ad (cut b o n) j5=X4 at*
  refine AG ?_;refine AA (BE (b:=2) rfl rfl) rfl ?_;refine AS ?_;refine lX ?_;refine AA (MI rfl rfl B6 Dp) rfl ?_;refine AY ?_;refine A1 ?_;refine AT [8,9,10,12,29,30,31,35] (fun (zz:Nat×AB 8)=>⟨54,AQ [8,9,10,12,29,30,31,35] [Ai 2,Ai 3,.c (.sl 4 0 (((((ad.length+(16-ad.length%16)%16)+n)+(16-((ad.length+(16-ad.length%16)%16)+n)%16)%16)+8*j5)+zz.1) (((((ad.length+(16-ad.length%16)%16)+n)+(16-((ad.length+(16-ad.length%16)%16)+n)%16)%16)+8*j5)+zz.1) 1),Aj (((sX [ad.length,n] j5:Nat):Int)),.c (.sl 5 0 2 2 1),Aj (((2:Nat):Int)),Aj (((j5:Nat):Int)),Aj (((zz.1:Nat):Int))],[B1 (ad),B1 (b),CP (Am 16),CP (Dl key 0#32 nonce),CP (zz.2),.row true (.ai (S3 [ad.length,n]))]⟩) (fun j8=>(j8,FX ad (cut b o n) X4 j5 j8)) (8) K_ ?_ ?_
  ·intro j8 hj8
   try dsimp only
   have hX5:(FX ad (cut b o n) X4 j5 j8).length=((((ad.length+(16-ad.length%16)%16)+n)+(16-((ad.length+(16-ad.length%16)%16)+n)%16)%16)+8*j5)+j8:=by rw [L1 ad (cut b o n) X4 j5 _];try omega
   rw [FX.eq_2,Pr]
   try simp only [htx]
   generalize FX ad (cut b o n) X4 j5 j8=X5 at*
   refine AG ?_;refine Pz ?_;refine AW ?_;refine BB ?_;refine aQ ?_;refine AO ?_;refine JP ?_;refine Qn ?_;refine SZ ?_;refine RZ ?_;refine Cl ?_;refine Ad ?_;refine FW ?_;exact ⟨(j8+1,_),K_,rfl⟩
  ·try dsimp only
   have hY6:(FX ad (cut b o n) X4 j5 8).length=((((ad.length+(16-ad.length%16)%16)+n)+(16-((ad.length+(16-ad.length%16)%16)+n)%16)%16)+8*j5)+8:=by rw [L1 ad (cut b o n) X4 j5 _];try omega
   generalize FX ad (cut b o n) X4 j5 8=Y6 at*
   refine AG ?_;refine Tn ?_;refine Do ?_;exact ⟨(j5+1,_),K_,rfl⟩
 ·try dsimp only
  have hY7:(Fb ad (cut b o n) 2).length=(((ad.length+(16-ad.length%16)%16)+n)+(16-((ad.length+(16-ad.length%16)%16)+n)%16)%16)+8*2:=by rw [Mp ad (cut b o n) _];try omega
  generalize Fb ad (cut b o n) 2=Y7 at*
  refine AG ?_;refine AA (BE (a:=2) (b:=2) rfl rfl) rfl ?_;refine AM ?_;have hQ8:(cut (Dl key 0#32 nonce) 0 32).length=32:=Au
  have hQ9:(QS (cut (Dl key 0#32 nonce) 0 32) Y7).length=16:=Au
  refine AG ?_;refine AA (HX (l:=0) (h:=32) (len:=32) (cp:=64) rfl underlying105 CE rfl rfl rfl O_ O_ Rx rfl rfl) rfl ?_;refine AA (Tv rfl underlying37 O_ D_) rfl ?_;refine AA (Qf rfl rfl K8 KW Wo D_) rfl ?_;refine AO ?_;refine FC (cf (cut (Dl key 0#32 nonce) 0 32) Y7 ((((ad.length+(16-ad.length%16)%16)+n)+(16-((ad.length+(16-ad.length%16)%16)+n)%16)%16)+8*2) ((((ad.length+(16-ad.length%16)%16)+n)+(16-((ad.length+(16-ad.length%16)%16)+n)%16)%16)+8*2) AD AD AD) vP ?_;refine K7 ?_;refine A1 ?_;rw [hP.out]
  exact dq
theorem gU(key nonce ad:AB 8)(an acap:Nat)(b:AB 8)(n cap:Nat)(hkey:key.length=32)(hnonce:nonce.length=12)(had:ad.length=an)(han:an≤1099511627)(hb:b.length=n)(hn:n≤1099511627):Ev prog (.call 108 [Co (key),Co (nonce),.c (.sl 0 0 an acap 1),.c (.sl 1 0 n cap 1)] [B1 (ad),B1 (b)]) (.val (Co (M9 key nonce ad b)) [B1 (ad),B1 (b)]):=by
 have h_:=Ze key nonce ad an acap b 0 n cap hkey hnonce had han O_ hn
 rw [HD hb] at h_
 exact h_
@[simp] theorem vi(key nonce ad tx:AB 8)(_hkey:key.length=32)(_hnonce:nonce.length=12):(M9 key nonce ad tx).length=16:=by
 unfold M9
 (simp [*];done)
attribute [irreducible] M9
def F5(key nonce text:AB 8):AB 8:=GR key 1#32 nonce text
def Gm(key nonce ad text:AB 8):AB 8:=M9 key nonce ad (GR key 1#32 nonce text)
theorem Pq(k:r)(h:Hid r→g:=by intro h;refine EQ 3 mixed K_ rfl rfl rfl ?_;exact h.out):g:=h ⟨k⟩
theorem W0(k:r)(h:Hid r→g:=by intro h;refine AE (Bi rfl rfl L0 NU C7 D_) rfl ?_;exact h.out):g:=h ⟨k⟩
theorem ck(key nonce ad:AB 8)(an acap:Nat)(text:AB 8)(tn tcap:Nat)(hkey:key.length=32)(hnonce:nonce.length=12)(had:ad.length=an)(han:an≤1099511627)(htext:text.length=tn)(htn:tn≤1099511627):Ev prog (.call 75 [Aj ((0:Nat):Int),Co (key),Co (nonce),.c (.sl 0 0 an acap 1),.c (.sl 1 0 tn tcap 1)] [B1 (ad),B1 (text)]) (.val (.tup [.c (.sl 2 0 tn tn 1),Co (Gm key nonce ad text)]) [B1 (ad),B1 (text),CP (F5 key nonce text)]):=by
 have hP_adWork00:Hid (F5 key nonce text=GR key 1#32 nonce text):=⟨rfl⟩
 have hP_adWork01:Hid (Gm key nonce ad text=M9 key nonce ad (GR key 1#32 nonce text)):=⟨rfl⟩
 subst had
 subst htext
 refine AJ func75 rfl ntmps75 rfl AN ?_;refine B5 ?_;refine Fm ?_;refine Po ?_;refine AW ?_;refine AS ?_;refine AA (B4 (a:=0) (b:=0) rfl rfl) rfl ?_;refine Bv ?_;have hQ1:(GR key 1#32 nonce text).length=text.length:=Au
 refine DV ?_;refine Py ?_;refine AO ?_;refine Bq (AZ (bs:=[1]) (iw key 1#32 nonce text text.length tcap AD AD AD AD) rT K_ K_ rfl Bb) AK rfl ?_;refine Bv ?_;have hQ2:(M9 key nonce ad (GR key 1#32 nonce text)).length=16:=Au
 refine DV ?_;refine Py ?_;refine Fa ?_;refine Bq (AZ (bs:=[0,5]) (gU key nonce ad ad.length acap (GR key 1#32 nonce text) text.length text.length AD AD AD AD AD AD) oE K_ K_ rfl Bb) AK rfl ?_;refine K7 ?_;refine A1 ?_;refine Pq ?_;refine A0 ?_;refine W0 ?_;refine Mh ?_;refine K7 ?_;refine A1 ?_;rw [hP_adWork00.out,hP_adWork01.out]
 exact qB (Dt rfl) (Iy rfl rfl L0 NU C7 D_) (by (kernel_rfl))
@[simp] theorem qK(key nonce text:AB 8)(hkey:key.length=32)(hnonce:nonce.length=12):(F5 key nonce text).length=text.length:=by
 unfold F5
 (simp [*];done)
attribute [irreducible] F5
@[simp] theorem oz(key nonce ad text:AB 8)(hkey:key.length=32)(hnonce:nonce.length=12):(Gm key nonce ad text).length=16:=by
 unfold Gm
 (simp [*];done)
attribute [irreducible] Gm
end Go.Proofs.YtmbepikkgkcgkaaGreatDoor
