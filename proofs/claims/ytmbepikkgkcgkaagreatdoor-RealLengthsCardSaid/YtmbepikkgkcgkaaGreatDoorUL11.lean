/- Merged and shortened by a program: part 11. -/
import Derived.Test.YtmbepikkgkcgkaaGreatDoorUL10
set_option maxRecDepth 100000
set_option maxHeartbeats 8000000
namespace Go.Proofs.YtmbepikkgkcgkaaGreatDoor
open Go.RowKit
variable {g r : Prop}
open Go.Proofs.Tryz
theorem UV(x y:Nd)(hx:x.a.length≤1000000)(hy:y.a.length≤1000000):Ev prog (.call 74 [qe x,qe y] []) (.val (.c (.val (.bool (Uh x y)))) []):=by
 obtain ⟨k,n,a⟩:=x
 obtain ⟨k',n',a'⟩:=y
 unfold qe Uh
 dsimp only at hx hy ⊢
 by_cases hk:k=k'
 ·by_cases hn:n=n'
  ·subst hk hn
   rw [show (k==k&&n==n&&decide (a=a'))=decide (a=a') by simp]
   refine AJ func74 rfl ntmps74 rfl AN ?_;refine B5 ?_;refine Ad ?_;refine EJ ?_;refine EJ ?_;refine G0 ?_;refine D6 ?_;refine SE ?_;refine BI ?_;refine R8 ?_;refine BI ?_;refine SE ?_;refine BI ?_;refine R8 ?_;refine BI ?_;refine G0 ?_;refine C4 ?_;refine D6 ?_;refine Th ?_;refine BI ?_;refine AA (Bj rfl rfl Ny Dp rfl) rfl ?_;refine BI ?_;refine Th ?_;refine BI ?_;refine AA (Bj rfl rfl Ny Dp rfl) rfl ?_;refine BI ?_;refine FC (mr a a' hx hy) eY ?_;refine C4 ?_;exact DP
  ·rw [show (k==k'&&n==n'&&decide (a=a'))=false by simp [hn]]
   subst hk
   refine AJ func74 rfl ntmps74 rfl AN ?_;refine B5 ?_;refine Ad ?_;refine EJ ?_;refine EJ ?_;refine G0 ?_;refine D6 ?_;refine SE ?_;refine BI ?_;refine R8 ?_;refine BI ?_;refine SE ?_;refine BI ?_;refine R8 ?_;refine BI ?_;refine G0 ?_;refine C4 ?_;refine Lk ?_;refine Fq ?_;refine NK Ci rfl ?_;refine Ba ?_;exact DP
 ·rw [show (k==k'&&n==n'&&decide (a=a'))=false by simp [hk]]
  refine AJ func74 rfl ntmps74 rfl AN ?_;refine B5 ?_;refine Ad ?_;refine EJ ?_;refine EJ ?_;refine G0 ?_;refine Lk ?_;refine Fq ?_;refine NK Ci rfl ?_;refine Ba ?_;refine Lk ?_;refine Fq ?_;refine NK Ci rfl ?_;refine Ba ?_;exact DP
theorem Uw(k:r)(h:Hid r→g:=by intro h;refine AE (Tt rfl rfl underlying41 OF Dp) rfl ?_;exact h.out):g:=h ⟨k⟩
theorem UM(k:r)(h:Hid r→g:=by intro h;refine AE (D5 rfl B6 Dp) rfl ?_;exact h.out):g:=h ⟨k⟩
theorem Nq(k:r)(h:Hid r→g:=by intro h;refine AE (Ah rfl) rfl ?_;refine Km Ci ?_;exact h.out):g:=h ⟨k⟩
theorem N4(k:r)(h:Hid r→g:=by intro h;refine AE (Ab rfl (QW _ _)) rfl ?_;exact h.out):g:=h ⟨k⟩
theorem W8(L:List Nd)(N:Nat)(a:List Int)(m:Nat)(_hN:L.length=N)(_hNl:N≤2000000)(hm:a.length=m)(hml:m≤1000000):
  Ev prog (.call 73 [.c (.ptr 0 0),.c (.is a)] [.row false (.ac [.sl 1 0 N N 3]),.row false (.an L)])
   (.val (.c (.val (.bool (hasB N a)))) [.row false (.ac [.sl 1 0 N N 3]),.row false (.an L)]):=by
 refine AJ func73 rfl ntmps73 rfl AN ?_;refine P7 ?_;refine A7 ?_;refine DL [0,1,5] (fun (j:Nat)=>⟨29,AQ [0,1,5] [Ai 0,.c (.is a),Aj (j:Int)],[.row false (.ac [.sl 1 0 N N 3]),.row false (.an L)]⟩) (fun j=>m-j) (fun j=>j≤m∧hasB N a=hasB N (a.drop j)) 0 K_ ⟨Nat.zero_le _,by rw [List.drop_zero]⟩ ?_
 rintro j ⟨hj,hB⟩
 by_cases hlt:j<m
 ·rw [Wm O_] at hB
  refine BD ?_;refine IF ?_;refine CF ?_;refine AM ?_;have hg:AX a j=AX a j:=rfl
  generalize hx:AX a j=x at hB
  by_cases h1:x<0
  ·rw [show hasB N a=false by rw [hB];simp;omega]
   refine S_ ?_;refine W9 ?_;refine By ?_;refine Uw ?_;refine UM ?_;refine AE (R2 rfl rfl) rfl ?_;refine A0 ?_;refine L5 Ci ?_;refine L5 Ci ?_;refine L5 Ci ?_;refine L5 Ci ?_;refine L5 Ci ?_;refine L5 Ci ?_;refine L5 Ci ?_;refine L5 Ci ?_;refine L5 Ci ?_;refine L5 Ci ?_;refine AE (My rfl gn rfl) rfl ?_;refine Bc ?_;exact Jw
  ·by_cases h2:(N:Int)≤x
   ·rw [show hasB N a=false by rw [hB];simp;omega]
    refine S_ ?_;refine W9 ?_;refine By ?_;refine Uw ?_;refine UM ?_;refine AE (R2 rfl rfl) rfl ?_;refine Nq ?_;refine Nq ?_;refine Nq ?_;refine Uw ?_;refine Km Ci ?_;refine UM ?_;refine Km Ci ?_;refine Nq ?_;refine AE (Ft rfl) rfl ?_;refine Km Ci ?_;refine N4 ?_;refine Km Ci ?_;refine PH ?_;refine Km Ci ?_;refine Wr ?_;refine Km Ci ?_;refine AE (dJ rfl rfl) rfl ?_;refine R5 ?_;refine Bc ?_;exact Jw
   ·refine S_ ?_
    refine W9 ?_;refine By ?_;refine Uw ?_;refine UM ?_;refine AE (R2 rfl rfl) rfl ?_;refine Nq ?_;refine Nq ?_;refine Nq ?_;refine Uw ?_;refine Km Ci ?_;refine UM ?_;refine Km Ci ?_;refine Nq ?_;refine AE (Ft rfl) rfl ?_;refine Km Ci ?_;refine N4 ?_;refine Km Ci ?_;refine PH ?_;refine Km Ci ?_;refine Wr ?_;refine Km Ci ?_;refine AE (dJ rfl rfl) rfl ?_;refine R5 ?_;refine Bc ?_;refine AW ?_;refine DG ?_;refine ⟨j+1,K_,by show m-(j+1)<m-j;omega,by omega,?_⟩
    rw [hB,show (decide (0≤x)&&decide (x<(N:Int)))=true by simp;omega,Bool.true_and]
 ·obtain rfl:j=m:=by omega
  rw [show hasB N a=true by rw [hB,←hm,List.drop_length];rfl]
  refine BD ?_;refine IF ?_;refine CF ?_;exact Jw
theorem Yt{L:List Nd}{x:Nd}{i:Nat}(h:GV L x=some i):∀q,q<i→Uh (Al L q) x=false:=by
 unfold GV at h
 obtain ⟨hi,_,h2⟩:=List.findIdx?_eq_some_iff_getElem.1 h
 intro q hq
 have:=h2 q hq
 have e:Al L q=L[q]:=by unfold Al;rw [List.getD_eq_getElem?_getD,List.getElem?_eq_getElem O_];rfl
 rw [e]
 simpa using this
theorem L8(k:r)(h:Hid r→g:=by intro h;refine AA (GL (b:=1) rfl rfl) rfl ?_;exact h.out):g:=h ⟨k⟩
theorem RS(k:r)(h:Hid r→g:=by intro h;refine AA (GL (b:=2) rfl rfl) rfl ?_;exact h.out):g:=h ⟨k⟩
theorem mQ(L:List Nd)(N:Nat)(k n:Int)(a:List Int)(m:Nat)(_hA:EB L)(hN:L.length=N)(hNl:N≤1000000)(hm:a.length=m)(hml:m≤1000)(he:Bz N k n a≠0):Ev prog (.call 48 [Ai 0,Aj k,Aj n,.c (.is a)] [.row true (.ac [.sl 1 0 N N 3]),.row true (.an L)]) (.val (.tup [Aj ((0:Nat):Int),Aj ((Bz N k n a:Nat):Int)]) [.row true (.ac [.sl 1 0 N N 3]),.row true (.an L)]):=by
 refine AJ func48 rfl ntmps48 rfl AN ?_;refine AG ?_;refine Iu ?_;by_cases c1:k<1∨9<k
 ·rw [show Bz N k n a=6 by unfold Bz;rw [if_pos c1]]
  by_cases c2:k<1
  ·refine S_ ?_
   refine CX ?_;refine aA ?_;refine JV ?_;refine AS ?_;exact Cu
  ·refine S_ ?_
   refine CX ?_;refine Dd ?_;refine Ba ?_;refine AS ?_;exact Cu
 rw [not_or] at c1
 refine BC ?_;refine Dd ?_;refine F2 ?_;by_cases c2:n<0∨(0<n∧DJ k=false)
 ·rw [show Bz N k n a=1 by unfold Bz;rw [if_neg O_,if_pos c2]]
  by_cases c3:n<0
  ·refine S_ ?_
   refine CX ?_;refine aA ?_;refine Lk ?_;refine Fq ?_;refine Fq ?_;refine Fq ?_;refine Fq ?_;refine Fq ?_;refine Fq ?_;refine C4 ?_;refine AS ?_;exact Cu
  ·have c4:0<n∧DJ k=false:=c2.resolve_left c3
   have c5:=c4.1
   have c6:k≠1∧k≠2∧k≠4:=by have:=c4.2;simp [DJ] at this;omega
   obtain ⟨c7,c8,c9⟩:=c6
   refine BC ?_;refine Dd ?_;refine ET ?_;refine AA (UB rfl rfl) rfl ?_;refine EY ?_;refine ET ?_;refine AA (UB rfl rfl) rfl ?_;refine EY ?_;refine ET ?_;refine AA (UB rfl rfl) rfl ?_;refine EY ?_;refine Ba ?_;refine AS ?_;exact Cu
 have c2n:¬n<0:=fun h=>c2 (.inl h)
 refine S_ ?_;refine E8 [0,1,2,3,35] (fun (q:Bool)=>⟨93,AQ [0,1,2,3,35] [Ai 0,Aj k,Aj n,.c (.is a),.c (.val (.bool q))],[.row true (.ac [.sl 1 0 N N 3]),.row true (.an L)]⟩) false ?_ ?_
 ·by_cases c3:0<n
  ·have c4:DJ k=true:=by cases hq:DJ k with
    |true=>rfl
    |false=>exact absurd (Or.inr ⟨c3,hq⟩) c2
   have c5:k=1∨k=2∨k=4:=by simp [DJ] at c4;omega
   rcases c5 with rfl | rfl | rfl
   ·refine S_ ?_
    refine CX ?_;refine Dd ?_;refine ET ?_;refine L8 ?_;refine EY ?_;refine Fo ?_;refine Fo ?_;refine F2 ?_;exact ⟨false,K_,rfl⟩
   ·refine S_ ?_
    refine CX ?_;refine Dd ?_;refine ET ?_;refine L8 ?_;refine EY ?_;refine ET ?_;refine RS ?_;refine EY ?_;refine Fo ?_;refine F2 ?_;exact ⟨false,K_,rfl⟩
   ·refine S_ ?_
    refine CX ?_;refine Dd ?_;refine ET ?_;refine L8 ?_;refine EY ?_;refine ET ?_;refine RS ?_;refine EY ?_;refine ET ?_;refine AA (GL (b:=4) rfl rfl) rfl ?_;refine EY ?_;refine F2 ?_;exact ⟨false,K_,rfl⟩
  ·refine S_ ?_
   refine CX ?_;refine Dd ?_;refine Fo ?_;refine Fo ?_;refine Fo ?_;refine F2 ?_;exact ⟨false,K_,rfl⟩
 have ml:=Dj k
 refine BD ?_;refine IF ?_;refine FC (T8 k a.length O_ O_) kE ?_;refine QM ?_;by_cases c5:a.length<Cr k∨FV k<a.length
 ·rw [show Bz N k n a=2 by unfold Bz;rw [if_neg O_,if_neg c2,if_pos c5]]
  refine EH rfl (by rw [decide_eq_false O_];rfl) ?_
  refine AG ?_;exact Cu
 rw [not_or] at c5
 refine Bn rfl (by rw [decide_eq_true O_];rfl) ?_
 have c7:hasB N a=false:=by
  cases hq:hasB N a with
  |false=>rfl
  |true=>exact absurd (by unfold Bz;rw [if_neg O_,if_neg c2,if_neg O_,if_neg (by rw [hq];simp)]) he
 rw [show Bz N k n a=8 by unfold Bz;rw [if_neg O_,if_neg c2,if_neg O_,if_pos c7]]
 refine BD ?_;refine VG (W8 L N a m hN O_ hm O_) kx ?_;refine QM ?_;refine EH rfl (by rw [c7];rfl) ?_
 refine AG ?_;exact Cu
theorem FQ(k:r)(h:Hid r→g:=by intro h;refine AA (Ft rfl) rfl ?_;refine AA (Ab rfl (QW _ _)) rfl ?_;exact h.out):g:=h ⟨k⟩
theorem Xc(k:r)(h:Hid r→g:=by intro h;refine AE (RO rfl rfl underlying53 NI O_) rfl ?_;exact h.out):g:=h ⟨k⟩
theorem kw(L:List Nd)(N:Nat)(k n:Int)(a:List Int)(m:Nat)(hA:EB L)(hN:L.length=N)(hNl:N≤1000000)(hm:a.length=m)(hml:m≤1000)(he:Bz N k n a=0)(i:Nat)(hf:GV L ⟨k,n,a⟩=some i):Ev prog (.call 48 [Ai 0,Aj k,Aj n,.c (.is a)] [.row true (.ac [.sl 1 0 N N 3]),.row true (.an L)]) (.val (.tup [Aj ((i:Nat):Int),Aj ((0:Nat):Int)]) [.row true (.ac [.sl 1 0 N N 3]),.row true (.an L)]):=by
 have hargs:∀j,j<N→(Al L j).a.length≤1000000:=fun j h=>by have h1:=(IK (hA.ok j O_)).len;have h2:=Dj (Al L j).k;dsimp only at h1;omega
 obtain ⟨hi,hx⟩:=P4 hf
 have hb:=Yt hf
 have hok:=IK he
 have c1:=hok.kind
 dsimp only at c1
 have c2:¬(n<0∨(0<n∧DJ k=false)):=by
  have h3:=hok.num
  dsimp only at h3
  rintro (h | ⟨h,h2⟩)
  ·omega
  ·rw [h3.2 h] at h2;cases h2
 have c2n:¬n<0:=fun h=>c2 (.inl h)
 have c5:=hok.len
 dsimp only at c5
 have ml:=Dj k
 have c7:hasB N a=true:=by
  cases hq:hasB N a with
  |true=>rfl
  |false=>revert he;unfold Bz;rw [if_neg O_,if_neg c2,if_neg O_,if_pos hq];intro h;cases h
 refine AJ func48 rfl ntmps48 rfl AN ?_;refine AG ?_;refine IM ?_;refine Dd ?_;refine Ba ?_;refine A1 ?_;refine E8 [0,1,2,3,35] (fun (q:Bool)=>⟨93,AQ [0,1,2,3,35] [Ai 0,Aj k,Aj n,.c (.is a),.c (.val (.bool q))],[.row true (.ac [.sl 1 0 N N 3]),.row true (.an L)]⟩) false ?_ ?_
 ·by_cases c3:0<n
  ·have c4:DJ k=true:=by cases hq:DJ k with
    |true=>rfl
    |false=>exact absurd (Or.inr ⟨c3,hq⟩) c2
   have c5:k=1∨k=2∨k=4:=by simp [DJ] at c4;omega
   rcases c5 with rfl | rfl | rfl
   ·refine S_ ?_
    refine CX ?_;refine Dd ?_;refine ET ?_;refine L8 ?_;refine EY ?_;refine Fo ?_;refine Fo ?_;refine F2 ?_;exact ⟨false,K_,rfl⟩
   ·refine S_ ?_
    refine CX ?_;refine Dd ?_;refine ET ?_;refine L8 ?_;refine EY ?_;refine ET ?_;refine RS ?_;refine EY ?_;refine Fo ?_;refine F2 ?_;exact ⟨false,K_,rfl⟩
   ·refine S_ ?_
    refine CX ?_;refine Dd ?_;refine ET ?_;refine L8 ?_;refine EY ?_;refine ET ?_;refine RS ?_;refine EY ?_;refine ET ?_;refine AA (GL (b:=4) rfl rfl) rfl ?_;refine EY ?_;refine F2 ?_;exact ⟨false,K_,rfl⟩
  ·refine S_ ?_
   refine CX ?_;refine Dd ?_;refine Fo ?_;refine Fo ?_;refine Fo ?_;refine F2 ?_;exact ⟨false,K_,rfl⟩
 refine BD ?_;refine IF ?_;refine FC (T8 k a.length O_ O_) kE ?_;refine QM ?_;refine Bn rfl (by rw [decide_eq_true O_];rfl) ?_
 refine BD ?_;refine VG (W8 L N a m hN O_ hm O_) kx ?_;refine QM ?_;refine Bn rfl (by rw [c7];rfl) ?_
 refine BD ?_;refine AO ?_;refine AA (TK rfl rfl rfl) rfl ?_;refine A2 (BR fx AN) AK rfl ?_;refine gP ?_;refine AS ?_;refine A7 ?_;refine DL [0,1,2,3,10,11] (fun (j:Nat)=>⟨93,AQ [0,1,2,3,10,11] [Ai 0,Aj k,Aj n,.c (.is a),Ai 2,Aj (j:Int)],[.row true (.ac [.sl 1 0 N N 3]),.row true (.an L),.row true (.ac [.val (.int .i64 k),.val (.int .i64 n),.is a])]⟩) (fun j=>N-j) (fun j=>j≤i∧ ∀q,q<j→Uh (Al L q) ⟨k,n,a⟩=false) 0 K_ ⟨Nat.zero_le _,fun i hi=>absurd hi (Nat.not_lt_zero i)⟩ ?_
 rintro j ⟨hj,hB⟩
 refine BD ?_;refine FQ ?_;refine GU ?_;refine CF ?_;refine AM ?_;by_cases hji:j=i
 ·subst hji
  refine S_ ?_;refine KA ?_;refine II ?_;refine N4 ?_;refine PH ?_;refine A0 ?_;refine Xc ?_;refine Sk (OV (j:=j) rfl O_ rfl MJ NI O_) rfl ?_;refine YK ?_;refine Iv (AZ (UV (Al L j) ⟨k,n,a⟩ (hargs j O_) (by show a.length≤_;omega)) nx rfl rfl rfl Bb) AK rfl ?_
  refine GN ?_;refine EH rfl (by rw [QY.2 hx]) ?_
  refine BC ?_;exact Cu
 ·have hne:=hb j O_
  refine S_ ?_;refine KA ?_;refine II ?_;refine N4 ?_;refine PH ?_;refine A0 ?_;refine Xc ?_;refine Sk (OV (j:=j) rfl O_ rfl MJ NI O_) rfl ?_;refine YK ?_;refine Iv (AZ (UV (Al L j) ⟨k,n,a⟩ (hargs j O_) (by show a.length≤_;omega)) nx rfl rfl rfl Bb) AK rfl ?_
  refine GN ?_;refine Bn rfl (by rw [hne]) ?_
  refine BC ?_;refine DG ?_;exact ⟨j+1,K_,by show N-(j+1)<N-j;omega,by omega,fun q hq=>hb q O_⟩
theorem kY(L:List Nd)(N:Nat)(k n:Int)(a:List Int)(m:Nat)(hA:EB L)(hN:L.length=N)(hNl:N≤1000000)(hm:a.length=m)(hml:m≤1000)(he:Bz N k n a=0)(hf:GV L ⟨k,n,a⟩=none):Ev prog (.call 48 [Ai 0,Aj k,Aj n,.c (.is a)] [.row true (.ac [.sl 1 0 N N 3]),.row true (.an L)]) (.val (.tup [Aj ((N:Nat):Int),Aj ((0:Nat):Int)]) [.row true (.ac [.sl 2 0 (N+1) (N+1) 3]),.dead,.row true (.an (L++[⟨k,n,a⟩]))]):=by
 have hargs:∀j,j<N→(Al L j).a.length≤1000000:=fun j h=>by have h1:=(IK (hA.ok j O_)).len;have h2:=Dj (Al L j).k;dsimp only at h1;omega
 have hok:=IK he
 have c1:=hok.kind
 dsimp only at c1
 have c2:¬(n<0∨(0<n∧DJ k=false)):=by
  have h3:=hok.num
  dsimp only at h3
  rintro (h | ⟨h,h2⟩)
  ·omega
  ·rw [h3.2 h] at h2;cases h2
 have c2n:¬n<0:=fun h=>c2 (.inl h)
 have c5:=hok.len
 dsimp only at c5
 have ml:=Dj k
 have c7:hasB N a=true:=by
  cases hq:hasB N a with
  |true=>rfl
  |false=>revert he;unfold Bz;rw [if_neg O_,if_neg c2,if_neg O_,if_pos hq];intro h;cases h
 refine AJ func48 rfl ntmps48 rfl AN ?_;refine AG ?_;refine IM ?_;refine Dd ?_;refine Ba ?_;refine A1 ?_;refine E8 [0,1,2,3,35] (fun (q:Bool)=>⟨93,AQ [0,1,2,3,35] [Ai 0,Aj k,Aj n,.c (.is a),.c (.val (.bool q))],[.row true (.ac [.sl 1 0 N N 3]),.row true (.an L)]⟩) false ?_ ?_
 ·by_cases c3:0<n
  ·have c4:DJ k=true:=by cases hq:DJ k with
    |true=>rfl
    |false=>exact absurd (Or.inr ⟨c3,hq⟩) c2
   have c5:k=1∨k=2∨k=4:=by simp [DJ] at c4;omega
   rcases c5 with rfl | rfl | rfl
   ·refine S_ ?_
    refine CX ?_;refine Dd ?_;refine ET ?_;refine L8 ?_;refine EY ?_;refine Fo ?_;refine Fo ?_;refine F2 ?_;exact ⟨false,K_,rfl⟩
   ·refine S_ ?_
    refine CX ?_;refine Dd ?_;refine ET ?_;refine L8 ?_;refine EY ?_;refine ET ?_;refine RS ?_;refine EY ?_;refine Fo ?_;refine F2 ?_;exact ⟨false,K_,rfl⟩
   ·refine S_ ?_
    refine CX ?_;refine Dd ?_;refine ET ?_;refine L8 ?_;refine EY ?_;refine ET ?_;refine RS ?_;refine EY ?_;refine ET ?_;refine AA (GL (b:=4) rfl rfl) rfl ?_;refine EY ?_;refine F2 ?_;exact ⟨false,K_,rfl⟩
  ·refine S_ ?_
   refine CX ?_;refine Dd ?_;refine Fo ?_;refine Fo ?_;refine Fo ?_;refine F2 ?_;exact ⟨false,K_,rfl⟩
 refine BD ?_;refine IF ?_;refine FC (T8 k a.length O_ O_) kE ?_;refine QM ?_;refine Bn rfl (by rw [decide_eq_true O_];rfl) ?_
 refine BD ?_;refine VG (W8 L N a m hN O_ hm O_) kx ?_;refine QM ?_;refine Bn rfl (by rw [c7];rfl) ?_
 refine BD ?_;refine AO ?_;refine AA (TK rfl rfl rfl) rfl ?_;refine A2 (BR fx AN) AK rfl ?_;refine gP ?_;refine AS ?_;refine A7 ?_;refine DL [0,1,2,3,10,11] (fun (j:Nat)=>⟨93,AQ [0,1,2,3,10,11] [Ai 0,Aj k,Aj n,.c (.is a),Ai 2,Aj (j:Int)],[.row true (.ac [.sl 1 0 N N 3]),.row true (.an L),.row true (.ac [.val (.int .i64 k),.val (.int .i64 n),.is a])]⟩) (fun j=>N-j) (fun j=>j≤N∧ ∀q,q<j→Uh (Al L q) ⟨k,n,a⟩=false) 0 K_ ⟨Nat.zero_le _,fun i hi=>absurd hi (Nat.not_lt_zero i)⟩ ?_
 rintro j ⟨hj,hB⟩
 by_cases hlt:j<N
 ·have hne:Uh (Al L j) ⟨k,n,a⟩=false:=by cases hq:Uh (Al L j) ⟨k,n,a⟩ with
   |false=>rfl
   |true=>exact absurd (QY.1 hq) (Mz hf O_)
  refine BD ?_;refine FQ ?_;refine GU ?_;refine CF ?_;refine A1 ?_;refine KA ?_;refine II ?_;refine N4 ?_;refine PH ?_;refine A0 ?_;refine Xc ?_;refine Sk (OV (j:=j) rfl O_ rfl MJ NI O_) rfl ?_;refine YK ?_;refine Iv (AZ (UV (Al L j) ⟨k,n,a⟩ (hargs j O_) (by show a.length≤_;omega)) nx rfl rfl rfl Bb) AK rfl ?_
  refine GN ?_;refine Bn rfl (by rw [hne]) ?_
  refine BC ?_;refine DG ?_;refine ⟨j+1,K_,by show N-(j+1)<N-j;omega,by omega,fun q hq=>?_⟩
  rcases (by omega:q<j∨q=j) with h | rfl
  ·exact hB q h
  ·exact hne
 ·obtain rfl:N=j:=by omega
  refine BD ?_;refine FQ ?_;refine GU ?_;refine CF ?_;refine AW ?_;refine FQ ?_;refine GU ?_;refine AA (MZ (b:=1048576) rfl rfl) rfl ?_;refine AW ?_;refine DK (UX (AZ (aU a O_) rb rfl rfl rfl Bb) AN Au rfl) rfl ?_;refine Th ?_;refine Oh rfl rfl rfl rfl ww Dp WR_ AK ?_;refine A1 ?_;refine H3 [(6,[]),(7,[1]),(10,[0])] [0,1] 2 mixed K_ K_ ?_;refine IR ?_;refine B7 (Ft rfl) rfl ?_;refine B7 (Ab rfl (QW _ _)) rfl ?_;refine mX ?_;refine B7 (Bi rfl rfl MJ NI C7 D_) rfl ?_;refine Em (Ev.mem (cV rfl rfl)) rfl Yw ?_;refine Em (YJ rfl rfl rfl rfl underlying53 underlying53 lm hN O_ AN AK) rfl Yw ?_;refine B7 (Ft rfl) rfl ?_;refine B7 (Ab rfl (QW _ _)) rfl ?_;refine Tq (Wx (w:= .ac [.sl 4 0 (N+1) (N+1) 3]) rfl rfl rfl rfl kM (by show 0<1;decide) rfl AK) rfl Yw ?_
  refine PO ?_;refine BC ?_;refine FQ ?_;refine GU ?_;refine ft ?_;exact Cu
theorem lU{P:Program}{e:Operand→AV}{M:Ag}{t t2:TypeId}{x y:Operand}{b o:Nat}(hu:P.underlying t=some (.pointer (P.pointee t)))(hx:e x= .c (.ptr b o))(hy:e y= .c (.val (.pointer none))):Ev P (.op (.binOp .eql t x y t2) e M) (.val (.c (.val (.bool false))) M):=
 Ev.sem fun O ι w ρ hO hR hρ=>by
  obtain ⟨dst,op,ty,pos,af,gd⟩:=O
  subst hO
  have h1:=hρ x (by simp [Op.operands])
  have h2:=hρ y (by simp [Op.operands])
  rw [hx] at h1;rw [hy] at h2
  obtain ⟨l,hl,hv⟩:=h1
  have h2:ρ y= .pointer none:=h2
  refine .inl ⟨.bool false,w,ι,.inl ?_,rfl,Step.refl hR (Nat.le_refl _)⟩
  simp [execOp,hv,h2,eqGuard,run_eql_pointer_nil _ t _ hu]
theorem rS:prog.underlying 42=some (.pointer (prog.pointee 42)):=by kernel_rfl
theorem eP(L:List Nd)(N:Nat)(k n:Int)(a:List Int)(hA:EB L)(hN:L.length=N)(hNl:N<1000000)(hml:a.length≤1000)(hr:∀x∈k::n::a,-9223372036854775808≤x∧x≤9223372036854775807)(he:Bz N k n a=0)(hf:GV L ⟨k,n,a⟩=none):
  Ev prog (.call 21 [.c (.ptr 0 0),.c (.val (.int .i64 k)),.c (.val (.int .i64 n)),.c (.is a)] [.row true (.ac [.sl 1 0 N N 3,.mp 2]),.row true (.an L),.row true (.mp (Bf L))])
   (.val (.tup [.c (.val (.int .i64 ((N:Nat):Int))),.c (.val (.int .i64 ((0:Nat):Int)))]) [.row true (.ac [.sl 3 0 (N+1) (N+1) 3,.mp 2]),.dead,.row true (.mp (Bf (L++[⟨k,n,a⟩]))),.row true (.an (L++[⟨k,n,a⟩]))]):=by
 have h1:=uV L N k n a a.length a.length hA hN O_ rfl hml hr he hf
 have h2:Ev prog (.call 21 [.c (.ptr 0 0),.c (.val (.int .i64 k)),.c (.val (.int .i64 n)),.c (.sl 3 0 a.length a.length 1)] [.row true (.ac [.sl 1 0 N N 3,.mp 2]),.row true (.an L),.row true (.mp (Bf L)),.row false (.ai a)])
   (.val (.tup [.c (.val (.int .i64 ((N:Nat):Int))),.c (.val (.int .i64 ((0:Nat):Int)))]) [.row true (.ac [.sl 4 0 (N+1) (N+1) 3,.mp 2]),.dead,.row true (.mp (Bf (L++[⟨k,n,a⟩]))),.row false (.ai a),.row true (.an (L++[⟨k,n,a⟩]))]):=
  Ev.relink [0,3,1,2] K_ K_ K_ h1 K_ K_
 exact Ev.isRow (a:=a) (args':=[.c (.ptr 0 0),.c (.val (.int .i64 k)),.c (.val (.int .i64 n)),.c (.sl 3 0 a.length a.length 1)]) 3 [4] rfl rfl rfl (fun j hj=>by match j with | 0=>rfl | 1=>rfl | 2=>rfl | 3=>exact absurd rfl hj | j+4=>rfl) h2 K_ K_ K_ K_
theorem fi(L:List Nd)(N:Nat)(k n:Int)(hA:EB L)(hN:L.length=N)(hNl:N<1000000)(hr:∀x∈[k,n],-9223372036854775808≤x∧x≤9223372036854775807)(he:Bz N k n []=0)(hf:GV L ⟨k,n,[]⟩=none):
  Ev prog (.call 21 [.c (.ptr 0 0),.c (.val (.int .i64 k)),.c (.val (.int .i64 n)),.c .nsl] [.row true (.ac [.sl 1 0 N N 3,.mp 2]),.row true (.an L),.row true (.mp (Bf L))])
   (.val (.tup [.c (.val (.int .i64 ((N:Nat):Int))),.c (.val (.int .i64 ((0:Nat):Int)))]) [.row true (.ac [.sl 3 0 (N+1) (N+1) 3,.mp 2]),.dead,.row true (.mp (Bf (L++[⟨k,n,[]⟩]))),.row true (.an (L++[⟨k,n,[]⟩]))]):=
 Ev.weakA (.same (.same (.same (.nilZ .nil)))) (eP L N k n [] hA hN hNl D_ hr he hf)
def zE:List Nd:=[⟨1,1,[]⟩]
def zQ:List Nd:=[⟨1,1,[]⟩,⟨2,2,[]⟩]
def Xe:List Nd:=[⟨1,1,[]⟩,⟨2,2,[]⟩,⟨6,0,[0,1]⟩]
theorem wA1:EB zE:=EB.snoc .nil D_ D_ rfl
theorem wA2:EB zQ:=EB.snoc (L:=zE) wA1 D_ D_ D_
theorem wA3:EB Xe:=EB.snoc (L:=zQ) wA2 D_ D_ D_
def ki:Nd→(Int→AB 8)→AB 8×Nat:=fun _ _=>([],0)
theorem wH(i:Nat)(hi:i<3):¬UL Xe (Al Xe i):=by
 match i,hi with
 |0,_=>unfold UL;decide
 |1,_=>unfold UL;decide
 |2,_=>unfold UL;decide
def wK:AB 8:=Aa (ej++En 1)
def wM:AB 8:=Aa (mO++En 2)
def wS:AB 8:=CT (Aa wK) (Am 12) [] (jn [wM])
theorem YP:wM.length=32:=Av _
theorem vD:wK.length=32:=Av _
theorem w0:JB ki Xe 0=(wK,0):=rfl
theorem w1:JB ki Xe 1=(wM,0):=rfl
theorem wJ:LH [wM]=(jn [wM],0):=by
 unfold LH
 rw [if_pos (by rw [Qc,YP];decide)]
theorem wb:Gu ki Xe (BQ Xe 2) []=Gu ki Xe [2] [(0,wK),(1,wM)]:=rfl
theorem wF:LI ki Xe (An [(0,wK),(1,wM)]) (Al Xe (2:Int).toNat)=IT (Aa wK) (LH [wM]):=rfl
theorem w2s:IT (Aa wK) (LH [wM])=(wS,0):=by rw [wJ];rfl
theorem w2:JB ki Xe 2=(wS,0):=by
 unfold JB
 rw [wb,Gu.eq_2,wF,w2s,if_pos rfl]
 rfl
theorem oD:wS.length=52:=by
 unfold wS
 rw [D4 _ _ _ _ (Av _) (BO 12),SC,Qc,YP]
 rfl
theorem wO:sS (Aa wK) wS=([wM],0):=by
 have hj:jl [wM]=36:=by rw [Qc,YP];rfl
 have e:DC (Aa wK) (Am 12) [] (cut wS 0 (wS.length-16))=cut wS (wS.length-16) 16:=uM (Aa wK) (Am 12) (jn [wM]) (Av _) (BO 12)
 have he:PY (Aa wK) wS=0:=by
  unfold PY
  rw [if_neg (by rw [oD];decide),if_pos e]
 unfold sS
 rw [if_pos he,show Fl (Aa wK) (Am 12) wS=jn [wM] from oJ (Aa wK) (Am 12) (jn [wM]) (Av _) (BO 12)]
 exact aT (by rw [SC,hj];decide) (wI _ (by rw [hj];decide))
theorem wB(i:Nat)(hi:i<3)(v:AB 8)(h:JB ki Xe i=(v,0)):Ev prog (.call 22 [Ai 0,Aj (i:Int)] [.row false (.ac [.sl 1 0 3 3 3,.mp 2]),.row false (.an Xe),.row false (.mp (Bf Xe))]) (.val (.tup [.c (.bs v),Aj ((0:Nat):Int)]) [.row false (.ac [.sl 1 0 3 3 3,.mp 2]),.row false (.an Xe),.row false (.mp (Bf Xe))]):=by
 have:=cm ki Xe (Bf Xe) 3 i rfl D_ hi wA3 (fun D k hk _ _ hh=>absurd hh (wH k (by have:=(Ee Xe i _ hk).2;omega)))
 rw [h] at this
 exact this
attribute [irreducible] wK wM wS
theorem VO(k:r)(h:Hid r→g:=by intro h;refine AA (B4 (b:=32) rfl rfl) rfl ?_;exact h.out):g:=h ⟨k⟩
theorem lT:Ev prog (.call 19 [] []) (.val (.c (.val (.bool true))) []):=by
 have m1:=fi [] 0 1 1 .nil rfl D_ D_ D_ rfl
 have m2:=fi zE 1 2 2 wA1 rfl D_ D_ D_ D_
 have m3:=eP zQ 2 6 0 [0,1] wA2 rfl D_ D_ D_ D_ D_
 have b0:=wB 0 D_ wK w0
 have b1:=wB 1 D_ wM w1
 have b2:=wB 2 D_ wS w2
 have hO:=gq (Aa wK) wS (Av _) (by rw [oD];decide)
 rw [wO] at hO
 dsimp only [List.length] at hO
 have hMl:=YP
 have hKl:=vD
 refine AJ func19 rfl ntmps19 rfl AN ?_;refine P7 ?_;refine FC (lg) rg ?_;refine AY ?_;refine DK (lU rS rfl rfl) rfl ?_;refine AW ?_;refine DK (Eg (bs:=[0,1,2]) (m1) Vn K_ rfl rfl Bb AK) rfl ?_;refine E1 ?_;refine DK (Eg (bs:=[0,3,2]) (m2) Vn K_ rfl rfl Bb AK) rfl ?_;refine CD ?_;refine Fm ?_;refine BB ?_;refine AO ?_;refine DK (UX (Ev.mem (aJ (l:=[_,_]) underlying41 bm rfl rfl D_ D_ AN)) AN Au rfl) rfl ?_;refine DK (Eg (bs:=[0,4,2]) (m3) Vn K_ rfl rfl Bb AK) rfl ?_;refine CD ?_;refine Fm ?_;refine BB ?_;refine Bq (AZ (bs:=[0,5,2]) (b0) VA K_ K_ rfl Bb) AK rfl ?_;refine CD ?_;refine Fm ?_;refine BB ?_;refine Bq (AZ (bs:=[0,5,2]) (b2) VA K_ K_ rfl Bb) AK rfl ?_;refine CD ?_;refine Fm ?_;refine BB ?_;refine Bq (AZ (bs:=[0,5,2]) (b1) VA K_ K_ rfl Bb) AK rfl ?_;refine E1 ?_;refine FC (Xs wK (by rw [hKl];decide)) fX ?_
 refine AO ?_;refine FC (hO) xP ?_;refine E1 ?_;refine Ho ?_;refine BZ ?_;refine Ho ?_;refine C4 ?_;refine BZ ?_;refine Ho ?_;refine C4 ?_;refine BZ ?_;refine Ho ?_;refine C4 ?_;refine BZ ?_;refine Ru ?_;refine BI ?_;refine VR ?_;refine C4 ?_;refine BZ ?_;refine bq ?_;refine BI ?_;refine T5 ?_;refine BI ?_;refine D6 ?_;refine FC (mY wM (by rw [hMl];decide)) wP ?_
 refine C4 ?_;refine BZ ?_;refine Dr ?_;refine BI ?_;refine VO ?_;refine C4 ?_;exact DP
def kL3(n:Nat):List Nd:=[⟨1,(n:Int),[]⟩,⟨7,0,[0,0,0]⟩,⟨9,0,[1]⟩]
theorem k0(n:Nat):JB ki (kL3 n) 0=(Aa (ej++En n),0):=rfl
theorem k1(n:Nat):JB ki (kL3 n) 1=([],6):=rfl
theorem k2(n:Nat):JB ki (kL3 n) 2=([],6):=rfl
theorem qc(L:List Nd)(N:Nat)(k n:Int)(a:List Int)(m cap:Nat)(_hA:EB L)(hN:L.length=N)(hNl:N≤1000000)(hm:a.length=m)(hml:m≤1000)(_hr:∀x∈k::n::a,-9223372036854775808≤x∧x≤9223372036854775807)(he:Bz N k n a≠0):Ev prog (.call 21 [Ai 0,Aj k,Aj n,.c (.sl 1 0 m cap 1)] [.row true (.ac [.sl 2 0 N N 3,.mp 3]),.row true (.ai a),.row true (.an L),.row true (.mp (Bf L))]) (.val (.tup [Aj ((0:Nat):Int),Aj ((Bz N k n a:Nat):Int)]) [.row true (.ac [.sl 2 0 N N 3,.mp 3]),.row true (.ai a),.row true (.an L),.row true (.mp (Bf L))]):=by
 have hm:=hm
 refine gO ?_;refine AG ?_;refine Iu ?_;refine E8 [0,1,2,3,10] (fun (q:Bool)=>⟨118,AQ [0,1,2,3,10] [Ai 0,Aj k,Aj n,.c (.sl 1 0 m cap 1),.c (.val (.bool q))],[.row true (.ac [.sl 2 0 N N 3,.mp 3]),.row true (.ai a),.row true (.an L),.row true (.mp (Bf L))]⟩) (DJ k) ?_ ?_
 ·by_cases h1:k=1
  ·refine S_ ?_
   refine M8 ?_;refine JV ?_;refine JV ?_;refine Bv ?_;exact ⟨true,K_,by simp [DJ,h1]⟩
  ·by_cases h2:k=2
   ·refine S_ ?_
    refine M8 ?_;refine BZ ?_;refine G0 ?_;refine Ba ?_;refine JV ?_;refine Bv ?_;exact ⟨true,K_,by simp [DJ,h2]⟩
   ·refine S_ ?_
    refine M8 ?_;refine BZ ?_;refine G0 ?_;refine Ba ?_;refine BZ ?_;refine G0 ?_;refine JN ?_;exact ⟨decide (k=4),K_,by simp [DJ,h1,h2]⟩
 refine BC ?_;refine FC (TR k) eb ?_;refine CD ?_;refine KD ?_;by_cases c1:k<1∨9<k
 ·rw [show Bz N k n a=6 by unfold Bz;rw [if_pos c1]]
  by_cases c2:k<1
  ·refine S_ ?_
   refine CX ?_;refine aA ?_;refine JV ?_;refine Ad ?_;exact Cu
  ·refine S_ ?_
   refine CX ?_;refine Dd ?_;refine Ba ?_;refine Ad ?_;exact Cu
 rw [not_or] at c1
 refine BC ?_;refine Dd ?_;refine JN ?_;by_cases c2:n<0∨(0<n∧DJ k=false)
 ·rw [show Bz N k n a=1 by unfold Bz;rw [if_neg O_,if_pos c2]]
  by_cases c3:n<0
  ·refine S_ ?_
   refine CX ?_;refine aA ?_;refine Lk ?_;refine Fq ?_;refine Fq ?_;refine C4 ?_;refine Ad ?_;exact Cu
  ·have c4:0<n∧DJ k=false:=c2.resolve_left c3
   have c5:=c4.1
   refine BC ?_;refine Dd ?_;refine ET ?_;refine Fn ?_;refine EY ?_;refine JN ?_;refine Q_ ?_;refine EH rfl (by rw [c4.2];rfl) ?_
   refine AG ?_;exact Cu
 have c2n:¬n<0:=fun h=>c2 (.inl h)
 refine S_ ?_;refine E8 [0,1,2,3,11,12,38] (fun (q:Bool)=>⟨118,AQ [0,1,2,3,11,12,38] [Ai 0,Aj k,Aj n,.c (.sl 1 0 m cap 1),Aj ((Cr k:Nat):Int),Aj ((FV k:Nat):Int),.c (.val (.bool q))],[.row true (.ac [.sl 2 0 N N 3,.mp 3]),.row true (.ai a),.row true (.an L),.row true (.mp (Bf L))]⟩) false ?_ ?_
 ·by_cases c3:0<n
  ·have c4:DJ k=true:=by cases hq:DJ k with
    |true=>rfl
    |false=>exact absurd (Or.inr ⟨c3,hq⟩) c2
   refine BC ?_;refine Dd ?_;refine ET ?_;refine Fn ?_;refine EY ?_;refine JN ?_;exact ⟨!(DJ k),K_,by rw [c4];rfl⟩
  ·refine S_ ?_
   refine CX ?_;refine Dd ?_;refine Fo ?_;refine JN ?_;exact ⟨false,K_,rfl⟩
 have ml:=Dj k
 by_cases c5:a.length<Cr k∨FV k<a.length
 ·rw [show Bz N k n a=2 by unfold Bz;rw [if_neg O_,if_neg c2,if_pos c5]]
  by_cases c6:a.length<Cr k
  ·refine S_ ?_
   refine CX ?_;refine HN ?_;refine AO ?_;refine CF ?_;refine Lk ?_;refine Fq ?_;refine C4 ?_;refine Ad ?_;exact Cu
  ·refine S_ ?_
   refine CX ?_;refine HN ?_;refine AO ?_;refine CF ?_;refine BZ ?_;refine HN ?_;refine BI ?_;refine D6 ?_;refine VS ?_;refine Ba ?_;refine Ad ?_;exact Cu
 rw [not_or] at c5
 refine BC ?_;refine HN ?_;refine AO ?_;refine CF ?_;refine BZ ?_;refine HN ?_;refine BI ?_;refine D6 ?_;refine VS ?_;refine JN ?_;have c7:hasB N a=false:=by
  cases hq:hasB N a with
  |false=>rfl
  |true=>exact absurd (by unfold Bz;rw [if_neg O_,if_neg c2,if_neg O_,if_neg (by rw [hq];simp)]) he
 rw [show Bz N k n a=8 by unfold Bz;rw [if_neg O_,if_neg c2,if_neg O_,if_pos c7]]
 refine BD ?_;refine FC (UP L (Bf L) N a m cap hN O_ hm O_) bI ?_;refine Fn ?_;refine Bv ?_;refine Q_ ?_;refine EH rfl (by rw [c7];rfl) ?_
 refine AG ?_;exact Cu
theorem qD(L:List Nd)(N:Nat)(k n:Int)(a:List Int)(m cap:Nat)(hA:EB L)(hN:L.length=N)(hNl:N≤1000000)(hm:a.length=m)(hml:m≤1000)(hr:∀x∈k::n::a,-9223372036854775808≤x∧x≤9223372036854775807)(he:Bz N k n a=0)(i:Nat)(hf:GV L ⟨k,n,a⟩=some i):Ev prog (.call 21 [Ai 0,Aj k,Aj n,.c (.sl 1 0 m cap 1)] [.row true (.ac [.sl 2 0 N N 3,.mp 3]),.row true (.ai a),.row true (.an L),.row true (.mp (Bf L))]) (.val (.tup [Aj ((i:Nat):Int),Aj ((0:Nat):Int)]) [.row true (.ac [.sl 2 0 N N 3,.mp 3]),.row true (.ai a),.row true (.an L),.row true (.mp (Bf L))]):=by
 have hok:=IK he
 have c1:=hok.kind
 dsimp only at c1
 have c2:¬(n<0∨(0<n∧DJ k=false)):=by
  have h3:=hok.num
  dsimp only at h3
  rintro (h | ⟨h,h2⟩)
  ·omega
  ·rw [h3.2 h] at h2;cases h2
 have c2n:¬n<0:=fun h=>c2 (.inl h)
 have c5:=hok.len
 dsimp only at c5
 have ml:=Dj k
 have c7:hasB N a=true:=by
  cases hq:hasB N a with
  |true=>rfl
  |false=>revert he;unfold Bz;rw [if_neg O_,if_neg c2,if_neg O_,if_pos hq];intro h;cases h
 refine gO ?_;refine AG ?_;refine Iu ?_;refine E8 [0,1,2,3,10] (fun (q:Bool)=>⟨118,AQ [0,1,2,3,10] [Ai 0,Aj k,Aj n,.c (.sl 1 0 m cap 1),.c (.val (.bool q))],[.row true (.ac [.sl 2 0 N N 3,.mp 3]),.row true (.ai a),.row true (.an L),.row true (.mp (Bf L))]⟩) (DJ k) ?_ ?_
 ·by_cases h1:k=1
  ·refine S_ ?_
   refine M8 ?_;refine JV ?_;refine JV ?_;refine Bv ?_;exact ⟨true,K_,by simp [DJ,h1]⟩
  ·by_cases h2:k=2
   ·refine S_ ?_
    refine M8 ?_;refine BZ ?_;refine G0 ?_;refine Ba ?_;refine JV ?_;refine Bv ?_;exact ⟨true,K_,by simp [DJ,h2]⟩
   ·refine S_ ?_
    refine M8 ?_;refine BZ ?_;refine G0 ?_;refine Ba ?_;refine BZ ?_;refine G0 ?_;refine JN ?_;exact ⟨decide (k=4),K_,by simp [DJ,h1,h2]⟩
 refine BC ?_;refine FC (TR k) eb ?_;refine E1 ?_;refine Dd ?_;refine Ba ?_;refine A7 ?_;refine E8 [0,1,2,3,11,12,38] (fun (q:Bool)=>⟨118,AQ [0,1,2,3,11,12,38] [Ai 0,Aj k,Aj n,.c (.sl 1 0 m cap 1),Aj ((Cr k:Nat):Int),Aj ((FV k:Nat):Int),.c (.val (.bool q))],[.row true (.ac [.sl 2 0 N N 3,.mp 3]),.row true (.ai a),.row true (.an L),.row true (.mp (Bf L))]⟩) false ?_ ?_
 ·by_cases c3:0<n
  ·have c4:DJ k=true:=by cases hq:DJ k with
    |true=>rfl
    |false=>exact absurd (Or.inr ⟨c3,hq⟩) c2
   refine BC ?_;refine Dd ?_;refine ET ?_;refine Fn ?_;refine EY ?_;refine JN ?_;exact ⟨!(DJ k),K_,by rw [c4];rfl⟩
  ·refine S_ ?_
   refine CX ?_;refine Dd ?_;refine Fo ?_;refine JN ?_;exact ⟨false,K_,rfl⟩
 refine BC ?_;refine HN ?_;refine AO ?_;refine CF ?_;refine BZ ?_;refine HN ?_;refine BI ?_;refine D6 ?_;refine VS ?_;refine Ba ?_;refine BB ?_;refine FC (UP L (Bf L) N a m cap hN O_ hm O_) bI ?_;refine Fn ?_;refine Bv ?_;refine Q_ ?_;refine Bn rfl (by rw [c7];rfl) ?_
 refine BD ?_;refine AO ?_;refine FC (cK k n a m cap hm hml hr) kq ?_;refine AY ?_;refine KB ?_;refine AA (Ab rfl (Qu _ _)) rfl ?_;refine AA (Bj rfl rfl Tr Dp rfl) rfl ?_;refine AO ?_;refine DK (pm (c:= .val (.int .i64 (i:Int))) underlying73 underlying9 rfl rfl rfl hA.keyed (by have h:=il (P4 hf).1;rw [(P4 hf).2] at h;exact h)) rfl ?_
 refine E1 ?_;refine AY ?_;exact Cu
theorem qn(L:List Nd)(N:Nat)(k n:Int)(a:List Int)(m cap:Nat)(hA:EB L)(hN:L.length=N)(hNl:N≤1000000)(hm:a.length=m)(hml:m≤1000)(hr:∀x∈k::n::a,-9223372036854775808≤x∧x≤9223372036854775807)(he:Bz N k n a=0)(hf:GV L ⟨k,n,a⟩=none):Ev prog (.call 21 [Ai 0,Aj k,Aj n,.c (.sl 1 0 m cap 1)] [.row true (.ac [.sl 2 0 N N 3,.mp 3]),.row true (.ai a),.row true (.an L),.row true (.mp (Bf L))]) (.val (.tup [Aj ((N:Nat):Int),Aj ((0:Nat):Int)]) [.row true (.ac [.sl 4 0 (N+1) (N+1) 3,.mp 3]),.row true (.ai a),.dead,.row true (.mp (Bf (L++[⟨k,n,a⟩]))),.row true (.an (L++[⟨k,n,a⟩]))]):=by
 have hok:=IK he
 have c1:=hok.kind
 dsimp only at c1
 have c2:¬(n<0∨(0<n∧DJ k=false)):=by
  have h3:=hok.num
  dsimp only at h3
  rintro (h | ⟨h,h2⟩)
  ·omega
  ·rw [h3.2 h] at h2;cases h2
 have c2n:¬n<0:=fun h=>c2 (.inl h)
 have c5:=hok.len
 dsimp only at c5
 have ml:=Dj k
 have c7:hasB N a=true:=by
  cases hq:hasB N a with
  |true=>rfl
  |false=>revert he;unfold Bz;rw [if_neg O_,if_neg c2,if_neg O_,if_pos hq];intro h;cases h
 refine gO ?_;refine AG ?_;refine Iu ?_;refine E8 [0,1,2,3,10] (fun (q:Bool)=>⟨118,AQ [0,1,2,3,10] [Ai 0,Aj k,Aj n,.c (.sl 1 0 m cap 1),.c (.val (.bool q))],[.row true (.ac [.sl 2 0 N N 3,.mp 3]),.row true (.ai a),.row true (.an L),.row true (.mp (Bf L))]⟩) (DJ k) ?_ ?_
 ·by_cases h1:k=1
  ·refine S_ ?_
   refine M8 ?_;refine JV ?_;refine JV ?_;refine Bv ?_;exact ⟨true,K_,by simp [DJ,h1]⟩
  ·by_cases h2:k=2
   ·refine S_ ?_
    refine M8 ?_;refine BZ ?_;refine G0 ?_;refine Ba ?_;refine JV ?_;refine Bv ?_;exact ⟨true,K_,by simp [DJ,h2]⟩
   ·refine S_ ?_
    refine M8 ?_;refine BZ ?_;refine G0 ?_;refine Ba ?_;refine BZ ?_;refine G0 ?_;refine JN ?_;exact ⟨decide (k=4),K_,by simp [DJ,h1,h2]⟩
 refine BC ?_;refine FC (TR k) eb ?_;refine E1 ?_;refine Dd ?_;refine Ba ?_;refine A7 ?_;refine E8 [0,1,2,3,11,12,38] (fun (q:Bool)=>⟨118,AQ [0,1,2,3,11,12,38] [Ai 0,Aj k,Aj n,.c (.sl 1 0 m cap 1),Aj ((Cr k:Nat):Int),Aj ((FV k:Nat):Int),.c (.val (.bool q))],[.row true (.ac [.sl 2 0 N N 3,.mp 3]),.row true (.ai a),.row true (.an L),.row true (.mp (Bf L))]⟩) false ?_ ?_
 ·by_cases c3:0<n
  ·have c4:DJ k=true:=by cases hq:DJ k with
    |true=>rfl
    |false=>exact absurd (Or.inr ⟨c3,hq⟩) c2
   refine BC ?_;refine Dd ?_;refine ET ?_;refine Fn ?_;refine EY ?_;refine JN ?_;exact ⟨!(DJ k),K_,by rw [c4];rfl⟩
  ·refine S_ ?_
   refine CX ?_;refine Dd ?_;refine Fo ?_;refine JN ?_;exact ⟨false,K_,rfl⟩
 refine BC ?_;refine HN ?_;refine AO ?_;refine CF ?_;refine BZ ?_;refine HN ?_;refine BI ?_;refine D6 ?_;refine VS ?_;refine Ba ?_;refine BB ?_;refine FC (UP L (Bf L) N a m cap hN O_ hm O_) bI ?_;refine Fn ?_;refine Bv ?_;refine Q_ ?_;refine Bn rfl (by rw [c7];rfl) ?_
 refine BD ?_;refine AO ?_;refine FC (cK k n a m cap hm hml hr) kq ?_;refine AY ?_;refine KB ?_;refine AA (Ab rfl (Qu _ _)) rfl ?_;refine AA (Bj rfl rfl Tr Dp rfl) rfl ?_;refine AO ?_;refine DK (et (i:=Tryz.t3) (c:= .val (.int .i64 0)) underlying73 underlying9 K_ K_ (fun _=>rfl) rfl rfl rfl hA.keyed trivial (O2 hf)) rfl ?_
 refine E1 ?_;refine AY ?_;refine KB ?_;refine Q0 ?_;refine GU ?_;refine AA (MZ (b:=1048576) rfl rfl) rfl ?_;refine A7 ?_;refine RG ?_;refine II ?_;refine AE (Ab rfl (Qu _ _)) rfl ?_;refine AE (Bj rfl rfl Tr Dp rfl) rfl ?_;refine By ?_;refine AE (Ft rfl) rfl ?_;refine AE (Ab rfl (Lw _ _)) rfl ?_;refine PH ?_;refine Wr ?_;refine Bc ?_;refine fZ (Qh (c:= .val (.int .i64 (N:Int))) underlying73 underlying9 rfl rfl rfl rfl hA.keyed trivial (O2 hf) AK) ?_;refine A1 ?_;refine H3 [(10,[]),(11,[2]),(14,[0])] [0,2] 2 mixed K_ K_ ?_;refine IR ?_;refine B7 (Ft rfl) rfl ?_;refine B7 (Ab rfl (Lw _ _)) rfl ?_;refine mX ?_;refine IR ?_;refine KN ?_;refine pn (xL (AZ (ZB a m cap hm hml) rW rfl rfl rfl rfl)) (fun _=>rfl) rfl ?_
 refine B7 (TK rfl rfl rfl) rfl ?_;refine Em (Ev.mem (cV rfl rfl)) rfl Yw ?_;refine Em (YJ rfl rfl rfl rfl underlying53 underlying53 lm hN O_ AN AK) rfl Yw ?_;refine B7 (Ft rfl) rfl ?_;refine B7 (Ab rfl (Lw _ _)) rfl ?_;refine Tq (Wx (w:= .ac [.sl 5 0 (N+1) (N+1) 3,.mp 3]) rfl rfl rfl rfl kM (by show 0<2;decide) rfl AK) rfl Yw ?_
 refine PO ?_;refine BC ?_;refine KB ?_;refine Q0 ?_;refine GU ?_;refine ft ?_;refine Iu ?_;rw [V7,hN]
 exact Sq
structure Stp where
 k:Int
 n:Int
 a:List Int
 r:Bool
instance:Inhabited Stp:=⟨⟨0,0,[],false⟩⟩
def CR(S:List Stp)(i:Nat):Stp:=S.getD i ⟨0,0,[],false⟩
def ya(s:Stp):List C1:=[.val (.int .i64 s.k),.val (.int .i64 s.n),.is s.a,.val (.bool s.r)]
def stA(S:List Stp):List C1:=S.flatMap ya
theorem P2(S:List Stp):(stA S).length=4*S.length:=by
 induction S with
 |nil=>rfl
 |cons s S ih=>rw [stA,List.flatMap_cons,List.length_append,←stA,ih,List.length_cons];show 4+_=_;omega
theorem qj(S:List Stp)(i f:Nat)(hi:i<S.length)(hf:f<4):(stA S)[i*4+f]?=(ya (CR S i))[f]?:=by
 induction S generalizing i with
 |nil=>exact absurd hi (Nat.not_lt_zero i)
 |cons s S ih=>
  rw [stA,List.flatMap_cons,←stA]
  cases i with
  |zero=>
   rw [List.getElem?_append_left (by show _<4;omega)]
   simp [CR]
  |succ i=>
   rw [List.getElem?_append_right (by show 4≤_;omega),show (i+1)*4+f-(ya s).length=i*4+f by show _-4=_;omega,ih i (by simpa using hi)]
   rfl
section
variable {P:Program} {T:Nat→AV} {M:Ag} {t:TypeId} {a:Operand} {b o i:Nat} {own:Bool} {S:List Stp}
theorem Ez{f:Nat}{c:C1}(hi:i<S.length)(hf:f<4)(hc:(ya (CR S i))[f]?=some c):i*4+f<(Arr.al (stA S)).size∧(Arr.al (stA S)).get (i*4+f)=c.cell:=by
 have h:=qj S i f hi hf
 rw [hc] at h
 refine ⟨?_,?_⟩
 ·show _<(stA S).length
  rw [P2];omega
 ·simp [Arr.get,ql,List.getD_eq_getElem?_getD,h]
theorem LU(ha:AC T a= .c (.ptr b o))(ho:o=i*4+0)(hm:M[b]?=some (.row own (.al (stA S))))(hr:A5 P t=some false)(hi:i<S.length):AI P (AC T) M (.load t a)=some (.c (.val (.int .i64 (CR S i).k))):=by
 subst ho;exact Bj ha hm hr (Ez (f:=0) (c:= .val (.int .i64 (CR S i).k)) hi D_ rfl).1 (Ez (f:=0) (c:= .val (.int .i64 (CR S i).k)) hi D_ rfl).2
theorem Lc(ha:AC T a= .c (.ptr b o))(ho:o=i*4+1)(hm:M[b]?=some (.row own (.al (stA S))))(hr:A5 P t=some false)(hi:i<S.length):AI P (AC T) M (.load t a)=some (.c (.val (.int .i64 (CR S i).n))):=by
 subst ho;exact Bj ha hm hr (Ez (f:=1) (c:= .val (.int .i64 (CR S i).n)) hi D_ rfl).1 (Ez (f:=1) (c:= .val (.int .i64 (CR S i).n)) hi D_ rfl).2
theorem Uy(ha:AC T a= .c (.ptr b o))(ho:o=i*4+2)(hm:M[b]?=some (.row own (.al (stA S))))(hr:A5 P t=some false)(hi:i<S.length):AI P (AC T) M (.load t a)=some (.c (.is (CR S i).a)):=by
 subst ho;exact Bj ha hm hr (Ez (f:=2) (c:= .is (CR S i).a) hi D_ rfl).1 (Ez (f:=2) (c:= .is (CR S i).a) hi D_ rfl).2
theorem nG(ha:AC T a= .c (.ptr b o))(ho:o=i*4+3)(hm:M[b]?=some (.row own (.al (stA S))))(hr:A5 P t=some false)(hi:i<S.length):AI P (AC T) M (.load t a)=some (.c (.val (.bool (CR S i).r))):=by
 subst ho;exact Bj ha hm hr (Ez (f:=3) (c:= .val (.bool (CR S i).r)) hi D_ rfl).1 (Ez (f:=3) (c:= .val (.bool (CR S i).r)) hi D_ rfl).2
end
theorem Zj{S:List Stp}{i m:Nat}(hi:i<S.length)(hm:i<m):CR S i∈S.take m:=by
 have:CR S i=S[i]:=by simp [CR,hi]
 rw [this]
 exact List.mem_take_iff_getElem.2 ⟨i,by omega,rfl⟩
def JZ(S:List Stp):Bool:=decide (600<S.length) || (S.take 150).any fun s=>decide (420<s.a.length)
theorem Np(k:r)(h:Hid r→g:=by intro h;refine AA (Ku rfl underlying48) rfl ?_;exact h.out):g:=h ⟨k⟩
theorem Xf(k:r)(h:Hid r→g:=by intro h;refine AA (RO rfl rfl underlying48 rv O_) rfl ?_;exact h.out):g:=h ⟨k⟩
theorem dg(S:List Stp)(n cap:Nat)(hn:S.length=n)(hnl:n≤9223372036854775807)(_ha:∀i,i<n→(CR S i).a.length≤9223372036854775807):Ev prog (.call 23 [.c (.sl 0 0 n cap 4)] [.row false (.al (stA S))]) (.val (.c (.val (.bool (JZ S)))) [.row false (.al (stA S))]):=by
 by_cases h6:600<n
 ·rw [show JZ S=true by unfold JZ;rw [hn,decide_eq_true h6];rfl]
  refine AJ func23 rfl ntmps23 rfl AN ?_;refine Hk ?_;refine Np ?_;refine AA (Il (b:=600) rfl rfl) rfl ?_;exact Jw
 have hB0:JZ S=(S.take 150).any fun s=>decide (420<s.a.length):=by unfold JZ;rw [hn,decide_eq_false h6];rfl
 have hB':(∀i,i<n→i<150→ ¬420<(CR S i).a.length)→((S.take 150).any fun s=>decide (420<s.a.length))=false:=fun h=>by
  rw [List.any_eq_false]
  intro s hs
  obtain ⟨i,hi,rfl⟩:=List.getElem_of_mem hs
  have hl:i<150∧i<S.length:=by simp at hi;omega
  have:=h i O_ hl.1
  simpa [CR,hl.2] using this
 refine AJ func23 rfl ntmps23 rfl AN ?_;refine Hk ?_;refine Np ?_;refine AA (Il (b:=600) rfl rfl) rfl ?_;refine AS ?_;refine A7 ?_;refine DL [0,3] (fun (j:Nat)=>⟨24,AQ [0,3] [.c (.sl 0 0 n cap 4),Aj (j:Int)],[.row false (.al (stA S))]⟩) (fun j=>n-j) (fun j=>j≤n∧j≤150∧ ∀i,i<j→ ¬420<(CR S i).a.length) 0 K_ ⟨Nat.zero_le _,Nat.zero_le _,fun i h=>absurd h (Nat.not_lt_zero i)⟩ ?_
 rintro j ⟨hj,hj2,hB⟩
 by_cases hlt:j<n
 ·by_cases hlt2:j<150
  ·refine S_ ?_
   refine CX ?_;refine AO ?_;refine Np ?_;refine CF ?_;refine BZ ?_;refine AA (BE (b:=150) rfl rfl) rfl ?_;refine C4 ?_;refine AM ?_;by_cases h4:420<(CR S j).a.length
   ·rw [show JZ S=true by rw [hB0];exact List.any_eq_true.2 ⟨CR S j,Zj O_ hlt2,decide_eq_true h4⟩]
    refine BD ?_;refine Xf ?_;refine AA (Ab rfl (YH _ _)) rfl ?_;refine AA (Uy (i:=j) rfl O_ rfl rfl O_) rfl ?_;refine IF ?_;refine AA (Il (b:=420) rfl rfl) rfl ?_;exact Jw
   ·refine S_ ?_
    refine CX ?_;refine AO ?_;refine Xf ?_;refine AA (Ab rfl (YH _ _)) rfl ?_;refine AA (Uy (i:=j) rfl O_ rfl rfl O_) rfl ?_;refine IF ?_;refine AA (Il (b:=420) rfl rfl) rfl ?_;refine AW ?_;refine DG ?_;refine ⟨j+1,K_,by show n-(j+1)<n-j;omega,by omega,by omega,fun i hi=>?_⟩
    rcases (by omega:i<j∨i=j) with h | rfl
    ·exact hB i h
    ·exact h4
  ·rw [show JZ S=false by rw [hB0];exact hB' fun i hi hi2=>hB i O_]
   refine BD ?_;refine Np ?_;refine CF ?_;refine BZ ?_;refine AA (BE (b:=150) rfl rfl) rfl ?_;refine C4 ?_;exact Jw
 ·rw [show JZ S=false by rw [hB0];exact hB' fun i hi hi2=>hB i O_]
  refine BD ?_;refine Np ?_;refine CF ?_;refine Lk ?_;refine Ba ?_;exact Jw
def Hp(s:Stp)(N:Nat):List Int:=if s.r then s.a else HQ s.a N
def UC(L:List Nd)(s:Stp):List Nd:=(mk L s.k s.n (Hp s L.length)).1
def bL(S:List Stp):Nat→List Nd
 |0=>[]
 |j+1=>UC (bL S j) (CR S j)
theorem yO{L:List Nd}{k n:Int}{a:List Int}(h:Bz L.length k n a≠0):(mk L k n a).1=L:=by unfold mk;rw [if_pos h]
theorem xD{L:List Nd}{k n:Int}{a:List Int}{i:Nat}(h:Bz L.length k n a=0)(hf:GV L ⟨k,n,a⟩=some i):(mk L k n a).1=L:=by unfold mk;rw [if_neg O_,hf]
theorem vy{L:List Nd}{k n:Int}{a:List Int}(h:Bz L.length k n a=0)(hf:GV L ⟨k,n,a⟩=none)(hl:L.length<1048576):(mk L k n a).1=L++[⟨k,n,a⟩]:=by
 unfold mk;rw [if_neg O_,hf];dsimp only;rw [if_neg O_]
theorem dA{s:Stp}{N:Nat}:(Hp s N).length=s.a.length:=by unfold Hp;split<;>simp [HQ]
theorem XK{s:Stp}{N:Nat}(h:∀x∈s.a,-9223372036854775808≤x∧x≤9223372036854775807)(hN:N≤1000000):∀x∈Hp s N,-9223372036854775808≤x∧x≤9223372036854775807:=by
 unfold Hp
 split
 ·exact h
 ·intro x hx
  obtain ⟨y,hy,rfl⟩:=List.mem_map.1 hx
  have:=h y hy
  split
  ·rename_i hc
   have h1:=Int.emod_nonneg y (show (N:Int)≠0 by omega)
   have h2:=Int.emod_lt_of_pos y (show (0:Int)<N by omega)
   omega
  ·exact this
def TZ(x:Int):Prop:= -9223372036854775808≤x∧x≤9223372036854775807
structure tR(S:List Stp):Prop where
 num:∀i,i<S.length→TZ (CR S i).k∧TZ (CR S i).n∧ ∀x∈(CR S i).a,TZ x
 len:∀i,i<S.length→i<150→(CR S i).a.length≤420
theorem mU{L:List Nd}{s:Stp}(h:EB L)(hl:L.length<1048576)(hn:s.n≤9223372036854775807):EB (UC L s)∧(UC L s).length≤L.length+1:=by
 unfold UC
 by_cases he:Bz L.length s.k s.n (Hp s L.length)=0
 ·cases hf:GV L ⟨s.k,s.n,Hp s L.length⟩ with
  |some i=>rw [xD he hf];exact ⟨h,by omega⟩
  |none=>rw [vy he hf hl];exact ⟨h.snoc he hn hf,by simp⟩
 ·rw [yO he];exact ⟨h,by omega⟩
theorem fL{S:List Stp}(hS:tR S):∀j,j≤S.length→j≤150→EB (bL S j)∧(bL S j).length≤j
 |0,_,_=>⟨.nil,Nat.le_refl _⟩
 |j+1,h,h2=>by
  have h3:=fL hS j O_ O_
  have h4:=mU (s:=CR S j) h3.1 O_ (hS.num j O_).2.1.2
  exact ⟨h4.1,by have:=h4.2;show (UC _ _).length≤_;omega⟩
theorem uO:Bo prog 55 []=some (.agg (.ac [.nsl])):=by kernel_rfl
theorem lA(L:List Nd)(es:List (Value×C1))(N:Nat)(_hNl:N≤1048576)(_hN:L.length=N):Ev prog (.call 51 [Ai 0] [.row false (.ac [.sl 1 0 N N 3,.mp 2]),.row false (.an L),.row false (.mp es)]) (.val (Aj ((N:Nat):Int)) [.row false (.ac [.sl 1 0 N N 3,.mp 2]),.row false (.an L),.row false (.mp es)]):=by
 refine AJ func51 rfl ntmps51 rfl AN ?_;refine Hk ?_;refine KB ?_;refine Q0 ?_;refine GU ?_;exact DP
theorem IU(k:r)(h:Hid r→g:=by intro h;refine B7 (RO rfl rfl underlying48 rv O_) rfl ?_;exact h.out):g:=h ⟨k⟩
theorem RL(k:r)(h:Hid r→g:=by intro h;refine B7 (Ab rfl (qt _ _)) rfl ?_;exact h.out):g:=h ⟨k⟩
theorem SQ(k:r)(h:Hid r→g:=by intro h;refine B7 (Ab rfl (pZ _ _)) rfl ?_;exact h.out):g:=h ⟨k⟩
theorem oG(S:List Stp)(n cap:Nat)(hn:S.length=n)(hnl:n≤9223372036854775807)(hS:tR S)(L:List Nd)(N:Nat)(hL:bL S (min n 150)=L)(hN:L.length=N):Ev prog (.call 24 [.c (.sl 0 0 n cap 4)] [.row false (.al (stA S))]) (.val (.tup [Ai 1,Ai 2,.c (.val (.bool true))]) [.row false (.al (stA S)),.row true (.ac [.sl 3 0 N N 3,.mp 4]),.row true (.ac [.sl 5 0 N N 3]),.row true (.an L),.row true (.mp (Bf L)),.row true (.an L)]):=by
 refine AJ func24 rfl ntmps24 rfl AN ?_;refine AG ?_;refine Fm ?_;refine El ?_;refine BL (lg) rg ?_;refine AA (W1 (by simp) uO) rfl ?_
 refine bp ?_;refine F6 ?_;refine kL 4 0 3 (.an []) rfl rfl rfl rfl ?_;refine BC ?_;refine DK (lU rS rfl rfl) rfl ?_;refine AS ?_;refine A7 ?_;refine DL [0,5,6,7] (fun (zz:Nat×List Nd×Nat)=>⟨107,AQ [0,5,6,7] [.c (.sl 0 0 n cap 4),Ai 1,Ai 2,Aj (zz.1:Int)],[.row false (.al (stA S)),.row true (.ac [.sl 3 0 zz.2.2 zz.2.2 3,.mp 4]),.row true (.ac [.sl 5 0 zz.2.2 zz.2.2 3]),.row true (.an zz.2.1),.row true (.mp (Bf zz.2.1)),.row true (.an zz.2.1)]⟩) (fun zz=>n-zz.1) (fun zz=>zz.1≤n∧zz.1≤150∧bL S zz.1=zz.2.1∧zz.2.1.length=zz.2.2) (0,[],0) K_ ⟨Nat.zero_le _,Nat.zero_le _,rfl,rfl⟩ ?_
 rintro ⟨j,K,m⟩ ⟨hj,hj2,hK,hm⟩
 dsimp only at hj hj2 hK hm ⊢
 by_cases hc:j<n∧j<150
 ·obtain ⟨c1,c2⟩:=hc
  have hb:=fL hS j O_ hj2
  rw [hK] at hb
  obtain ⟨hA,hml⟩:=hb
  rw [hm] at hml
  have hnum:=hS.num j O_
  have hlen:=hS.len j O_ c2
  have hnx:bL S (j+1)=UC K (CR S j):=by rw [←hK];rfl
  unfold UC at hnx
  rw [hm] at hnx
  have hal:(Hp (CR S j) m).length≤420:=by rw [dA];exact hlen
  have har:=XK (N:=m) hnum.2.2 O_
  have hrr:∀x∈(CR S j).k::(CR S j).n::Hp (CR S j) m,-9223372036854775808≤x∧x≤9223372036854775807:=by
   intro x hx
   rcases List.mem_cons.1 hx with rfl | hx
   ·exact hnum.1
   rcases List.mem_cons.1 hx with rfl | hx
   ·exact hnum.2.1
   ·exact har x hx
  have hSome:=ph (CR S j).a m O_ O_ hnum.2.2
  rw [←WS (CR S j).a m] at hSome
  refine BD ?_;refine Np ?_;refine CF ?_;refine BZ ?_;refine AA (BE (b:=150) rfl rfl) rfl ?_;refine C4 ?_;refine FK ?_;refine Xf ?_;refine AA (Ab rfl (YH _ _)) rfl ?_;refine AA (Uy (i:=j) rfl O_ rfl rfl O_) rfl ?_;refine BB ?_;refine Xf ?_;refine AA (Ab rfl (qX _ _)) rfl ?_;refine AA (nG (i:=j) rfl O_ rfl rfl O_) rfl ?_;refine QM ?_;refine E8 [0,5,6,7,8] (fun (a:List Int)=>⟨107,AQ [0,5,6,7,8] [.c (.sl 0 0 n cap 4),Ai 1,Ai 2,Aj (j:Int),.c (.is a)],[.row false (.al (stA S)),.row true (.ac [.sl 3 0 m m 3,.mp 4]),.row true (.ac [.sl 5 0 m m 3]),.row true (.an K),.row true (.mp (Bf K)),.row true (.an K)]⟩) (Hp (CR S j) m) ?_ ?_
  ·cases hr:(CR S j).r with
   |true=>
    refine Bn rfl rfl ?_;refine S_ ?_;exact ⟨(CR S j).a,K_,by unfold Hp;rw [hr];rfl⟩
   |false=>
    refine EH rfl rfl ?_;refine BD ?_;refine FQ ?_;refine GU ?_;refine DK (UX (AZ (bs:=[]) (hSome) wk K_ K_ rfl Bb) AN Au rfl) rfl ?_;refine Bv ?_;exact ⟨HQ (CR S j).a m,K_,by unfold Hp;rw [hr];rfl⟩
  clear hSome
  generalize Hp (CR S j) m=aa at*
  obtain ⟨l,hl⟩:∃l,aa.length=l:=⟨_,rfl⟩
  generalize hk:(CR S j).k=k at*
  generalize hnn:(CR S j).n=nn at*
  have hI:=mR aa aa aa.length aa.length rfl O_ O_
  rw [decide_eq_true rfl] at hI
  refine BC ?_;refine BL (aU aa O_) rb ?_;refine Bv ?_;by_cases he:Bz m k nn aa=0
  ·cases hf:GV K ⟨k,nn,aa⟩ with
   |some i=>
    refine S_ ?_;refine H3 [(12,[1,3,4])] [1,3,4] 0 mixed K_ K_ ?_;refine IR ?_;refine KN ?_;refine IU ?_;refine RL ?_;refine B7 ((LU (i:=j) rfl O_ rfl rfl O_).trans (by rw [hk])) rfl ?_
    refine IR ?_;refine IU ?_;refine SQ ?_;refine B7 ((Lc (i:=j) rfl O_ rfl rfl O_).trans (by rw [hnn])) rfl ?_
    refine KN ?_;refine Em (Eg (bs:=[1,6,3,4]) (qD K m k nn aa aa.length aa.length hA hm O_ rfl O_ hrr he i hf) Vn K_ rfl rfl Bb AK) rfl Yw ?_;refine B7 (I0 rfl) rfl ?_;refine Gb ?_;refine Gb ?_;refine G5 ?_;refine G5 ?_;refine PO ?_;refine S_ ?_;refine H3 [(12,[2,5])] [2,5] 0 mixed K_ K_ ?_;refine IR ?_;refine KN ?_;refine IU ?_;refine RL ?_;refine B7 ((LU (i:=j) rfl O_ rfl rfl O_).trans (by rw [hk])) rfl ?_
    refine IR ?_;refine IU ?_;refine SQ ?_;refine B7 ((Lc (i:=j) rfl O_ rfl rfl O_).trans (by rw [hnn])) rfl ?_
    refine KN ?_;refine Em (Eg (bs:=[2,5]) (kw K m k nn aa aa.length hA hm O_ rfl O_ he i hf) kj K_ rfl rfl Bb AK) rfl Yw ?_;refine B7 (I0 rfl) rfl ?_;refine Gb ?_;refine Gb ?_;refine G5 ?_;refine G5 ?_;refine PO ?_;refine BD ?_;refine L3 ?_;refine BZ ?_;refine D6 ?_;refine L3 ?_;refine Ba ?_;refine BZ ?_;refine D6 ?_;refine fp (hI) eY ?_;refine BI ?_;refine Fn ?_;refine Ba ?_;refine AW ?_;refine pQ (Rv aa aa.length aa.length rfl O_) jo ?_;refine AW ?_;refine DG ?_;exact ⟨(j+1,K,m),K_,by show n-(j+1)<n-j;omega,by show j+1≤n;omega,by show j+1≤150;omega,by rw [hnx,xD (by rw [hm];exact he) hf],hm⟩
   |none=>
    refine S_ ?_;refine H3 [(12,[1,3,4])] [1,3,4] 1 mixed K_ K_ ?_;refine IR ?_;refine KN ?_;refine IU ?_;refine RL ?_;refine B7 ((LU (i:=j) rfl O_ rfl rfl O_).trans (by rw [hk])) rfl ?_
    refine IR ?_;refine IU ?_;refine SQ ?_;refine B7 ((Lc (i:=j) rfl O_ rfl rfl O_).trans (by rw [hnn])) rfl ?_
    refine KN ?_;refine Em (Eg (bs:=[1,6,3,4]) (qn K m k nn aa aa.length aa.length hA hm O_ rfl O_ hrr he hf) Vn K_ rfl rfl Bb AK) rfl Yw ?_;refine B7 (I0 rfl) rfl ?_;refine Gb ?_;refine Gb ?_;refine G5 ?_;refine G5 ?_;refine PO ?_;refine S_ ?_;refine H3 [(12,[2,5])] [2,5] 1 mixed K_ K_ ?_;refine IR ?_;refine KN ?_;refine IU ?_;refine RL ?_;refine B7 ((LU (i:=j) rfl O_ rfl rfl O_).trans (by rw [hk])) rfl ?_
    refine IR ?_;refine IU ?_;refine SQ ?_;refine B7 ((Lc (i:=j) rfl O_ rfl rfl O_).trans (by rw [hnn])) rfl ?_
    refine KN ?_;refine Em (Eg (bs:=[2,5]) (kY K m k nn aa aa.length hA hm O_ rfl O_ he hf) kj K_ rfl rfl Bb AK) rfl Yw ?_;refine B7 (I0 rfl) rfl ?_;refine Gb ?_;refine Gb ?_;refine G5 ?_;refine G5 ?_;refine PO ?_;refine BD ?_;refine L3 ?_;refine BZ ?_;refine D6 ?_;refine L3 ?_;refine Ba ?_;refine BZ ?_;refine D6 ?_;refine fp (hI) eY ?_;refine BI ?_;refine Fn ?_;refine Ba ?_;refine AW ?_;refine pQ (Rv aa aa.length aa.length rfl O_) jo ?_;refine AW ?_;refine DG ?_;exact ⟨(j+1,K++[⟨k,nn,aa⟩],m+1),K_,by show n-(j+1)<n-j;omega,by show j+1≤n;omega,by show j+1≤150;omega,by rw [hnx,vy (by rw [hm];exact he) hf O_],by simp [hm]⟩
  ·refine S_ ?_
   refine H3 [(12,[1,3,4])] [1,3,4] 0 mixed K_ K_ ?_;refine IR ?_;refine KN ?_;refine IU ?_;refine RL ?_;refine B7 ((LU (i:=j) rfl O_ rfl rfl O_).trans (by rw [hk])) rfl ?_
   refine IR ?_;refine IU ?_;refine SQ ?_;refine B7 ((Lc (i:=j) rfl O_ rfl rfl O_).trans (by rw [hnn])) rfl ?_
   refine KN ?_;refine Em (Eg (bs:=[1,6,3,4]) (qc K m k nn aa aa.length aa.length hA hm O_ rfl O_ hrr he) Vn K_ rfl rfl Bb AK) rfl Yw ?_;refine B7 (I0 rfl) rfl ?_;refine Gb ?_;refine Gb ?_;refine G5 ?_;refine G5 ?_;refine PO ?_;refine S_ ?_;refine H3 [(12,[2,5])] [2,5] 0 mixed K_ K_ ?_;refine IR ?_;refine KN ?_;refine IU ?_;refine RL ?_;refine B7 ((LU (i:=j) rfl O_ rfl rfl O_).trans (by rw [hk])) rfl ?_
   refine IR ?_;refine IU ?_;refine SQ ?_;refine B7 ((Lc (i:=j) rfl O_ rfl rfl O_).trans (by rw [hnn])) rfl ?_
   refine KN ?_;refine Em (Eg (bs:=[2,5]) (mQ K m k nn aa aa.length hA hm O_ rfl O_ he) kj K_ rfl rfl Bb AK) rfl Yw ?_;refine B7 (I0 rfl) rfl ?_;refine Gb ?_;refine Gb ?_;refine G5 ?_;refine G5 ?_;refine PO ?_;refine BD ?_;refine L3 ?_;refine BZ ?_;refine D6 ?_;refine L3 ?_;refine Ba ?_;refine BZ ?_;refine D6 ?_;refine fp (hI) eY ?_;refine BI ?_;refine Fn ?_;refine Ba ?_;refine AW ?_;refine pQ (Rv aa aa.length aa.length rfl O_) jo ?_;refine AW ?_;refine DG ?_;exact ⟨(j+1,K,m),K_,by show n-(j+1)<n-j;omega,by show j+1≤n;omega,by show j+1≤150;omega,by rw [hnx,yO (by rw [hm];exact he)],hm⟩
 ·obtain rfl:K=L:=by rw [←hK,←hL,show j=min n 150 by omega]
  obtain rfl:m=N:=by rw [←hm,hN]
  have hb:=fL hS j O_ hj2
  rw [hK,hm] at hb
  by_cases c1:j<n
  ·have c2:¬j<150:=fun h=>hc ⟨c1,h⟩
   refine BD ?_;refine Np ?_;refine CF ?_;refine BZ ?_;refine AA (BE (b:=150) rfl rfl) rfl ?_;refine C4 ?_;refine A1 ?_;refine Pp ?_;refine By ?_;refine A0 ?_;refine V3 (lA K (Bf K) m O_ hm) sD ?_;refine II ?_;refine N4 ?_;refine PH ?_;refine Wr ?_;refine AE ((B4 (a:=m) (b:=m) rfl rfl).trans (by rw [decide_eq_true rfl])) rfl ?_
   refine AE (Ae rfl) rfl ?_;refine Ky ?_;refine A1 ?_;exact k_3 (Dt rfl) (Dt rfl) (Dt rfl) (by (kernel_rfl))
  ·refine S_ ?_
   refine CX ?_;refine AO ?_;refine Np ?_;refine CF ?_;refine Lk ?_;refine Ba ?_;refine A1 ?_;refine Pp ?_;refine By ?_;refine A0 ?_;refine V3 (lA K (Bf K) m O_ hm) sD ?_;refine II ?_;refine N4 ?_;refine PH ?_;refine Wr ?_;refine AE ((B4 (a:=m) (b:=m) rfl rfl).trans (by rw [decide_eq_true rfl])) rfl ?_
   refine AE (Ae rfl) rfl ?_;refine Ky ?_;refine A1 ?_;exact k_3 (Dt rfl) (Dt rfl) (Dt rfl) (by (kernel_rfl))
theorem fP{P:Program}{f:FuncId}{fn:Func}{c:Code}{args:List AV}{m:Ag}{N n:Nat}{Q:AV→Ag→Prop}(hf:P.funcs[f]?=some fn)(hb:fn.body=some c)(hN:fn.ntmps=N)(hn:Nat.ble args.length N=true)(hm:m.length=n)
  (h:WC P n c ⟨N,ox args,m⟩ (fun e s=> ∃v m',Q v m'∧Vt P n fn.results.toList v m' e s)):∃v m',Q v m'∧Ev P (.call f args m) (.val v m'):=by
 obtain ⟨e,r,h1,v,m',hq,h2⟩:=h.h
 exact ⟨v,m',hq,AJ hf hb hN hn hm ⟨⟨e,r,h1,h2⟩⟩⟩
def zl(L:List Nd)(N:Nat)(v:AV)(m':Ag):Prop:= ∃l:List Int,(l.length≤N∧ ∀x∈l,0≤x∧x<(N:Int))∧v= .c (.sl 2 0 l.length l.length 1)∧m'=[.row false (.ac [.sl 1 0 N N 3]),.row false (.an L),.row true (.ai l)]
theorem Re(k:r)(h:Hid r→g:=by intro h;refine AA (Ab rfl (QW _ _)) rfl ?_;exact h.out):g:=h ⟨k⟩
theorem qT(L:List Nd)(N i:Nat)(hN:L.length=N)(hNl:N≤1048576)(hi:i<N)(hA:EB L):∃v m',zl L N v m'∧Ev prog (.call 52 [.c (.ptr 0 0),.c (.val (.int .i64 (i:Int)))] [.row false (.ac [.sl 1 0 N N 3]),.row false (.an L)]) (.val v m'):=by
 refine fP func52 rfl ntmps52 rfl AN ?_;refine Hk ?_;refine FQ ?_;refine GU ?_;refine DK (em (n:=N) (m:=2) underlying116 rfl rfl yI sG O_ O_ rfl) rfl ?_;refine BB ?_;refine PR ?_;refine Qj (q:=true) rfl rfl rfl lC (by rw [List.length_replicate];omega) AK ?_
 refine CU ?_;refine DL [0,1,5,6] (fun (zz:Nat×Int×List Bool)=>⟨71,AQ [0,1,5,6] [Ai 0,Aj (i:Int),.c (.sl 2 0 N N 1),Aj zz.2.1],[.row false (.ac [.sl 1 0 N N 3]),.row false (.an L),.row true (.bl zz.2.2)]⟩) (fun zz=>zz.1) (fun zz=>zz.2.1=(zz.1:Int)-1∧zz.1≤i+1∧zz.2.2.length=N) (i+1,(i:Int),(List.replicate N false).set i true) K_ ⟨by simp,Nat.le_refl _,by simp⟩ ?_
 rintro ⟨k,x,c⟩ ⟨hx,hk,hc⟩
 dsimp only at hx hk hc ⊢
 cases k with
 |zero=>
  subst hx
  refine BC ?_;refine PK ?_;refine AS ?_;refine Bv ?_;refine Q_ ?_;refine Jn 8 1 (.ai []) rfl rfl AN rfl ?_;refine AG ?_;refine A7 ?_;refine DL [0,1,5,8,9] (fun (zz:Nat×Nat×List Int)=>⟨71,AQ [0,1,5,8,9] [Ai 0,Aj (i:Int),.c (.sl 2 0 N N 1),.c (.sl 3 0 zz.2.1 zz.2.1 1),Aj (zz.1:Int)],[.row false (.ac [.sl 1 0 N N 3]),.row false (.an L),.row true (.bl c),.row true (.ai zz.2.2)]⟩) (fun zz=>N-zz.1) (fun zz=>zz.1≤N∧zz.2.1≤zz.1∧zz.2.2.length=zz.2.1∧ ∀x∈zz.2.2,0≤x∧x<(N:Int)) (0,0,[]) K_ ⟨Nat.zero_le _,Nat.le_refl _,rfl,fun x h=>by cases h⟩ ?_
  rintro ⟨j,on,out⟩ ⟨hj,hon,hol,hou⟩
  dsimp only at hj hon hol hou ⊢
  by_cases hlt:j<N
  ·generalize hq:I6 c j=q at*
   refine BD ?_;refine AA (Ku rfl underlying116) rfl ?_;refine CF ?_;refine FK ?_;refine PR ?_;refine AA ((Oy rfl rfl WK O_).trans (by rw [hq])) rfl ?_
   refine AM ?_
   cases q with
   |true=>
    refine BD ?_;refine WU ?_;refine Za ?_;refine AY ?_;refine DG ?_;refine ⟨(j+1,on+1,out++[(j:Int)]),K_,by show N-(j+1)<N-j;omega,by show j+1≤N;omega,by show on+1≤j+1;omega,by simp [hol],fun x hx=>?_⟩
    rcases List.mem_append.1 hx with h | h
    ·exact hou x h
    ·simp at h;omega
   |false=>
    refine BC ?_;refine DG ?_;exact ⟨(j+1,on,out),K_,by show N-(j+1)<N-j;omega,by show j+1≤N;omega,by show on≤j+1;omega,hol,hou⟩
  ·refine S_ ?_
   refine CX ?_;refine AO ?_;refine AA (Ku rfl underlying116) rfl ?_;refine CF ?_;refine CU ?_;refine ⟨_,_,⟨out,⟨by omega,hou⟩,rfl,rfl⟩,?_⟩
   subst hol
   exact FB
 |succ k=>
  obtain rfl:x=(k:Int):=by omega
  clear hx
  refine BC ?_;refine RA ?_;refine AS ?_;refine A7 ?_;have hnd:=hA.nd (i:=k) O_
  have hargs:=hnd.args
  have hlen:=hnd.len.2
  have hml:=Dj (Al L k).k
  clear hnd
  refine DL [0,1,5,6,7] (fun (zz:Nat×List Bool)=>⟨71,AQ [0,1,5,6,7] [Ai 0,Aj (i:Int),.c (.sl 2 0 N N 1),Aj (k:Int),Aj (zz.1:Int)],[.row false (.ac [.sl 1 0 N N 3]),.row false (.an L),.row true (.bl zz.2)]⟩) (fun zz=>(Al L k).a.length-zz.1) (fun zz=>zz.1≤(Al L k).a.length∧zz.2.length=N) (0,c) K_ ⟨Nat.zero_le _,hc⟩ ?_
  rintro ⟨j,d⟩ ⟨hj,hd⟩
  dsimp only at hj hd ⊢
  generalize hq:I6 d k=q at*
  cases q with
  |false=>
   refine BD ?_;refine PR ?_;refine AA ((Oy rfl rfl WK O_).trans (by rw [hq])) rfl ?_
   refine Lk ?_;refine Fq ?_;refine Fq ?_;refine Fq ?_;refine Fq ?_;refine NK Ci rfl ?_;refine Ba ?_;refine AW ?_;refine NG ?_;refine Bv ?_;exact ⟨(k,(k:Int)-1,d),K_,by show k<k+1;omega,rfl,by show k≤i+1;omega,hd⟩
  |true=>
   by_cases hlt:j<(Al L k).a.length
   ·obtain ⟨y,hy⟩:∃y:Nat,AX (Al L k).a j=(y:Int):=⟨(AX (Al L k).a j).toNat,by have:=hargs (AX (Al L k).a j) (by simp [AX,hlt]);omega⟩
    have hyN:y<N:=by have:=hargs (AX (Al L k).a j) (by simp [AX,hlt]);omega
    refine BD ?_;refine PR ?_;refine AA ((Oy rfl rfl WK O_).trans (by rw [hq])) rfl ?_
    refine BZ ?_;refine D6 ?_;refine Ss ?_;refine Re ?_;refine BI ?_;refine NB ?_;refine BI ?_;refine D6 ?_;refine V9 ?_;refine BI ?_;refine Th ?_;refine BI ?_;refine Kp Ci ?_;refine DK (Ev.val (fN (j:=k) rfl O_ rfl Ny O_)) rfl ?_;refine BI ?_;refine IF ?_;refine BI ?_;refine CF ?_;refine C4 ?_;refine FK ?_;refine FQ ?_;refine NB ?_;refine AO ?_;refine V9 ?_;refine Th ?_;refine DK (Ev.val (fN (j:=k) rfl O_ rfl Ny O_)) rfl ?_;refine AO ?_;refine U7 ?_;refine AA ((D5 rfl B6 O_).trans (by rw [hy])) rfl ?_
    refine PR ?_;refine Qj (q:=true) rfl rfl rfl lC O_ AK ?_;refine AW ?_;refine DG ?_;exact ⟨(j+1,d.set y true),K_,by show (Al L k).a.length-(j+1)<(Al L k).a.length-j;omega,by show j+1≤_;omega,by show (d.set y true).length=N;simp [hd]⟩
   ·refine S_ ?_
    refine CX ?_;refine AO ?_;refine PR ?_;refine AA ((Oy rfl rfl WK O_).trans (by rw [hq])) rfl ?_
    refine BZ ?_;refine D6 ?_;refine Ss ?_;refine Re ?_;refine BI ?_;refine NB ?_;refine BI ?_;refine D6 ?_;refine V9 ?_;refine BI ?_;refine Th ?_;refine BI ?_;refine Kp Ci ?_;refine DK (Ev.val (fN (j:=k) rfl O_ rfl Ny O_)) rfl ?_;refine BI ?_;refine IF ?_;refine BI ?_;refine CF ?_;refine C4 ?_;refine AW ?_;refine NG ?_;refine Bv ?_;exact ⟨(k,(k:Int)-1,d),K_,by show k<k+1;omega,rfl,by show k≤i+1;omega,hd⟩
def xR(M:Ag)(v:AV)(m':Ag):Prop:= ∃b:Bool,v= .c (.val (.bool b))∧m'=M
theorem sV(L:List Nd)(N i:Nat)(hN:L.length=N)(hNl:N≤1048576)(hi:i<N)(hA:EB L):∃v m',xR [.row false (.ac [.sl 1 0 N N 3]),.row false (.an L)] v m'∧Ev prog (.call 25 [.c (.ptr 0 0),.c (.val (.int .i64 (i:Int)))] [.row false (.ac [.sl 1 0 N N 3]),.row false (.an L)]) (.val v m'):=by
 obtain ⟨v,m',⟨l,⟨hll,hlr⟩,rfl,rfl⟩,hB⟩:=qT L N i hN hNl hi hA
 obtain ⟨q,hq⟩:∃q,l.length=q:=⟨_,rfl⟩
 rw [hq] at hB hll
 refine fP func25 rfl ntmps25 rfl AN ?_;refine AG ?_;refine BB ?_;refine VG (hB) yL ?_;refine Ad ?_;refine Ad ?_;refine A7 ?_;refine DL [0,1,5,6,7] (fun (zz:Nat×Nat)=>⟨41,AQ [0,1,5,6,7] [Ai 0,Aj (i:Int),.c (.sl 2 0 q q 1),Aj (zz.2:Int),Aj (zz.1:Int)],[.row false (.ac [.sl 1 0 N N 3]),.row false (.an L),.row true (.ai l)]⟩) (fun zz=>q-zz.1) (fun zz=>zz.1≤q∧zz.2≤zz.1) (0,0) K_ ⟨Nat.zero_le _,Nat.le_refl _⟩ ?_
 rintro ⟨j,cn⟩ ⟨hj,hcn⟩
 dsimp only at hj hcn ⊢
 by_cases hlt:j<q
 ·have hgj:=hlr (AX l j) (by simp [AX,show j<l.length by omega])
  obtain ⟨y,hy⟩:∃y:Nat,AX l j=(y:Int):=⟨(AX l j).toNat,by omega⟩
  have hyN:y<N:=by omega
  obtain ⟨k,hk⟩:∃k,(Al L y).k=k:=⟨_,rfl⟩
  refine BD ?_;refine HN ?_;refine CF ?_;refine A1 ?_;refine Nr ?_;refine II ?_;refine N4 ?_;refine PH ?_;refine By ?_;refine di ?_;refine AE ((Iz rfl rfl B6 O_).trans (by rw [hy])) rfl ?_
  refine Xc ?_;refine AE (Ab rfl (eq _ _)) rfl ?_;refine AE ((Zq (j:=y) rfl O_ rfl B6 O_).trans (by rw [hk])) rfl ?_
  refine Bc ?_;refine AM ?_;by_cases k5:k=5
  ·subst k5
   refine AG ?_;refine AA (B4 (b:=5) rfl rfl) rfl ?_;refine AY ?_;refine Z0 ?_;refine AY ?_;refine DG ?_;exact ⟨(j+1,cn+1),K_,by show q-(j+1)<q-j;omega,by show j+1≤q;omega,by show cn+1≤j+1;omega⟩
  by_cases k7:k=7
  ·subst k7
   refine AG ?_;refine AA (B4 (b:=5) rfl rfl) rfl ?_;refine Ad ?_;refine QT ?_;refine AY ?_;refine Z0 ?_;refine AY ?_;refine DG ?_;exact ⟨(j+1,cn+1),K_,by show q-(j+1)<q-j;omega,by show j+1≤q;omega,by show cn+1≤j+1;omega⟩
  by_cases k8:k=8
  ·subst k8
   refine AG ?_;refine AA (B4 (b:=5) rfl rfl) rfl ?_;refine Ad ?_;refine QT ?_;refine Ad ?_;refine PL ?_;refine AY ?_;refine Z0 ?_;refine AY ?_;refine DG ?_;exact ⟨(j+1,cn+1),K_,by show q-(j+1)<q-j;omega,by show j+1≤q;omega,by show cn+1≤j+1;omega⟩
  refine AG ?_;refine LW ?_;refine LW ?_;refine G0 ?_;refine AY ?_;refine DG ?_;exact ⟨(j+1,cn),K_,by show q-(j+1)<q-j;omega,by show j+1≤q;omega,by show cn≤j+1;omega⟩
 ·by_cases h6:cn≤6
  ·refine S_ ?_
   refine CX ?_;refine AO ?_;refine HN ?_;refine CF ?_;refine AW ?_;refine AA (dx (b:=6) rfl rfl) rfl ?_;refine BZ ?_;refine HN ?_;refine BI ?_;refine AA (dx (b:=60) rfl rfl) rfl ?_;refine C4 ?_;refine A7 ?_;refine ⟨_,_,⟨decide (q≤60),rfl,rfl⟩,?_⟩
   exact FB
  ·refine S_ ?_
   refine CX ?_;refine AO ?_;refine HN ?_;refine CF ?_;refine AW ?_;refine AA (dx (b:=6) rfl rfl) rfl ?_;refine Lk ?_;refine NK Ci rfl ?_;refine Ba ?_;refine A7 ?_;refine ⟨_,_,⟨false,rfl,rfl⟩,?_⟩
   exact FB
end Go.Proofs.YtmbepikkgkcgkaaGreatDoor
namespace Go.Proofs.YtmbepikkgkcgkaaGreatDoor
variable {g r : Prop}
open Go.Proofs.Tryz
theorem zc:I1 1224481:=JF 1107 D_ D_ (by decide+kernel)
theorem zU:I1 531581:=JF 730 D_ D_ (by decide+kernel)
theorem zd:I1 1257559732178653:=fE (q:=1224481) (k:=1027014492) (a:=2) (q':=531581) (k':=2365697292) (a':=2) 51 zc zU (by decide+kernel) (by decide+kernel) (by decide+kernel) (by decide+kernel) (by decide+kernel) (by decide+kernel) (by decide+kernel) (by decide+kernel) (by decide+kernel) (by decide+kernel)
theorem zu:I1 4434155615661930479:=Vv (q:=1257559732178653) (k:=3526) (a:=2) 62 zd (by decide+kernel) (by decide+kernel) (by decide+kernel) (by decide+kernel) (by decide+kernel) (by decide+kernel)
theorem ze:I1 172054593956031949258510691:=Vv (q:=4434155615661930479) (k:=38802110) (a:=2) 88 zu (by decide+kernel) (by decide+kernel) (by decide+kernel) (by decide+kernel) (by decide+kernel) (by decide+kernel)
theorem zL:I1 19757330305831588566944191468367130476339:=Vv (q:=172054593956031949258510691) (k:=114831751082918) (a:=2) 134 ze (by decide+kernel) (by decide+kernel) (by decide+kernel) (by decide+kernel) (by decide+kernel) (by decide+kernel)
theorem zI:I1 276602624281642239937218680557139826668747:=Vv (q:=19757330305831588566944191468367130476339) (k:=14) (a:=2) 138 zL (by decide+kernel) (by decide+kernel) (by decide+kernel) (by decide+kernel) (by decide+kernel) (by decide+kernel)
theorem yb:I1 7237005577332262213973186563042994240857116359379907606001950938285454250989:=Vv (q:=276602624281642239937218680557139826668747) (k:=26163907866482859529727157400808004) (a:=2) 253 zI (by decide+kernel) (by decide+kernel) (by decide+kernel) (by decide+kernel) (by decide+kernel) (by decide+kernel)
end Go.Proofs.YtmbepikkgkcgkaaGreatDoor
namespace Go.Proofs.YtmbepikkgkcgkaaGreatDoor
open Go.RowKit
variable {g r : Prop}
open Go.Proofs.Tryz
theorem iT{m:Nat}(h:GW VY m=HP):BS ∣ m:=by
 have hp:I1 BS:=yb
 by_cases hd:BS ∣ m
 ·exact hd
 exfalso
 have h1:=XW hp hd
 have h2:GW VY (m^(BS-1))=HP:=by
  obtain ⟨c,hc⟩:∃c,m^(BS-1)=m*c:=⟨m^(BS-2),by
   rw [←Nat.pow_succ'];rfl⟩
  rw [hc,Uk H9,h,Uq]
 have h3:m^(BS-1)=BS*(m^(BS-1)/BS)+1:=by
  have:=Nat.div_add_mod (m^(BS-1)) BS
  omega
 generalize m^(BS-1)/BS=c at h3
 generalize m^(BS-1)=e at h2 h3
 subst h3
 rw [HE H9,Uk H9,tH,Uq,Uv,Wn] at h2
 have:VY.x=0:=by rw [h2];rfl
 exact absurd this (by unfold VY bX;decide+kernel)
theorem Us{m:Nat}(h:¬BS ∣ m):Rw (GW VY m)≠0:=fun e=>by
 have d:=Ye (IX H9 m) e
 rw [←HE H9] at d
 have:=iT d
 rw [show m+m=2*m by omega] at this
 rcases I1.euclid yb this with h2 | h2
 ·exact absurd (Nat.le_of_dvd D_ h2) D_
 ·exact h h2
theorem RY(key:AB 8)(hkey:key.length=32):kN key<2^255∧kN key%8=0∧2^254≤kN key:=by
 have hb0:(nth (Fr key) 0).toNat%8=0:=by
  unfold Fr
  rw [C3 _ _ _ _ (by rw [Bp];omega),if_neg D_,C3 _ _ _ _ O_,if_pos rfl]
  exact (by decide+kernel:∀x:BitVec 8,(x&&&248#8).toNat%8=0) _
 have hb31:64≤(nth (Fr key) 31).toNat∧(nth (Fr key) 31).toNat<128:=by
  unfold Fr
  rw [C3 _ _ _ _ (by rw [Bp];omega),if_pos rfl]
  exact (by decide+kernel:∀x:BitVec 8,64≤((x&&&127#8) ||| 64#8).toNat∧((x&&&127#8) ||| 64#8).toNat<128) _
 have h0:=Lb (Fr key) 32 0 D_
 have h31:=Lb (Fr key) 32 31 D_
 have hl:=OK (Fr key) 32
 unfold kN
 generalize EI (Fr key) 32=n at*
 rw [Nat.pow_zero,Nat.div_one] at h0
 rw [←h0] at hb0
 rw [←h31] at hb31
 have e1:n/256^31<256:=Nat.div_lt_of_lt_mul (by rw [←Nat.pow_succ];exact hl)
 rw [Nat.mod_eq_of_lt e1] at hb31
 have e2:=Nat.div_add_mod n (256^31)
 have e3:=Nat.mod_lt n (show 0<256^31 by decide)
 generalize n/256^31=t at*
 generalize n%256^31=u at*
 have e4:(256:Nat)^31=452312848583266388373324160190187140051835877600158453279131187530910662656:=by decide
 have e5:(2:Nat)^255=128*452312848583266388373324160190187140051835877600158453279131187530910662656:=by decide
 have e6:(2:Nat)^254=64*452312848583266388373324160190187140051835877600158453279131187530910662656:=by decide
 rw [e4] at e2 e3
 rw [e5,e6]
 exact ⟨by omega,by omega,by omega⟩
theorem XY(key:AB 8)(hkey:key.length=32):¬BS ∣ kN key:=fun h=>by
 obtain ⟨h1,h2,h3⟩:=RY key hkey
 obtain ⟨c,hc⟩:∃c,kN key=8*c:=⟨kN key/8,by omega⟩
 rw [hc] at h h1 h3
 rcases I1.euclid yb h with h4 | h4
 ·exact absurd (Nat.le_of_dvd D_ h4) D_
 ·have h5:0<c:=by omega
  have h6:=Nat.le_of_dvd h5 h4
  unfold BS at h6
  omega
theorem XA(l:AB 8)(i:Nat)(h:i<l.length):put l i (nth l i)=l:=
 VQ (by simp) fun j hj=>by
  rw [C3 _ _ _ _ h]
  split
  ·rename_i e;rw [e]
  ·rfl
theorem ga:∀x:BitVec 8,x.toNat<128→x&&&127#8=x:=by decide+kernel
theorem zj(x:Fp):uP (F x)=x:=by
 unfold uP
 have h:nth (F x) 31&&&127#8=nth (F x) 31:=by
  refine ga _ ?_;unfold F
  rw [Qp _ _ D_,BitVec.toNat_ofNat]
  have:=x.isLt
  unfold PP at this
  have e4:(256:Nat)^31=452312848583266388373324160190187140051835877600158453279131187530910662656:=by decide
  rw [e4]
  omega
 rw [h,XA _ _ (by rw [ap];decide),zC]
theorem pG:uP (put (Am 32) 0 9#8)=zf 9:=by decide+kernel
def XL(key:AB 8):AB 8:=RD key (put (Am 32) 0 9#8)
theorem pV:Rw VY≠0:=by rw [bK];decide+kernel
theorem wy(key:AB 8)(hkey:key.length=32):uP (XL key)=Rw (GW VY (kN key)):=by
 unfold XL RD
 rw [zj,pG,←bK,bG H9 pV (RY key hkey).1]
theorem nr(key other:AB 8)(hkey:key.length=32)(ho:other.length=32):RD key (XL other)=F (Rw (GW VY (kN other*kN key))):=by
 unfold RD
 rw [wy other ho,bG (IX H9 _) (Us (XY other ho)) (RY key hkey).1,←Uk H9]
theorem ig(key other:AB 8)(hkey:key.length=32)(ho:other.length=32):RD key (XL other)≠Am 32:=fun e=>by
 rw [nr key other hkey ho,←ut,ed] at e
 refine Us (fun h=>?_) e
 rcases I1.euclid yb h with h | h
 ·exact XY other ho h
 ·exact XY key hkey h
def ZJ(k:Int):Nat:=if k=6 then 16 else if k=8 then 64 else if k=7 then 48 else 0
def T0(k:Int):Nat:=if k=6∨k=8 then 1 else if k=7 then 2 else 0
def YU(l:List (AB 8)):Nat:=(l.map fun b=>4+b.length).sum
theorem vH(l:List (AB 8)):jl l=YU l:=by
 unfold YU
 induction l with
 |nil=>rfl
 |cons x l ih=>rw [Qc,ih,List.map_cons,List.sum_cons]
theorem RK(l:List (AB 8)):((LH l).2=0∧(LH l).1.length=YU l)∨(LH l).2=2:=by
 unfold LH
 split
 ·exact .inl ⟨rfl,by rw [SC,vH]⟩
 ·exact .inr rfl
def eu(y:Nd)(g:Int→AB 8)(n:Nat):Prop:=
 if y.k=1∨y.k=2∨y.k=3∨y.k=4 then n=32 else if y.k=5 then n=64 else n=ZJ y.k+YU ((y.a.drop (T0 y.k)).map g)
theorem ul{L:List Nd}(hA:EB L){x:Nat}(hx:x<L.length)(h5:(Al L x).k=5):∃K,K.length=32∧(bt LJ L x).1=XL K++PI K∧(bt LJ L x).2=0:=by
 rw [gG Lf hA hx]
 refine ⟨Aa (gB LJ L (AX (Al L x).a 0)),Av _,?_⟩
 generalize gB LJ L=g
 generalize Al L x=y at*
 have e:LI LJ L g y=Sh (Aa (g (AX y.a 0))):=by
  unfold LI
  rw [if_neg O_,if_neg O_,if_neg O_,if_neg O_,if_neg O_,if_neg O_,if_neg O_]
  unfold LJ
  rw [if_pos h5]
 rw [e]
 exact ⟨rfl,rfl⟩
theorem Zd{L:List Nd}(hA:EB L){i:Nat}(hi:i<L.length):((bt LJ L i).2=0∧eu (Al L i) (gB LJ L) (bt LJ L i).1.length)∨(bt LJ L i).2=2∨(bt LJ L i).2=6:=by
 have hnd:=hA.nd hi
 have hk:=hnd.kind
 have hlen:=hnd.len
 have hargs:=hnd.args
 rw [gG Lf hA hi]
 have hpub:∀x:Int,x∈(Al L i).a→(Al L x.toNat).k=5→ ∃K,K.length=32∧gB LJ L x=XL K++PI K:=fun x hx h5=>by
  obtain ⟨K,h1,h2,_⟩:=ul hA (x:=x.toNat) (by have:=hargs x hx;omega) h5
  exact ⟨K,h1,h2⟩
 generalize gB LJ L=g at*
 generalize Al L i=y at*
 obtain ⟨k,n,a⟩:=y
 unfold LI eu
 dsimp only at*
 by_cases e1:k=1
 ·rw [if_pos e1,if_pos (.inl e1)];exact .inl ⟨rfl,Av _⟩
 rw [if_neg e1]
 by_cases e2:k=2
 ·rw [if_pos e2,if_pos O_];exact .inl ⟨rfl,Av _⟩
 rw [if_neg e2]
 by_cases e3:k=3
 ·rw [if_pos e3,if_pos O_]
  rcases RK (a.map g) with ⟨h,_⟩ | h
  ·unfold Jc;rw [if_pos h];exact .inl ⟨rfl,Av _⟩
  ·unfold Jc;rw [if_neg (by rw [h];decide)];exact .inr (.inl h)
 rw [if_neg e3]
 by_cases e9:k=9
 ·subst e9
  rw [if_pos rfl,if_neg D_,if_neg D_]
  rcases RK (a.map g) with ⟨h,h2⟩ | h
  ·exact .inl ⟨h,by rw [h2,show T0 9=0 from rfl,show ZJ 9=0 from rfl,List.drop_zero,Nat.zero_add]⟩
  ·exact .inr (.inl h)
 rw [if_neg e9]
 by_cases e4:k=4
 ·rw [if_pos e4,if_pos O_];exact .inl ⟨rfl,N8 _ _ _⟩
 rw [if_neg e4,if_neg (show ¬(k=1∨k=2∨k=3∨k=4) by omega)]
 by_cases e6:k=6
 ·subst e6
  rw [if_pos rfl,if_neg D_]
  unfold IT
  rcases RK ((a.drop 1).map g) with ⟨h,h2⟩ | h
  ·rw [if_pos h]
   exact .inl ⟨rfl,by rw [D4 _ _ _ _ (Av _) (BO 12),h2,show T0 6=1 from rfl,show ZJ 6=16 from rfl,Nat.add_comm]⟩
  ·rw [if_neg (by rw [h];decide)];exact .inr (.inl h)
 rw [if_neg e6]
 by_cases e7:k=7∧ ¬(Al L (AX a 0).toNat).k=5
 ·rw [if_pos e7];exact .inr (.inr rfl)
 rw [if_neg e7]
 unfold LJ
 dsimp only
 by_cases e5:k=5
 ·rw [if_pos e5,if_pos e5];exact .inl ⟨rfl,SK _⟩
 rw [if_neg e5,if_neg e5]
 by_cases e8:k=8
 ·subst e8
  rw [if_pos rfl]
  unfold PN
  rcases RK ((a.drop 1).map g) with ⟨h,h2⟩ | h
  ·rw [if_pos h]
   refine .inl ⟨rfl,?_⟩
   show (H8 _ _++_).length=_
   rw [List.length_append,N6 _ _ (Av _),h2]
   rfl
  ·rw [if_neg (by rw [h];decide)];exact .inr (.inl h)
 rw [if_neg e8]
 obtain rfl:k=7:=by omega
 rw [if_pos rfl]
 have h2:2≤a.length:=hlen.1
 obtain ⟨K,hK,hg⟩:=hpub (AX a 0) (by simp [AX,show 0<a.length by omega]) (Classical.byContradiction fun h=>e7 ⟨rfl,h⟩)
 have hplace:(g (AX a 0)).take 32=XL K:=by
  rw [hg,List.take_append_of_le_length (by unfold XL;rw [JC];decide),List.take_of_length_le (by unfold XL;rw [JC];decide)]
 unfold PT
 rcases RK ((a.drop 2).map g) with ⟨h,h2⟩ | h
 ·rw [if_pos h,hplace,if_neg (ig _ _ (Av _) hK)]
  refine .inl ⟨rfl,?_⟩
  show (RD _ KV++CT _ _ _ _).length=_
  rw [List.length_append,JC,D4 _ _ _ _ (TP _ _) (BO 12),h2]
  show 32+(_+16)=48+_
  rw [show T0 7=2 from rfl]
  omega
 ·rw [if_neg (by rw [h];decide)];exact .inr (.inl h)
theorem iC(a:List Int):∀(c:List Bool) (k:Nat),I6 (mark c a) k=true→I6 c k=true∨ ∃x∈a,x.toNat=k:=by
 induction a with
 |nil=>exact fun c k h=> .inl h
 |cons x a ih=>
  intro c k h
  rcases ih _ k h with h | ⟨z,hz,e⟩
  ·by_cases e:x.toNat=k
   ·exact .inr ⟨x,List.mem_cons_self,e⟩
   ·refine .inl ?_
    unfold I6 at*
    simp only [List.getD_eq_getElem?_getD,List.getElem?_set_ne e] at h ⊢
    exact h
  ·exact .inr ⟨z,List.mem_cons_of_mem _ hz,e⟩
theorem cr(L:List Nd)(S:Int→Prop)(hS:∀k:Nat,S (k:Int)→ ∀x∈(Al L k).a,S x∧0≤x):∀(n:Nat) (c:List Bool),(∀k:Nat,I6 c k=true→S (k:Int))→ ∀x∈Yo L n c,S x
 |0,c,_,x,hx=>by cases hx
 |n+1,c,hc,x,hx=>by
  unfold Yo at hx
  by_cases hg:I6 c n=true
  ·rw [if_pos hg] at hx
   rcases List.mem_cons.1 hx with rfl | hx
   ·exact hc n hg
   ·refine cr L S hS n _ (fun k hk=>?_) x hx
    rcases iC _ _ _ hk with h | ⟨z,hz,e⟩
    ·exact hc k h
    ·obtain ⟨h1,h2⟩:=hS n (hc n hg) z hz
     rw [←e,Int.toNat_of_nonneg h2];exact h1
  ·rw [if_neg hg] at hx
   exact cr L S hS n c hc x hx
theorem Zr{L:List Nd}(hA:EB L){i j:Nat}(hi:i<L.length)(hj:(j:Int)∈BQ L i):∀x∈BQ L j,x∈BQ L i:=by
 intro x hx
 have hji:=(Ee L i _ hj).2
 unfold BQ at hx
 rw [List.mem_reverse] at hx
 refine (cr L (fun x=>x∈BQ L i∧0≤x) (fun k hk z hz=>?_) (j+1) _ (fun k hk=>?_) x hx).1
 ·have h1:=Gs hA hi hk.1 z hz
  exact ⟨⟨h1,(Ee L i z h1).1⟩,(Ee L i z h1).1⟩
 ·by_cases e:k=j
  ·subst e;exact ⟨hj,by omega⟩
  ·exfalso
   unfold I6 at hk
   rw [List.getD_eq_getElem?_getD,List.getElem?_set_ne (fun h=>e h.symm)] at hk
   by_cases hl:k<j+1
   ·rw [List.getElem?_replicate,if_pos hl] at hk;cases hk
   ·rw [List.getElem?_replicate,if_neg hl] at hk;cases hk
theorem gT{L:List Nd}(hA:EB L){i:Nat}(hi:i<L.length):
  (∃e,JB LJ L i=([],e)∧(e=2∨e=6))∨
  (∃b,JB LJ L i=(b,0)∧eu (Al L i) (gB LJ L) b.length∧ ∀x∈(Al L i).a,JB LJ L x.toNat=(gB LJ L x,0)):=by
 rcases Pi Lf hA hi with ⟨h1,h2⟩ | ⟨k,hk,h1,h2⟩
 ·have h0:=h1 _ (ID L i)
  rw [Int.toNat_natCast] at h0
  rcases Zd hA hi with ⟨_,h⟩ | h | h
  ·refine .inr ⟨_,h2,h,fun x hx=>?_⟩
   have hxb:=Gs hA hi (ID L i) x hx
   have hxr:=(hA.nd hi).args x hx
   have hxi:x.toNat<L.length:=by omega
   have hxc:((x.toNat:Nat):Int)=x:=Int.toNat_of_nonneg hxr.1
   rcases Pi Lf hA hxi with ⟨_,h3⟩ | ⟨k,hk,h3,_⟩
   ·exact h3
   ·exact absurd (h1 k (Zr hA hi (by rw [hxc];exact hxb) k hk)) h3
  ·rw [h] at h0;cases h0
  ·rw [h] at h0;cases h0
 ·have hkb:=Ee L i k hk
  rcases Zd hA (i:=k.toNat) O_ with ⟨h,_⟩ | h | h
  ·exact absurd h h1
  ·exact .inl ⟨2,by rw [h2,h],.inl rfl⟩
  ·exact .inl ⟨6,by rw [h2,h],.inr rfl⟩
theorem qR{L:List Nd}(hA:EB L){i:Nat}(hi:i<L.length):(JB LJ L i).1.length≤100000:=by
 rcases Pi Lf hA hi with ⟨_,h⟩ | ⟨k,_,_,h⟩
 ·rw [h]
  dsimp only
  rw [gG Lf hA hi]
  exact Xk (fun _=>gA _ _) (hA.nd hi).kind
 ·rw [h];exact Nat.zero_le _
theorem gz{a:List Int}{g:Int→AB 8}{j:Nat}(h:j<a.length):YU ((a.drop j).map g)=4+(g (AX a j)).length+YU ((a.drop (j+1)).map g):=by
 rw [List.drop_eq_getElem_cons h]
 simp only [YU,List.map_cons,List.sum_cons]
 simp [AX,h]
theorem pM{S:List Stp}(h:JZ S=false)(hn:∀i,i<S.length→TZ (CR S i).k∧TZ (CR S i).n∧ ∀x∈(CR S i).a,TZ x):tR S:=by
 refine ⟨hn,fun i hi h2=>?_⟩
 unfold JZ at h
 rw [Bool.or_eq_false_iff] at h
 have:=List.any_eq_false.1 h.2 (CR S i) (Zj hi h2)
 simpa using this
theorem ei{A B:Prop}(a:A)(b:B)(k:r)(h:A→B→Hid r→g:=by intro a b h;refine Bq (AZ (bs:=[2,5]) a b K_ K_ rfl Bb) AK rfl ?_;exact h.out):g:=h a b ⟨k⟩
theorem Na(k:r)(h:Hid r→g:=by intro h;refine AA (B4 (b:=1) rfl rfl) rfl ?_;refine AA (Ae rfl) rfl ?_;refine AM ?_;refine S_ ?_;refine Ac ?_;exact h.out):g:=h ⟨k⟩
theorem oy(S:List Stp)(n cap:Nat)(i:Int)(hn:S.length=n)(hnl:n≤9223372036854775807)(hnum:∀i,i<S.length→TZ (CR S i).k∧TZ (CR S i).n∧ ∀x∈(CR S i).a,TZ x)(hlen:∀i,i<n→(CR S i).a.length≤9223372036854775807)(hi:TZ i):Ev prog (.call 5 [.c (.sl 0 0 n cap 4),Aj i] [.row false (.al (stA S))]) (.val (.c (.val (.bool true))) [.row false (.al (stA S))]):=by
 have hH:=dg S n cap hn hnl hlen
 have hW:=lT
 cases hh:JZ S with
 |true=>
  rw [hh] at hH
  refine AJ func5 rfl ntmps5 rfl AN ?_;refine Hk ?_;refine Mq (hH) Uf ?_;refine JV ?_;exact Jw
 |false=>
  rw [hh] at hH
  by_cases hi0:i<0
  ·refine AJ func5 rfl ntmps5 rfl AN ?_
   refine Hk ?_;refine Mq (hH) Uf ?_;refine BZ ?_;refine aA ?_;refine Ba ?_;exact Jw
  obtain ⟨ii,rfl⟩:∃m:Nat,i=(m:Int):=⟨i.toNat,by omega⟩
  have hiu:=hi.2
  have hS:=pM hh hnum
  obtain ⟨L,hL⟩:∃L,bL S (min n 150)=L:=⟨_,rfl⟩
  obtain ⟨N,hN⟩:∃N,L.length=N:=⟨_,rfl⟩
  have hb:=fL hS (min n 150) O_ O_
  rw [hL,hN] at hb
  obtain ⟨hA,hNl⟩:=hb
  have hNl:N≤150:=by omega
  have hBu:=oG S n cap hn hnl hS L N hL hN
  by_cases h0:N=0
  ·refine AJ func5 rfl ntmps5 rfl AN ?_
   refine Hk ?_;refine Mq (hH) Uf ?_;refine BZ ?_;refine M6 ?_;refine Ba ?_;refine A1 ?_;refine E8 [0,1,5,6,7] (fun (q:Bool)=>⟨144,AQ [0,1,5,6,7] [.c (.sl 0 0 n cap 4),Aj (ii:Int),Ai 1,Ai 2,.c (.val (.bool q))],[.row false (.al (stA S)),.row true (.ac [.sl 3 0 N N 3,.mp 4]),.row true (.ac [.sl 5 0 N N 3]),.row true (.an L),.row true (.mp (Bf L)),.row true (.an L)]⟩) true ?_ ?_
   ·refine S_ ?_
    refine CX ?_;refine Mq (hBu) bQ ?_;refine CD ?_;refine AA (C5 rfl rfl) rfl ?_;refine Fm ?_;refine KD ?_;exact ⟨true,K_,rfl⟩
   refine BC ?_;refine Fn ?_;refine AW ?_;refine FQ ?_;refine GU ?_;refine Ho ?_;refine Lk ?_;refine Fq ?_;refine Fq ?_;refine Fq ?_;refine Fq ?_;refine C4 ?_;refine AS ?_;refine BL (hW) PU ?_;exact DP
  have hxN:ii%N<N:=Nat.mod_lt _ O_
  obtain ⟨v,m',⟨fb,rfl,rfl⟩,hF⟩:=sV L N (ii%N) hN O_ hxN hA
  cases fb with
  |false=>
   refine AJ func5 rfl ntmps5 rfl AN ?_;refine Hk ?_;refine Mq (hH) Uf ?_;refine BZ ?_;refine M6 ?_;refine Ba ?_;refine A1 ?_;refine E8 [0,1,5,6,7] (fun (q:Bool)=>⟨144,AQ [0,1,5,6,7] [.c (.sl 0 0 n cap 4),Aj (ii:Int),Ai 1,Ai 2,.c (.val (.bool q))],[.row false (.al (stA S)),.row true (.ac [.sl 3 0 N N 3,.mp 4]),.row true (.ac [.sl 5 0 N N 3]),.row true (.an L),.row true (.mp (Bf L)),.row true (.an L)]⟩) true ?_ ?_
   ·refine S_ ?_
    refine CX ?_;refine Mq (hBu) bQ ?_;refine CD ?_;refine AA (C5 rfl rfl) rfl ?_;refine Fm ?_;refine KD ?_;exact ⟨true,K_,rfl⟩
   refine BC ?_;refine Fn ?_;refine AW ?_;refine FQ ?_;refine GU ?_;refine Ho ?_;refine BZ ?_;refine BZ ?_;refine Ss ?_;refine Re ?_;refine BI ?_;refine NB ?_;refine BI ?_;refine Wt ?_;refine BI ?_;refine NN ?_;refine BI ?_;refine ei (hF) eU ?_;refine BI ?_;refine Fn ?_;refine Ba ?_;refine AS ?_;refine BL (hW) PU ?_;exact DP
  |true=>
   have hR:=lp L (Bf L) N (ii%N) hN O_ hxN hA
   have hbl:=qR hA (i:=ii%N) O_
   rcases gT hA (i:=ii%N) O_ with ⟨e,hbs,he⟩ | ⟨b,hbs,hlo,hargs⟩
   ·rw [hbs] at hR
    dsimp only at hR
    have hl0:([]:AB 8).length=0:=rfl
    generalize ([]:AB 8)=bb at*
    rcases he with rfl | rfl
    ·refine AJ func5 rfl ntmps5 rfl AN ?_
     refine Hk ?_;refine Mq (hH) Uf ?_;refine BZ ?_;refine M6 ?_;refine Ba ?_;refine A1 ?_;refine E8 [0,1,5,6,7] (fun (q:Bool)=>⟨144,AQ [0,1,5,6,7] [.c (.sl 0 0 n cap 4),Aj (ii:Int),Ai 1,Ai 2,.c (.val (.bool q))],[.row false (.al (stA S)),.row true (.ac [.sl 3 0 N N 3,.mp 4]),.row true (.ac [.sl 5 0 N N 3]),.row true (.an L),.row true (.mp (Bf L)),.row true (.an L)]⟩) true ?_ ?_
     ·refine S_ ?_
      refine CX ?_;refine Mq (hBu) bQ ?_;refine CD ?_;refine AA (C5 rfl rfl) rfl ?_;refine Fm ?_;refine KD ?_;exact ⟨true,K_,rfl⟩
     refine BC ?_;refine Fn ?_;refine AW ?_;refine FQ ?_;refine GU ?_;refine Ho ?_;refine BZ ?_;refine BZ ?_;refine Ss ?_;refine Re ?_;refine BI ?_;refine NB ?_;refine BI ?_;refine Wt ?_;refine BI ?_;refine NN ?_;refine BI ?_;refine ei (hF) eU ?_;refine BI ?_;refine Fn ?_;refine Ba ?_;refine FK ?_;refine FQ ?_;refine GU ?_;refine NN ?_;refine BB ?_;refine Bq (AZ (bs:=[1,3,4]) (hR) VA K_ K_ rfl Bb) AK rfl ?_;refine E1 ?_;refine Fu ?_;refine Dr ?_;refine Ho ?_;refine BZ ?_;refine It ?_;refine ET ?_;refine AA (B4 (b:=2) rfl rfl) rfl ?_;refine Kp Ci ?_;refine AA (PC rfl gn rfl) rfl ?_;refine C4 ?_;refine D6 ?_;refine BL (hW) PU ?_;refine C4 ?_;exact DP
    ·refine AJ func5 rfl ntmps5 rfl AN ?_
     refine Hk ?_;refine Mq (hH) Uf ?_;refine BZ ?_;refine M6 ?_;refine Ba ?_;refine A1 ?_;refine E8 [0,1,5,6,7] (fun (q:Bool)=>⟨144,AQ [0,1,5,6,7] [.c (.sl 0 0 n cap 4),Aj (ii:Int),Ai 1,Ai 2,.c (.val (.bool q))],[.row false (.al (stA S)),.row true (.ac [.sl 3 0 N N 3,.mp 4]),.row true (.ac [.sl 5 0 N N 3]),.row true (.an L),.row true (.mp (Bf L)),.row true (.an L)]⟩) true ?_ ?_
     ·refine S_ ?_
      refine CX ?_;refine Mq (hBu) bQ ?_;refine CD ?_;refine AA (C5 rfl rfl) rfl ?_;refine Fm ?_;refine KD ?_;exact ⟨true,K_,rfl⟩
     refine BC ?_;refine Fn ?_;refine AW ?_;refine FQ ?_;refine GU ?_;refine Ho ?_;refine BZ ?_;refine BZ ?_;refine Ss ?_;refine Re ?_;refine BI ?_;refine NB ?_;refine BI ?_;refine Wt ?_;refine BI ?_;refine NN ?_;refine BI ?_;refine ei (hF) eU ?_;refine BI ?_;refine Fn ?_;refine Ba ?_;refine FK ?_;refine FQ ?_;refine GU ?_;refine NN ?_;refine BB ?_;refine Bq (AZ (bs:=[1,3,4]) (hR) VA K_ K_ rfl Bb) AK rfl ?_;refine E1 ?_;refine Fu ?_;refine Dr ?_;refine Ho ?_;refine BZ ?_;refine It ?_;refine Kp Ci ?_;refine AA (Ah rfl) rfl ?_;refine NK Ci rfl ?_;refine NK Ci rfl ?_;refine EY ?_;refine C4 ?_;refine D6 ?_;refine BL (hW) PU ?_;refine C4 ?_;exact DP
   ·rw [hbs] at hR hbl
    dsimp only at hR hbl
    have hnd:=hA.nd (i:=ii%N) O_
    have hkk:=hnd.kind
    have hkl:=hnd.len
    have hka:=hnd.args
    have hml:=Dj (Al L (ii%N)).k
    refine AJ func5 rfl ntmps5 rfl AN ?_;refine Hk ?_;refine Mq (hH) Uf ?_;refine BZ ?_;refine M6 ?_;refine Ba ?_;refine A1 ?_;refine E8 [0,1,5,6,7] (fun (q:Bool)=>⟨144,AQ [0,1,5,6,7] [.c (.sl 0 0 n cap 4),Aj (ii:Int),Ai 1,Ai 2,.c (.val (.bool q))],[.row false (.al (stA S)),.row true (.ac [.sl 3 0 N N 3,.mp 4]),.row true (.ac [.sl 5 0 N N 3]),.row true (.an L),.row true (.mp (Bf L)),.row true (.an L)]⟩) true ?_ ?_
    ·refine S_ ?_
     refine CX ?_;refine Mq (hBu) bQ ?_;refine CD ?_;refine AA (C5 rfl rfl) rfl ?_;refine Fm ?_;refine KD ?_;exact ⟨true,K_,rfl⟩
    refine BC ?_;refine Fn ?_;refine AW ?_;refine FQ ?_;refine GU ?_;refine Ho ?_;refine BZ ?_;refine BZ ?_;refine Ss ?_;refine Re ?_;refine BI ?_;refine NB ?_;refine BI ?_;refine Wt ?_;refine BI ?_;refine NN ?_;refine BI ?_;refine ei (hF) eU ?_;refine BI ?_;refine Fn ?_;refine Ba ?_;refine FK ?_;refine FQ ?_;refine GU ?_;refine NN ?_;refine Bv ?_;generalize ii%N=x at*
    refine BD ?_;refine Bq (AZ (bs:=[1,3,4]) (hR) VA K_ K_ rfl Bb) AK rfl ?_;refine E1 ?_;refine Fu ?_;refine FQ ?_;refine NB ?_;refine AO ?_;refine V9 ?_;refine DK (OV (j:=x) rfl O_ rfl MJ NI O_) rfl ?_;refine A2 (BR fx AN) AK rfl ?_;refine gP ?_;refine AM ?_;generalize Al L x=y at*
    obtain ⟨k,nn,a⟩:=y
    dsimp only at hkk hkl hka hlo hargs hml ⊢
    refine AG ?_;refine El ?_;refine EJ ?_;refine AM ?_;unfold eu at hlo
    dsimp only at hlo
    by_cases h5:k≤5
    ·by_cases h4:k≤4
     ·rw [if_pos O_] at hlo
      rcases (by omega:k=1∨k=2∨k=3∨k=4) with rfl | rfl | rfl | rfl
      ·refine S_ ?_
       refine Ac ?_;refine VR ?_;refine AY ?_;refine Dr ?_;refine VO ?_;refine D6 ?_;refine BL (hW) PU ?_;refine C4 ?_;exact DP
      ·refine S_ ?_
       refine Ac ?_;refine Na ?_;refine AA (B4 (b:=2) rfl rfl) rfl ?_;refine AY ?_;refine Dr ?_;refine VO ?_;refine D6 ?_;refine BL (hW) PU ?_;refine C4 ?_;exact DP
      ·refine S_ ?_
       refine Ac ?_;refine Na ?_;refine FG ?_;refine Kk ?_;refine AY ?_;refine Dr ?_;refine VO ?_;refine D6 ?_;refine BL (hW) PU ?_;refine C4 ?_;exact DP
      ·refine S_ ?_
       refine Ac ?_;refine Na ?_;refine FG ?_;refine Kk ?_;refine Ad ?_;refine AA (B4 (b:=4) rfl rfl) rfl ?_;refine AY ?_;refine Dr ?_;refine VO ?_;refine D6 ?_;refine BL (hW) PU ?_;refine C4 ?_;exact DP
     ·obtain rfl:k=5:=by omega
      rw [if_neg O_,if_pos rfl] at hlo
      refine AG ?_;refine Na ?_;refine FG ?_;refine Kk ?_;refine Ad ?_;refine Gg ?_;refine AY ?_;refine Dr ?_;refine AA (B4 (b:=64) rfl rfl) rfl ?_;refine D6 ?_;refine BL (hW) PU ?_;refine C4 ?_;exact DP
    rw [if_neg O_,if_neg O_] at hlo
    refine E8 [0,1,5,6,8,10,11,12] (fun (z:Nat×Nat)=>⟨144,AQ [0,1,5,6,8,10,11,12] [.c (.sl 0 0 n cap 4),Aj (x:Int),Ai 1,Ai 2,.c (.bs b),Ai 3,Aj (z.1:Int),Aj (z.2:Int)],[.row false (.al (stA S)),.row true (.ac [.sl 4 0 N N 3,.mp 5]),.row true (.ac [.sl 6 0 N N 3]),.row true (.ac [.val (.int .i64 k),.val (.int .i64 nn),.is a]),.row true (.an L),.row true (.mp (Bf L)),.row true (.an L)]⟩) (T0 k,ZJ k) ?_ ?_
    ·rcases (by omega:k=6∨k=7∨k=8∨k=9) with rfl | rfl | rfl | rfl
     ·refine S_ ?_
      refine Ac ?_;refine Na ?_;refine FG ?_;refine Kk ?_;refine Ad ?_;refine Gg ?_;refine Ad ?_;refine It ?_;refine Ad ?_;refine KD ?_;exact ⟨(1,16),K_,by decide⟩
     ·refine S_ ?_
      refine Ac ?_;refine Na ?_;refine FG ?_;refine Kk ?_;refine Ad ?_;refine Gg ?_;refine Ad ?_;refine It ?_;refine Ad ?_;refine PL ?_;refine Ad ?_;refine QT ?_;refine Ad ?_;refine KD ?_;exact ⟨(2,48),K_,by decide⟩
     ·refine S_ ?_
      refine Ac ?_;refine Na ?_;refine FG ?_;refine Kk ?_;refine Ad ?_;refine Gg ?_;refine Ad ?_;refine It ?_;refine Ad ?_;refine PL ?_;refine Ad ?_;refine KD ?_;exact ⟨(1,64),K_,by decide⟩
     ·refine S_ ?_
      refine Ac ?_;refine Na ?_;refine FG ?_;refine Kk ?_;refine Ad ?_;refine Gg ?_;refine Ad ?_;refine It ?_;refine Ad ?_;refine PL ?_;refine Ad ?_;refine QT ?_;refine A7 ?_;exact ⟨(0,0),K_,by decide⟩
    have hfl:T0 k≤a.length:=by
     refine Nat.le_trans ?_ hkl.1
     rcases (by omega:k=6∨k=7∨k=8∨k=9) with rfl | rfl | rfl | rfl<;>decide
    generalize T0 k=f at*
    generalize ZJ k=bs at*
    refine BC ?_;refine A7 ?_;refine DL [0,1,5,6,8,10,12,13] (fun (z:Nat×Nat)=>⟨144,AQ [0,1,5,6,8,10,12,13] [.c (.sl 0 0 n cap 4),Aj (x:Int),Ai 1,Ai 2,.c (.bs b),Ai 3,Aj (z.2:Int),Aj (z.1:Int)],[.row false (.al (stA S)),.row true (.ac [.sl 4 0 N N 3,.mp 5]),.row true (.ac [.sl 6 0 N N 3]),.row true (.ac [.val (.int .i64 k),.val (.int .i64 nn),.is a]),.row true (.an L),.row true (.mp (Bf L)),.row true (.an L)]⟩) (fun z=>a.length-z.1) (fun z=>z.1≤a.length∧z.2+YU ((a.drop z.1).map (gB LJ L))=b.length) (f,bs) K_ ⟨hfl,hlo.symm⟩ ?_
    rintro ⟨j,sz⟩ ⟨hj,hsz⟩
    dsimp only at hj hsz ⊢
    by_cases hlt:j<a.length
    ·have hme:AX a j∈a:=by simp [AX,hlt]
     have hg:=hka (AX a j) hme
     obtain ⟨y,hy⟩:∃y:Nat,AX a j=(y:Int):=⟨(AX a j).toNat,by omega⟩
     have hRy:=lp L (Bf L) N y hN O_ O_ hA
     have hay:=hargs (AX a j) hme
     rw [hy,Int.toNat_natCast] at hay
     rw [hay] at hRy
     dsimp only at hRy
     rw [gz hlt,hy] at hsz
     clear hay hargs
     generalize gB LJ L (y:Int)=gg at*
     refine BC ?_;refine Jx ?_;refine IF ?_;refine CF ?_;refine AW ?_;refine Jx ?_;refine AO ?_;refine U7 ?_;refine AA ((D5 rfl B6 O_).trans (by rw [hy])) rfl ?_
     refine Bq (AZ (bs:=[1,4,5]) (hRy) VA K_ K_ rfl Bb) AK rfl ?_;refine E1 ?_;refine Fu ?_;refine UT ?_;refine AO ?_;refine Dr ?_;refine Hu ?_;refine AY ?_;refine DG ?_;exact ⟨(j+1,sz+4+gg.length),K_,by show a.length-(j+1)<a.length-j;omega,by show j+1≤a.length;omega,by show sz+4+gg.length+YU ((a.drop (j+1)).map (gB LJ L))=b.length;omega⟩
    ·have hbz:b.length=sz:=by rw [show j=a.length by omega,List.drop_length] at hsz;exact hsz.symm
     refine BC ?_;refine Jx ?_;refine IF ?_;refine CF ?_;refine AW ?_;refine Dr ?_;refine AO ?_;refine AA (B4 rfl rfl) rfl ?_;refine D6 ?_;refine BL (hW) PU ?_;refine C4 ?_;exact DP
end Go.Proofs.YtmbepikkgkcgkaaGreatDoor
namespace Go.Proofs.YtmbepikkgkcgkaaGreatDoor
open Go.ChangeShapes Go.WideShapes Go.ChangeAt Go.RowKit
variable {g r : Prop}
open Go.Proofs.Tryz
section
variable {H:Type} {enc:TypeId×Value→H} {P:Program} {w:World} {base:Nat} {held:Bool}
theorem oT{e:TypeId}{t:TypeId}{fuel:Nat}{cs:List Value}{x:DataW H×List MemPlace}(ht:P.underlying t=some (.slice e))(he:P.underlying e=some (.int .i64))(hc:P.cellsOf e=1)(h:DataW.trod enc P w base (fun _=>true) held fuel t cs=some x):
  ∃(v:Value) (a:List Int),cs=[v]∧a.length≤maxLen∧(∀y∈a,TZ y)∧ ∀ι:Emb,ι.tx=aB w→(Cell.is a).rel ι v:=by
 rcases open_ints ht he hc h with ⟨hcs,_⟩ | ⟨x,len,c,zs,hcs,_,hl,hm,hz,_,hcell,hwz⟩
 ·exact ⟨_,[],hcs,Nat.zero_le _,(fun y hy=>by cases hy),fun ι _=>⟨none,0,rfl,Nat.le_refl _,.inl rfl⟩⟩
 ·rw [if_pos rfl] at hz
  have hlen:(zs.take len).length=len:=by simp;omega
  refine ⟨_,zs.take len,hcs,by omega,fun y hy=>?_,fun ι hι=>⟨some x,c,by rw [hlen],by omega,?_⟩⟩
  ·have:=hwz y (List.mem_of_mem_take hy)
   simp only [Lit.wf,Bool.and_eq_true,decide_eq_true_eq] at this
   rw [show IntKind.i64.min= -9223372036854775808 from rfl,show IntKind.i64.max=9223372036854775807 from rfl] at this
   exact this
  ·rcases Nat.eq_zero_or_pos c with h0 | h0
   ·exact .inl h0
   ·right
    obtain ⟨b,off,spot⟩:=x
    have hspot:spot=none:=by
     have h1:=hcell 0 O_
     simpa [Addr.add] using World.cell?_spot h1
    subst hspot
    have at_:∀i,i<c→ι.tx b (off+i) (.int .i64 (zs.getD i 0)):=fun i hi=>by
     have h1:=hcell i O_
     rw [show (⟨b,off,none⟩:Addr).add i=⟨b,off+i,none⟩ from UW b off i] at h1
     unfold World.cell? at h1
     split at h1
     ·rename_i cs t fr hh
      rw [hι]
      exact ⟨cs,t,fr,hh,h1⟩
     ·cases h1
    refine ⟨b,off,rfl,⟨_,_,at_ 0 h0⟩,fun i hi=>?_⟩
    rw [hlen] at hi
    have:=at_ i O_
    dsimp only
    rw [show (zs.take len).getD i 0=zs.getD i 0 by simp [hi]]
    exact this
theorem kv{n:Int}(h:(Lit.int .i64 n).wf=true):TZ n:=by
 simp only [Lit.wf,Bool.and_eq_true,decide_eq_true_eq] at h
 rw [show IntKind.i64.min= -9223372036854775808 from rfl,show IntKind.i64.max=9223372036854775807 from rfl] at h
 exact h
theorem qd{u e:TypeId}{f0 f1 f2 f3:Field}{fuel:Nat}{cs:List Value}{x:DataW H×List MemPlace}(ht:P.underlying u=some (.struct #[f0,f1,f2,f3]))
  (h0:P.underlying f0.type=some (.int .i64)) (h1:P.underlying f1.type=some (.int .i64)) (h2:P.underlying f2.type=some (.slice e)) (he:P.underlying e=some (.int .i64)) (h3:P.underlying f3.type=some .bool)
  (c0:P.cellsOf f0.type=1) (c1:P.cellsOf f1.type=1) (c2:P.cellsOf f2.type=1) (c3:P.cellsOf f3.type=1) (ce:P.cellsOf e=1) (cu:P.cellsOf u=4) (o0:f0.offset=0) (o1:f1.offset=1) (o2:f2.offset=2) (o3:f3.offset=3)
  (h:DataW.trod enc P w base (fun _=>true) held fuel u cs=some x):
  ∃s:Stp,∃v:Value,cs=[.int .i64 s.k,.int .i64 s.n,v,.bool s.r]∧(TZ s.k∧TZ s.n∧ ∀y∈s.a,TZ y)∧s.a.length≤maxLen∧ ∀ι:Emb,ι.tx=aB w→(Cell.is s.a).rel ι v:=by
 obtain ⟨xs,n,_,rfl,hl,hlen,hf⟩:=DataW.trod_struct ht h
 rw [cu] at hl
 match cs,hl with
 |[a0,a1,a2,a3],_=>
  match xs,hlen with
  |[y0,y1,y2,y3],_=>
   have g0:=hf 0 f0 rfl
   have g1:=hf 1 f1 rfl
   have g2:=hf 2 f2 rfl
   have g3:=hf 3 f3 rfl
   rw [o0,c0] at g0;rw [o1,c1] at g1;rw [o2,c2] at g2;rw [o3,c3] at g3
   obtain ⟨k,e0,_,w0⟩:=DataW.trod_int h0 g0
   obtain ⟨m,e1,_,w1⟩:=DataW.trod_int h1 g1
   obtain ⟨v,a,e2,b1,b2,b3⟩:=oT h2 he ce g2
   obtain ⟨r,e3,_⟩:=DataW.trod_bool h3 g3
   simp at e0 e1 e2 e3
   subst e0 e1 e2 e3
   exact ⟨⟨k,m,a,r⟩,a2,rfl,⟨kv w0,kv w1,b2⟩,b1,b3⟩
theorem sQ{r:Reach}{b0:Nat}{t u e:TypeId}{f0 f1 f2 f3:Field}{v:Value}{d:DataW H}{ps:List MemPlace}(htt:P.underlying t=some (.slice u))(ht:P.underlying u=some (.struct #[f0,f1,f2,f3]))
  (h0:P.underlying f0.type=some (.int .i64)) (h1:P.underlying f1.type=some (.int .i64)) (h2:P.underlying f2.type=some (.slice e)) (he:P.underlying e=some (.int .i64)) (h3:P.underlying f3.type=some .bool)
  (c0:P.cellsOf f0.type=1) (c1:P.cellsOf f1.type=1) (c2:P.cellsOf f2.type=1) (c3:P.cellsOf f3.type=1) (ce:P.cellsOf e=1) (cu:P.cellsOf u=4) (o0:f0.offset=0) (o1:f1.offset=1) (o2:f2.offset=2) (o3:f3.offset=3)
  (hval:Value.okWide P w r b0 t v) (hd:DataW.Trod enc P w base (fun _=>true) held t v d ps):
  ∃S:List Stp,ue w 4 v (.al (stA S))∧S.length≤maxLen∧(∀i,i<S.length→TZ (CR S i).k∧TZ (CR S i).n∧ ∀x∈(CR S i).a,TZ x)∧ ∀i,i<S.length→(CR S i).a.length≤maxLen:=by
 obtain ⟨a0,len0,cap0,rfl⟩:=okWide_slice htt hval
 obtain ⟨fuel,hf⟩:=hd
 rcases DataW.trod_slice htt hf with ⟨hcs,_⟩ | ⟨a,len,cap,elems,rest,n,_,hcs,_,_,hl,hm,hlen,hel,hsp,_⟩
 ·simp [Value.cells] at hcs
  obtain ⟨rfl,rfl,rfl⟩:=hcs
  exact ⟨[],⟨rfl,none,0,0,rfl,Nat.le_refl _,rfl,.inl rfl⟩,Nat.zero_le _,fun i hi=>absurd hi (Nat.not_lt_zero i),fun i hi=>absurd hi (Nat.not_lt_zero i)⟩
 ·simp [Value.cells] at hcs
  obtain ⟨rfl,rfl,rfl⟩:=hcs
  obtain ⟨hr1,hr2⟩:=hsp rfl
  rw [cu] at hel hr2
  have each:∀i,i<cap0→ ∃s:Stp,∃v:Value,(∀f,f<4→w.cell? ((a.add (i*4)).add f)=([.int .i64 s.k,.int .i64 s.n,v,.bool s.r]:List Value)[f]?)∧(TZ s.k∧TZ s.n∧ ∀y∈s.a,TZ y)∧s.a.length≤maxLen∧ ∀ι:Emb,ι.tx=aB w→(Cell.is s.a).rel ι v:=by
   intro i hi
   have go:∃y,(w.cells? base (a.add (i*4)) 4).bind (DataW.trod enc P w base (fun _=>true) held n u)=some y:=by
    by_cases hil:i<len0
    ·exact ⟨elems[i]'O_,by rw [hel i hil,List.getElem?_eq_getElem]⟩
    ·have:=hr2 (i-len0) O_
     rw [show len0+(i-len0)=i by omega] at this
     exact ⟨rest[i-len0]'O_,by rw [this,List.getElem?_eq_getElem]⟩
   obtain ⟨y,hy⟩:=go
   obtain ⟨cs,h5,h6⟩:=Option.bind_eq_some_iff.1 hy
   obtain ⟨s,v,rfl,g1,g2,g3⟩:=qd ht h0 h1 h2 he h3 c0 c1 c2 c3 ce cu o0 o1 o2 o3 h6
   exact ⟨s,v,(World.cells?_some h5).2.2,g1,g2,g3⟩
  obtain ⟨Y,hY⟩:=Go.Deep.choose_lt each
  have hln:((List.range len0).map Y).length=len0:=by simp
  have hgs:∀i,i<len0→CR ((List.range len0).map Y) i=Y i:=fun i hi=>by simp [CR,hi]
  refine ⟨(List.range len0).map Y,⟨rfl,some a,len0,cap0,rfl,hl,by show (stA _).length=_;rw [P2,hln,Nat.mul_comm],?_⟩,by rw [hln];omega,fun i hi=>?_,fun i hi=>?_⟩
  ·rcases Nat.eq_zero_or_pos cap0 with h00 | h00
   ·exact .inl h00
   ·right
    obtain ⟨b,off,spot⟩:=a
    have hspot:spot=none:=by
     obtain ⟨v,h5,_⟩:=hY 0 h00
     have h1:=h5 0 D_
     simpa [Addr.add] using World.cell?_spot h1
    subst hspot
    have at_:∀i f,i<cap0→f<4→ ∀c,w.cell? (((⟨b,off,none⟩:Addr).add (i*4)).add f)=some c→w.cell? ⟨b,off+(i*4+f),none⟩=some c:=fun i f hi hf c h=>by
     rw [show (⟨b,off,none⟩:Addr).add (i*4)=⟨b,off+i*4,none⟩ from UW b off _,show (⟨b,off+i*4,none⟩:Addr).add f=⟨b,off+i*4+f,none⟩ from UW b _ f,Nat.add_assoc] at h
     exact h
    obtain ⟨v0,k0,_⟩:=hY 0 h00
    have z:=at_ 0 0 h00 D_ _ (k0 0 D_)
    unfold World.cell? at z
    split at z
    ·rename_i cs t fr hh
     refine ⟨b,off,cs,t,fr,rfl,hh,fun i hi=>?_⟩
     have hi:i<(stA ((List.range len0).map Y)).length:=hi
     rw [P2,hln] at hi
     obtain ⟨q,f,hq,hf4,rfl⟩:∃q f,q<len0∧f<4∧i=q*4+f:=⟨i/4,i%4,by omega,by omega,by omega⟩
     obtain ⟨v,k5,_,_,k6⟩:=hY q O_
     have val:∀c,([.int .i64 (Y q).k,.int .i64 (Y q).n,v,.bool (Y q).r]:List Value)[f]?=some c→cs[off+(q*4+f)]?=some c:=fun c hc=>by
      have:=at_ q f O_ hf4 c ((k5 f hf4).trans hc)
      unfold World.cell? at this
      simp only [hh] at this
      simpa using this
     have hg:=hgs q hq
     match f,hf4 with
     |0,_=>exact ⟨_,val _ rfl,fun ι _=>by rw [(Ez (f:=0) (c:= .val (.int .i64 (Y q).k)) (by rw [hln];exact hq) D_ (by rw [hg];rfl)).2];rfl⟩
     |1,_=>exact ⟨_,val _ rfl,fun ι _=>by rw [(Ez (f:=1) (c:= .val (.int .i64 (Y q).n)) (by rw [hln];exact hq) D_ (by rw [hg];rfl)).2];rfl⟩
     |2,_=>exact ⟨_,val _ rfl,fun ι hι=>by rw [(Ez (f:=2) (c:= .is (Y q).a) (by rw [hln];exact hq) D_ (by rw [hg];rfl)).2];exact k6 ι hι⟩
     |3,_=>exact ⟨_,val _ rfl,fun ι _=>by rw [(Ez (f:=3) (c:= .val (.bool (Y q).r)) (by rw [hln];exact hq) D_ (by rw [hg];rfl)).2];rfl⟩
    ·cases z
  ·rw [hln] at hi
   rw [hgs i hi]
   obtain ⟨_,_,h5,_⟩:=hY i O_
   exact h5
  ·rw [hln] at hi
   rw [hgs i hi]
   obtain ⟨_,_,_,h5,_⟩:=hY i O_
   exact h5
end
theorem jb(S:List Stp)(hnl:S.length≤9223372036854775807)(hnum:∀i,i<S.length→TZ (CR S i).k∧TZ (CR S i).n∧ ∀x∈(CR S i).a,TZ x)(hlen:∀i,i<S.length→(CR S i).a.length≤9223372036854775807)(i:Int)(hi: -9223372036854775808≤i∧i≤9223372036854775807):
  Ev prog (.call 5 [.c (.sl 0 0 S.length S.length 4),.c (.val (.int .i64 i))] [.row false (.al (stA S))]) (.val (.c (.val (.bool true))) [.row false (.al (stA S))]):=
 oy S S.length S.length i rfl hnl hnum hlen hi
end Go.Proofs.YtmbepikkgkcgkaaGreatDoor
