/- Merged and shortened by a program: part 10. -/
import Derived.Test.YtmbepikkgkcgkaaGreatDoorUL9
set_option maxRecDepth 100000
set_option maxHeartbeats 8000000
namespace Go.Proofs.YtmbepikkgkcgkaaGreatDoor
open Go.RowKit
variable {g r : Prop}
open Go.Proofs.Tryz
def ND(a:AB 64):Nat→Nat
 |0=>0
 |n+1=>ND a n+(nth a n).toNat*18446744073709551616^n
theorem Ya(a:AB 64)(p:Nat)(v:BitVec 64)(hp:p<a.length):∀n,ND (put a p v) n+(if p<n then (nth a p).toNat*18446744073709551616^p else 0)=ND a n+(if p<n then v.toNat*18446744073709551616^p else 0):=by
 intro n
 induction n with
 |zero=>rfl
 |succ n ih=>
  rw [ND,ND,C3 _ _ _ _ hp]
  by_cases e:p=n
  ·subst e
   rw [if_neg (Nat.lt_irrefl _),if_neg (Nat.lt_irrefl _)] at ih
   rw [if_pos rfl,if_pos (Nat.lt_succ_self _),if_pos (Nat.lt_succ_self _)]
   omega
  ·rw [if_neg e]
   by_cases h:p<n
   ·rw [if_pos h,if_pos h] at ih
    rw [if_pos O_,if_pos O_]
    omega
   ·rw [if_neg h,if_neg h] at ih
    rw [if_neg O_,if_neg O_]
    omega
theorem cH(x y o c:BitVec 64):((Dq x y+Cj (Ay x y) o 0#64)+Cj (Ay x y+o+0#64) c 0#64).toNat*18446744073709551616+((Ay x y+o+0#64)+c+0#64).toNat=x.toNat*y.toNat+o.toNat+c.toNat:=by
 have hx:=x.isLt
 have hy:=y.isLt
 have ho:=o.isLt
 have hc:=c.isLt
 have hxy:x.toNat*y.toNat≤18446744073709551615*18446744073709551615:=Nat.mul_le_mul O_ O_
 have e0:=Pa x y
 have e1:=Pc x y
 generalize x.toNat*y.toNat=q at*
 have f1:=Qg (x:=Ay x y) (y:=o)
 have g1:(Ay x y+o+0#64).toNat=((Ay x y).toNat+o.toNat)%18446744073709551616:=by rw [BitVec.add_zero,BitVec.toNat_add]
 generalize Ay x y+o+0#64=l1 at*
 have f2:=Qg (x:=l1) (y:=c)
 have g2:(l1+c+0#64).toNat=(l1.toNat+c.toNat)%18446744073709551616:=by rw [BitVec.add_zero,BitVec.toNat_add]
 have s1:=Bx (x:=Dq x y) (y:=Cj (Ay x y) o 0#64) (by rw [e0,f1,e1];omega)
 have s2:=Bx (x:=Dq x y+Cj (Ay x y) o 0#64) (y:=Cj l1 c 0#64) (by rw [s1,e0,f1,f2,g1,e1];omega)
 rw [s2,s1,e0,f1,f2,g2,g1,e1]
 omega
theorem wa(V W Tp v Q M c' ab c X:Nat)(h1:V+Tp*Q=W+v*Q)(h2:c'*M+v=ab+Tp+c)(hX:W+c*Q=X):V+c'*(Q*M)=X+ab*Q:=by
 grind
theorem Zf(a:AB 64):ND a 4=wV a:=by
 simp only [ND,wV,Nat.pow_zero,Nat.reducePow]
 omega
theorem Tf(b:AB 8):wV (Fi b)=EI b 32:=by
 have run:=WI b (FJ b) rfl (fun j=>by rw [FJ,Oa]) 32 (Nat.le_refl _)
 have v:∀t,t<4→(nth (FJ b 32) t).toNat=jF b t 8:=fun t ht=>by
  have:=run.2 t ht
  rwa [show min 8 (32-8*t)=8 by omega] at this
 unfold Fi wV
 rw [v 0 D_,v 1 D_,v 2 D_,v 3 D_,gN]
theorem Sj(a:AB 64):GA a=Yy (wV a):=by
 unfold GA
 exact Vs a (Cp a) rfl fun j=>by rw [Cp,I8]
theorem U2:B8=[6346243789798364141#64,1503914060200516822#64,0#64,1152921504606846976#64]:=by unfold B8;rfl
theorem Wl:wV B8=BS:=by rw [U2];decide+kernel
theorem WJ:B8.length=4:=by rw [U2];rfl
theorem oQ(a b:AB 64)(j:Nat):Ch a b j=(Li a b j).1:=by
 induction j with
 |zero=>rfl
 |succ j ih=>rw [Ch,KI,Li,U4,ih]
theorem kZ{a b:AB 64}(ha:a.length=4)(hb:b.length=4):(Ch a b 4==1#64)=decide (wV a<wV b):=by
 obtain ⟨e,hc⟩:=WT ha hb
 have h1:Ch a b 4=Mj a b:=by rw [oQ];unfold Mj;rfl
 have l1:=Wu (Mb a b)
 have l2:=Wu a
 rw [h1]
 by_cases h:wV a<wV b
 ·rw [decide_eq_true h,beq_iff_eq]
  apply BitVec.eq_of_toNat_eq
  show _=1
  omega
 ·rw [decide_eq_false h,beq_eq_false_iff_ne]
  intro h2
  have:(Mj a b).toNat=1:=by rw [h2];rfl
  omega
theorem pf{y:AB 64}(hy:y.length=4):(Df y 4).2=Mb y B8:=by
 obtain ⟨y0,y1,y2,y3,rfl⟩:=four hy
 unfold Mb
 rfl
theorem QN(x c:BitVec 64)(hc:c.toNat<2):((x<<<1) ||| c).toNat=(2*x.toNat)%18446744073709551616+c.toNat:=by
 rw [BitVec.or_comm,Md 1 O_]
 omega
theorem fB(x:BitVec 64):(x>>>63).toNat=x.toNat/9223372036854775808:=by
 rw [BitVec.toNat_ushiftRight,Nat.shiftRight_eq_div_pow]
theorem qV{a:AB 64}(ha:a.length=4)(bit:BitVec 64)(hb:bit.toNat<2)(hl:wV a<BS):(je a bit).length=4∧wV (je a bit)=2*wV a+bit.toNat:=by
 obtain ⟨a0,a1,a2,a3,rfl⟩:=four ha
 have e:je [a0,a1,a2,a3] bit=[(a0<<<1) ||| bit,(a1<<<1) ||| (a0>>>63),(a2<<<1) ||| (a1>>>63),(a3<<<1) ||| (a2>>>63)]:=by unfold je;rfl
 rw [e]
 refine ⟨rfl,?_⟩
 have i0:=a0.isLt
 have i1:=a1.isLt
 have i2:=a2.isLt
 have i3:=a3.isLt
 have s0:=QN a0 bit hb
 have s1:=QN a1 (a0>>>63) (by rw [fB];omega)
 have s2:=QN a2 (a1>>>63) (by rw [fB];omega)
 have s3:=QN a3 (a2>>>63) (by rw [fB];omega)
 rw [fB] at s1 s2 s3
 change a0.toNat+a1.toNat*18446744073709551616+a2.toNat*340282366920938463463374607431768211456+a3.toNat*6277101735386680763835789423207666416102355444464034512896<7237005577332262213973186563042994240857116359379907606001950938285454250989 at hl
 show ((a0<<<1) ||| bit).toNat+((a1<<<1) ||| (a0>>>63)).toNat*18446744073709551616+((a2<<<1) ||| (a1>>>63)).toNat*340282366920938463463374607431768211456+((a3<<<1) ||| (a2>>>63)).toNat*6277101735386680763835789423207666416102355444464034512896=2*(a0.toNat+a1.toNat*18446744073709551616+a2.toNat*340282366920938463463374607431768211456+a3.toNat*6277101735386680763835789423207666416102355444464034512896)+bit.toNat
 rw [s0,s1,s2,s3]
 omega
theorem ja{a:AB 64}(ha:a.length=4)(bit:BitVec 64)(hb:bit.toNat<2)(hl:wV a<BS):(Hy a bit).length=4∧wV (Hy a bit)=(2*wV a+bit.toNat)%BS:=by
 obtain ⟨dl,dv⟩:=qV ha bit hb hl
 refine ⟨aF a bit ha,?_⟩
 unfold Hy
 rw [kZ dl WJ,Wl,dv]
 by_cases h:2*wV a+bit.toNat<BS
 ·rw [if_pos (decide_eq_true h),Nat.mod_eq_of_lt h]
  unfold cJ
  exact dv
 ·rw [if_neg (by rw [decide_eq_false h];decide)]
  have e:ZI a bit=Mb (je a bit) B8:=by
   unfold ZI
   rw [ZL,show (Dm a bit 4).2=je a bit by unfold je;rfl,pf dl]
  rw [e]
  obtain ⟨e2,hc⟩:=WT (a:=je a bit) (b:=B8) dl WJ
  rw [Wl,dv] at e2
  have l1:=Wu (Mb (je a bit) B8)
  change ¬_<7237005577332262213973186563042994240857116359379907606001950938285454250989 at h
  change _<7237005577332262213973186563042994240857116359379907606001950938285454250989 at hl
  change _+7237005577332262213973186563042994240857116359379907606001950938285454250989=_ at e2
  have hc0:(Mj (je a bit) B8).toNat=0:=by omega
  rw [hc0] at e2
  have hm:(2*wV a+bit.toNat)%BS=2*wV a+bit.toNat-BS:=by
   rw [Nat.mod_eq_sub_mod (by show 7237005577332262213973186563042994240857116359379907606001950938285454250989≤_;omega),Nat.mod_eq_of_lt]
   show _-7237005577332262213973186563042994240857116359379907606001950938285454250989<7237005577332262213973186563042994240857116359379907606001950938285454250989
   omega
  rw [hm]
  show _=_-7237005577332262213973186563042994240857116359379907606001950938285454250989
  omega
theorem vE(e:AB 8)(n i:Nat)(hi:i<8*n):((((nth e (i/8))>>>(i%8))&&&1#8).setWidth 64).toNat=EI e n/2^i%2:=by
 have e1:(((nth e (i/8))>>>(i%8))&&&1#8).toNat=((nth e (i/8))>>>(i%8)).toNat%2:=by
  rw [BitVec.toNat_and]
  exact Nat.and_two_pow_sub_one_eq_mod _ 1
 rw [BitVec.toNat_setWidth,e1]
 have h1:=Lb e n (i/8) O_
 rw [BitVec.toNat_ushiftRight,Nat.shiftRight_eq_div_pow,←h1]
 have h2:(2:Nat)^i=256^(i/8)*2^(i%8):=by
  rw [show (256:Nat)=2^8 from rfl,←Nat.pow_mul,←Nat.pow_add,Nat.div_add_mod]
 rw [h2,←Nat.div_div_eq_div_mul]
 generalize EI e n/256^(i/8)=x
 rcases (by omega:i%8=0∨i%8=1∨i%8=2∨i%8=3∨i%8=4∨i%8=5∨i%8=6∨i%8=7) with h | h | h | h | h | h | h | h<;>rw [h]<;>simp only [Nat.reducePow]<;>omega
theorem yE:0<BS:=by unfold BS;decide
theorem step_mod(x b:Nat):(2*(x%BS)+b)%BS=(2*x+b)%BS:=by
 unfold BS
 omega
theorem qp(b:AB 8):∀j,j≤8*b.length→(DT b j).length=4∧wV (DT b j)=EI b b.length/2^(8*b.length-j)%BS:=by
 intro j
 induction j with
 |zero=>
  intro _
  rw [DT]
  refine ⟨rfl,?_⟩
  have h:=OK b b.length
  rw [Nat.sub_zero,show (2:Nat)^(8*b.length)=256^b.length by rw [Nat.pow_mul],Nat.div_eq_of_lt h]
  rfl
 |succ j ih=>
  intro hj
  obtain ⟨h1,h2⟩:=ih O_
  rw [DT,MN]
  have hbit:=vE b b.length (8*b.length-1-j) O_
  obtain ⟨g1,g2⟩:=ja h1 ((((nth b ((8*b.length-1-j)/8))>>>((8*b.length-1-j)%8))&&&1#8).setWidth 64) (by rw [hbit];exact Nat.mod_lt _ D_) (by rw [h2];exact Nat.mod_lt _ yE)
  refine ⟨g1,?_⟩
  rw [g2,hbit,h2,step_mod]
  congr 1
  rw [show 8*b.length-j=(8*b.length-1-j)+1 by omega,show 8*b.length-(j+1)=8*b.length-1-j by omega,Nat.pow_succ,←Nat.div_div_eq_div_mul]
  omega
theorem ff(b:AB 8):wV (Ix b)=EI b b.length%BS:=by
 obtain ⟨_,h⟩:=qp b (8*b.length) (Nat.le_refl _)
 unfold Ix
 rw [h,Nat.sub_self,Nat.pow_zero,Nat.div_one]
theorem iE(x y o c:BitVec 64):((Dq x y+Cj o (Ay x y) 0#64)+Cj (o+Ay x y+0#64) c 0#64).toNat*18446744073709551616+((o+Ay x y+0#64)+c+0#64).toNat=x.toNat*y.toNat+o.toNat+c.toNat:=by
 have h:=cH x y o c
 rw [BitVec.add_comm o (Ay x y),show Cj o (Ay x y) 0#64=Cj (Ay x y) o 0#64 by unfold Cj;rw [Nat.add_comm o.toNat]]
 exact h
theorem cG{a b T:AB 64}(i:Nat)(hi:i<4)(hT:T.length=9):∀k,k≤4→
  (Bm a b T i k).2.length=9∧ND (Bm a b T i k).2 9+(Bm a b T i k).1.toNat*18446744073709551616^(i+k)=ND T 9+(nth a i).toNat*ND b k*18446744073709551616^i∧ ∀t,i+4≤t→nth (Bm a b T i k).2 t=nth T t:=by
 intro k
 induction k with
 |zero=>intro _;exact ⟨hT,by show ND T 9+0*_=ND T 9+_*0*_;rw [Nat.zero_mul,Nat.mul_zero,Nat.zero_mul],fun t _=>rfl⟩
 |succ k ih=>
  intro hk
  obtain ⟨h1,h2,h3⟩:=ih O_
  rw [Bm,KG]
  generalize Bm a b T i k=Y at*
  obtain ⟨c,t⟩:=Y
  dsimp only at h1 h2 h3 ⊢
  rw [RW,C3 _ _ _ _ O_,if_pos rfl]
  have hw:=iE (nth a i) (nth b k) (nth t (i+k)) c
  generalize nth t (i+k)+Ay (nth a i) (nth b k)+0#64+c+0#64=v at*
  generalize Dq (nth a i) (nth b k)+Cj (nth t (i+k)) (Ay (nth a i) (nth b k)) 0#64+Cj (nth t (i+k)+Ay (nth a i) (nth b k)+0#64) c 0#64=c' at*
  have hp:=Ya t (i+k) v O_ 9
  rw [if_pos O_,if_pos O_] at hp
  refine ⟨by rw [Bp,h1],?_,fun s hs=>?_⟩
  ·have:=wa _ _ _ _ _ _ _ _ _ _ hp hw h2
   have e:(nth a i).toNat*ND b (k+1)*18446744073709551616^i=(nth a i).toNat*ND b k*18446744073709551616^i+(nth a i).toNat*(nth b k).toNat*18446744073709551616^(i+k):=by
    rw [show ND b (k+1)=ND b k+(nth b k).toNat*18446744073709551616^k from rfl,Nat.pow_add]
    generalize 18446744073709551616^i=p
    generalize 18446744073709551616^k=q
    grind
   rw [←Nat.add_assoc i k 1,Nat.pow_succ,this,e,Nat.add_assoc]
  ·rw [C3 _ _ _ _ O_,if_neg O_];exact h3 s hs
theorem dj{a b:AB 64}:∀i,i≤4→(Bl a b i).length=9∧ND (Bl a b i) 9=ND a i*ND b 4∧ ∀t,i+4≤t→nth (Bl a b i) t=0#64:=by
 intro i
 induction i with
 |zero=>
  intro _
  refine ⟨rfl,?_,fun t _=>?_⟩
  ·show ND (Af 9) 9=0*_
   rw [Nat.zero_mul];decide
  ·show nth (Af 9) t=0#64
   unfold nth Af
   rw [List.getD_eq_getElem?_getD,List.getElem?_replicate]
   split<;>rfl
 |succ i ih=>
  intro hi
  obtain ⟨h1,h2,h3⟩:=ih O_
  obtain ⟨g1,g2,g3⟩:=cG (a:=a) (b:=b) (T:=Bl a b i) i O_ h1 4 (Nat.le_refl _)
  rw [Bl,KS]
  generalize Bm a b (Bl a b i) i 4=Y at*
  obtain ⟨c,t⟩:=Y
  dsimp only at g1 g2 g3 ⊢
  have hp:=Ya t (i+4) c O_ 9
  rw [if_pos O_,if_pos O_,g3 (i+4) O_,h3 (i+4) O_,show (0#64:BitVec 64).toNat=0 from rfl,Nat.zero_mul,Nat.add_zero,g2,h2] at hp
  refine ⟨by rw [Bp,g1],?_,fun s hs=>?_⟩
  ·rw [hp,show ND a (i+1)=ND a i+(nth a i).toNat*18446744073709551616^i from rfl,Nat.add_mul]
   congr 1
   generalize 18446744073709551616^i=p
   grind
  ·rw [C3 _ _ _ _ O_,if_neg O_,g3 s O_,h3 s O_]
def pr(c:AB 64)(j:Nat):BitVec 64:=if j<4 then nth c j else 0#64
def mj(c:AB 64):Nat→Nat
 |0=>0
 |n+1=>mj c n+(pr c n).toNat*18446744073709551616^n
theorem nJ(c:AB 64):mj c 9=wV c:=by
 simp only [mj,pr,wV,Nat.pow_zero,Nat.reducePow,show (0#64:BitVec 64).toNat=0 from rfl,Nat.reduceLT,if_true,if_false]
 omega
theorem ky{c Y:AB 64}(hY:Y.length=9):∀j,j≤9→(BH c Y j).2.length=9∧ND (BH c Y j).2 9+(BH c Y j).1.toNat*18446744073709551616^j=ND Y 9+mj c j∧ ∀t,j≤t→nth (BH c Y j).2 t=nth Y t:=by
 intro j
 induction j with
 |zero=>intro _;exact ⟨hY,by show ND Y 9+0*_=ND Y 9+0;rw [Nat.zero_mul],fun t _=>rfl⟩
 |succ j ih=>
  intro hj
  obtain ⟨h1,h2,h3⟩:=ih O_
  have hc:=UN c Y j
  rw [BH,Gz]
  generalize BH c Y j=X at*
  obtain ⟨k,t⟩:=X
  dsimp only at h1 h2 h3 hc ⊢
  rw [show (if j<4 then nth c j else 0#64)=pr c j from rfl]
  have hv:(nth t j+pr c j+k).toNat+(Cj (nth t j) (pr c j) k).toNat*18446744073709551616=(nth t j).toNat+(pr c j).toNat+k.toNat:=by
   rw [ij hc,za]
   omega
  generalize nth t j+pr c j+k=v at*
  generalize Cj (nth t j) (pr c j) k=k' at*
  have hp:=Ya t j v O_ 9
  rw [if_pos O_,if_pos O_] at hp
  refine ⟨by rw [Bp,h1],?_,fun s hs=>?_⟩
  ·rw [mj,Nat.pow_succ]
   generalize 18446744073709551616^j=Q at*
   generalize 18446744073709551616=M at*
   generalize ND (put t j v) 9=V at*
   generalize ND t 9=W at*
   generalize ND Y 9=S at*
   clear h1 h3
   have e1:k'.toNat*(Q*M)=(k'.toNat*M)*Q:=by rw [Nat.mul_comm Q M,Nat.mul_assoc]
   have e2:(k'.toNat*M)*Q+v.toNat*Q=(nth t j).toNat*Q+(pr c j).toNat*Q+k.toNat*Q:=by rw [←Nat.add_mul,←Nat.add_mul,←Nat.add_mul,←hv,Nat.add_comm]
   rw [e1]
   omega
  ·rw [C3 _ _ _ _ O_,if_neg O_];exact h3 s O_
theorem lS(a:AB 64)(n:Nat):ND a n<18446744073709551616^n:=by
 induction n with
 |zero=>exact Nat.one_pos
 |succ n ih=>
  rw [ND,Nat.pow_succ]
  have h:=(nth a n).isLt
  have:(nth a n).toNat*18446744073709551616^n≤18446744073709551615*18446744073709551616^n:=Nat.mul_le_mul_right _ O_
  omega
theorem gk(a:AB 64)(n i:Nat)(h:i<n):ND a n/18446744073709551616^i%18446744073709551616=(nth a i).toNat:=by
 induction n with
 |zero=>omega
 |succ n ih=>
  rw [ND]
  have hp:0<18446744073709551616^i:=Nat.pow_pos D_
  by_cases e:i=n
  ·subst e
   rw [Nat.add_mul_div_right _ _ hp,Nat.div_eq_of_lt (lS a i),Nat.zero_add,Nat.mod_eq_of_lt (nth a i).isLt]
  ·obtain ⟨k,hk⟩:∃k,n=i+(k+1):=⟨n-i-1,by omega⟩
   rw [←ih O_,hk,Nat.pow_add,Nat.pow_succ,show (nth a (i+(k+1))).toNat*(18446744073709551616^i*(18446744073709551616^k*18446744073709551616))=((nth a (i+(k+1))).toNat*18446744073709551616^k*18446744073709551616)*18446744073709551616^i from by grobner,Nat.add_mul_div_right _ _ hp,Nat.add_mul_mod_self_right]
theorem byte_of(a:AB 64)(n i:Nat)(hi:i<8*n):(((nth a (i/8))>>>(8*(i%8))).setWidth 8).toNat=ND a n/256^i%256:=by
 rw [BitVec.toNat_setWidth,BitVec.toNat_ushiftRight,Nat.shiftRight_eq_div_pow,←gk a n (i/8) O_]
 have h2:(256:Nat)^i=18446744073709551616^(i/8)*2^(8*(i%8)):=by
  rw [show (18446744073709551616:Nat)=256^8 from rfl,←Nat.pow_mul,show (2:Nat)^(8*(i%8))=256^(i%8) by rw [Nat.pow_mul],←Nat.pow_add,Nat.div_add_mod]
 rw [h2,←Nat.div_div_eq_div_mul]
 generalize ND a n/18446744073709551616^(i/8)=x
 rcases (by omega:i%8=0∨i%8=1∨i%8=2∨i%8=3∨i%8=4∨i%8=5∨i%8=6∨i%8=7) with h | h | h | h | h | h | h | h<;>rw [h]<;>simp only [Nat.reducePow,Nat.reduceMul]<;>omega
theorem dG(l:AB 8)(x:BitVec 8)(n:Nat)(h:n≤l.length):EI (l++[x]) n=EI l n:=by
 induction n with
 |zero=>rfl
 |succ n ih=>
  rw [EI,EI,ih O_]
  unfold nth
  rw [List.getD_eq_getElem?_getD,List.getD_eq_getElem?_getD,List.getElem?_append_left O_]
theorem mz(l:AB 8)(x:BitVec 8):nth (l++[x]) l.length=x:=by
 unfold nth
 rw [List.getD_eq_getElem?_getD,List.getElem?_append_right (Nat.le_refl _),Nat.sub_self]
 rfl
theorem kP{Y:AB 64}(hY:Y.length=9):∀j,j≤72→EI (CM Y j) j=ND Y 9%256^j:=by
 intro j
 induction j with
 |zero=>intro _;rw [EI,Nat.pow_zero,Nat.mod_one]
 |succ j ih=>
  intro hj
  have hl:=Fc Y hY j
  have hn:nth (CM Y j++[((nth Y (j/8))>>>(8*(j%8))).setWidth 8]) j=((nth Y (j/8))>>>(8*(j%8))).setWidth 8:=by
   have:=mz (CM Y j) (((nth Y (j/8))>>>(8*(j%8))).setWidth 8)
   rwa [hl] at this
  have e:= @Nat.mod_mul (256^j) 256 (ND Y 9)
  rw [CM,I7,EI,dG _ _ _ O_,hn,ih O_,byte_of Y 9 j O_,Nat.pow_succ,e,Nat.mul_comm (256^j)]
theorem mN(a b c:AB 64):(Gx a b c).length=72∧EI (Gx a b c) 72=wV a*wV b+wV c:=by
 obtain ⟨h1,h2,_⟩:=dj (a:=a) (b:=b) 4 (Nat.le_refl _)
 obtain ⟨g1,g2,_⟩:=ky (c:=c) h1 9 (Nat.le_refl _)
 rw [h2,nJ,Zf,Zf] at g2
 have la:=Wu a
 have lb:=Wu b
 have lc:=Wu c
 have hab:wV a*wV b≤115792089237316195423570985008687907853269984665640564039457584007913129639935*115792089237316195423570985008687907853269984665640564039457584007913129639935:=Nat.mul_le_mul O_ O_
 have ht:=kP g1 72 (Nat.le_refl _)
 have hv:=lS (BH c (Bl a b 4) 9).2 9
 unfold Gx
 refine ⟨Fc _ g1 72,?_⟩
 rw [ht,Nat.mod_eq_of_lt (by rw [show (256:Nat)^72=18446744073709551616^9 from rfl];exact hv)]
 generalize ND (BH c (Bl a b 4) 9).2 9=V at*
 generalize (BH c (Bl a b 4) 9).1.toNat=k at*
 generalize wV a*wV b=q at*
 simp only [Nat.reducePow,Nat.reduceMul] at*
 omega
def Wy(b:AB 8):AB 8:=Yy (EI b b.length%BS)
def rP(a b c:AB 8):AB 8:=Yy ((EI a 32*EI b 32+EI c 32)%BS)
@[simp] theorem yS(b:AB 8):(Wy b).length=32:=KJ _
@[simp] theorem yd(a b c:AB 8):(rP a b c).length=32:=KJ _
theorem ik(b:AB 8):QZ b=Wy b:=by
 unfold QZ Wy
 rw [Sj,ff]
theorem lY(a b c:AB 8):OP a b c=rP a b c:=by
 obtain ⟨h1,h2⟩:=mN (Fi a) (Fi b) (Fi c)
 unfold OP rP
 rw [Sj,ff,h1,h2,Tf,Tf,Tf]
attribute [irreducible] rP Wy
def AR:AB 64:=NL [163#8,120#8,89#8,19#8,202#8,77#8,235#8,117#8,171#8,216#8,65#8,65#8,77#8,10#8,112#8,0#8,152#8,232#8,121#8,119#8,121#8,64#8,199#8,140#8,115#8,254#8,111#8,43#8,238#8,108#8,3#8,82#8]
theorem JI:Ev prog (.call 165 [] []) (.val (EE (AR)) []):=by
 have hP:=Hid.mk (AR.eq_1)
 refine AJ func165 rfl ntmps165 rfl AN ?_;refine AG ?_;refine C2 ?_;refine AM ?_;have hQ1:(NL [163#8,120#8,89#8,19#8,202#8,77#8,235#8,117#8,171#8,216#8,65#8,65#8,77#8,10#8,112#8,0#8,152#8,232#8,121#8,119#8,121#8,64#8,199#8,140#8,115#8,254#8,111#8,43#8,238#8,108#8,3#8,82#8]).length=5:=Au
 refine AG ?_;refine AA (tB (l:=[163#8,120#8,89#8,19#8,202#8,77#8,235#8,117#8,171#8,216#8,65#8,65#8,77#8,10#8,112#8,0#8,152#8,232#8,121#8,119#8,121#8,64#8,199#8,140#8,115#8,254#8,111#8,43#8,238#8,108#8,3#8,82#8]) xF underlying37 CE rfl rfl D_) rfl ?_;refine BL (Xg [163#8,120#8,89#8,19#8,202#8,77#8,235#8,117#8,171#8,216#8,65#8,65#8,77#8,10#8,112#8,0#8,152#8,232#8,121#8,119#8,121#8,64#8,199#8,140#8,115#8,254#8,111#8,43#8,238#8,108#8,3#8,82#8] AD) Pd ?_;refine K5 ?_;rw [hP.out]
 exact ME
@[simp] theorem uJ:(AR).length=5:=by
 unfold AR
 (simp [*];done)
attribute [irreducible] AR
def Kz:AB 64:=(AH 0#64)++(AH 1#64)++(AH 1#64)++(AH 0#64)
theorem Jj(k:r)(h:Hid r→g:=by intro h;refine A2 (BR sU AN) AK rfl ?_;exact h.out):g:=h ⟨k⟩
theorem HU(k:r)(h:Hid r→g:=by intro h;refine B0 rfl rfl rfl rfl XU C7 C7 AK ?_;exact h.out):g:=h ⟨k⟩
theorem Wz(h:g:=by exact fS (Iy rfl rfl XX XU C7 D_) (by (kernel_rfl))):g:=h
theorem ge:Ev prog (.call 168 [] []) (.val (EE (Kz)) []):=by
 have hP:=Hid.mk (Kz.eq_1)
 refine AJ func168 rfl ntmps168 rfl AN ?_;refine AG ?_;refine Jj ?_;refine AM ?_;have hQ1:(AH 0#64).length=5:=Au
 have hQ2:(AH 1#64).length=5:=Au
 refine AG ?_;refine BL (DA 0#64) Gt ?_;refine BL (DA 1#64) Gt ?_;refine BL (DA 1#64) Gt ?_;refine BL (DA 0#64) Gt ?_;refine AA (oS rfl rfl rfl rfl (mW Hn Hn Hn Hn)) rfl ?_;refine HU ?_;refine A1 ?_;rw [hP.out]
 exact Wz
@[simp] theorem tV:(Kz).length=20:=by
 unfold Kz
 (simp (maxDischargeDepth:=9) [*];done)
attribute [irreducible] Kz
def KE(b:AB 8):AB 64:=NL (put b 31 ((nth b 31)&&&127#8))
def DW(b:AB 8):AB 64:=AF (KE b) (KE b)
def QO(b:AB 8):AB 64:=AF (Ak (DW b) (AH 1#64)) (Br (AU (AF AR (DW b)) (AH 1#64)))
def FM(b:AB 8):AB 64:=FF (QO b)
def Vj(b:AB 8):Bool:=Mt (QO b)
def kg(b:AB 8):Bool:=decide (AL (KE b)=put b 31 ((nth b 31)&&&127#8))
def sK(b:AB 8):Bool:=decide (AL (FM b)=AL (AH 0#64))
def ji(b:AB 8):Bool:=((nth b 31)>>>7)==1#8
@[simp] theorem yZ(b:AB 8)(hb:b.length=32):(KE b).length=5:=by unfold KE;simp (maxDischargeDepth:=9) [hb]
@[simp] theorem wC(b:AB 8)(hb:b.length=32):(DW b).length=5:=by unfold DW;simp (maxDischargeDepth:=9) [hb]
@[simp] theorem xv(b:AB 8)(hb:b.length=32):(QO b).length=5:=by unfold QO;simp (maxDischargeDepth:=9) [hb]
@[simp] theorem yg(b:AB 8)(hb:b.length=32):(FM b).length=5:=by unfold FM;simp (maxDischargeDepth:=9) [hb]
theorem UQ(b:AB 8)(hb:b.length=32):Ev prog (.call 154 [Co (put b 31 ((nth b 31)&&&127#8))] []) (.val (EE (KE b)) []):=Xg _ (by simp (maxDischargeDepth:=9) [hb])
theorem TA(b:AB 8)(hb:b.length=32):Ev prog (.call 158 [EE (KE b),EE (KE b)] []) (.val (EE (DW b)) []):=Bd _ _ (by simp (maxDischargeDepth:=9) [hb]) (by simp (maxDischargeDepth:=9) [hb])
theorem TM(b:AB 8)(hb:b.length=32):Ev prog (.call 158 [EE (Ak (DW b) (AH 1#64)),EE (Br (AU (AF AR (DW b)) (AH 1#64)))] []) (.val (EE (QO b)) []):=Bd _ _ (by simp (maxDischargeDepth:=9) [hb]) (by simp (maxDischargeDepth:=9) [hb])
theorem O4(b:AB 8)(r:Bool)(hr:Vj b=r)(hb:b.length=32):Ev prog (.call 164 [EE (QO b)] []) (.val (.tup [EE (FM b),.c (.val (.bool r))]) []):=by
 rw [←hr]
 exact gv _ (by simp (maxDischargeDepth:=9) [hb])
theorem WL(b:AB 8)(r:Bool)(hr:sK b=r)(hb:b.length=32):Ev prog (.call 166 [EE (FM b),EE (AH 0#64)] []) (.val (.c (.val (.bool r))) []):=by
 rw [←hr]
 exact RM _ _ (by simp (maxDischargeDepth:=9) [hb]) (by simp)
theorem UD{b:AB 8}{r:Bool}(h:kg b=r):(!decide (AL (KE b)=put b 31 ((nth b 31)&&&127#8)))= !r:=by rw [←h];rfl
theorem du{b:AB 8}{r:Bool}(h:ji b=r):(((nth b 31)>>>7)==1#8)=r:=h
attribute [irreducible] KE DW QO FM Vj kg sK ji
def Xw:AB 64:=Af 20
theorem Ul(k:r)(h:Hid r→g:=by intro h;refine AJ func126 rfl ntmps126 rfl AN ?_;exact h.out):g:=h ⟨k⟩
theorem UZ(k:r)(h:Hid r→g:=by intro h;refine AA (Ql (j:=7) rfl rfl) rfl ?_;exact h.out):g:=h ⟨k⟩
theorem Uz(k:r)(h:Hid r→g:=by intro h;refine AE (Yu rfl rfl underlying37 underlying5 CE C7 C7) rfl ?_;exact h.out):g:=h ⟨k⟩
theorem Uc(h:g:=by exact qB (Iy rfl rfl XX XU C7 D_) (Dt rfl) (by (kernel_rfl))):g:=h
theorem oN(b:AB 8)(hb:b.length=32)(hC:kg b=false):Ev prog (.call 126 [Co (b)] []) (.val (.tup [EE (Xw),.c (.val (.bool (false)))]) []):=by
 have hP_cvUnA0:Hid (Xw=Af 20):=⟨rfl⟩
 refine Ul ?_;refine Bk ?_;refine Jj ?_;refine Ad ?_;refine Hg ?_;refine UZ ?_;refine R0 ?_;refine Ad ?_;refine Hg ?_;refine Pv ?_;refine Nz ?_;refine Cq ?_;refine AM ?_;have hQ1:(KE b).length=5:=Au
 refine DV ?_;refine BL (UQ b hb) Pd ?_;refine C2 ?_;refine Du ?_;have hQ2:(AL (KE b)).length=32:=Au
 refine S_ ?_;refine Jk ?_;refine Ck ?_;refine At (EA (KE b) AD) Ka ?_;refine FZ ?_;refine Uz ?_;refine GN ?_;refine EH rfl (UD hC) ?_;refine AG ?_;refine AA (cg de) rfl ?_;refine HU ?_;refine A7 ?_;rw [hP_cvUnA0.out]
 exact Uc
attribute [irreducible] Xw
def Yr:AB 64:=Af 20
theorem XG(k:r)(h:Hid r→g:=by intro h;refine cT 15 13 mixed K_ K_ rfl rfl rfl ?_;exact h.out):g:=h ⟨k⟩
theorem LA(k:r)(h:Hid r→g:=by intro h;refine At (DA 1#64) Gt ?_;exact h.out):g:=h ⟨k⟩
theorem mt(b:AB 8)(hb:b.length=32)(hC:kg b=true)(hR:Vj b=false):Ev prog (.call 126 [Co (b)] []) (.val (.tup [EE (Yr),.c (.val (.bool (false)))]) []):=by
 have hP_cvUnB0:Hid (Yr=Af 20):=⟨rfl⟩
 refine Ul ?_;refine Bk ?_;refine Jj ?_;refine Ad ?_;refine Hg ?_;refine UZ ?_;refine R0 ?_;refine Ad ?_;refine Hg ?_;refine Pv ?_;refine Nz ?_;refine Cq ?_;refine AM ?_;have hQ1:(KE b).length=5:=Au
 refine DV ?_;refine BL (UQ b hb) Pd ?_;refine C2 ?_;refine Du ?_;have hQ2:(AL (KE b)).length=32:=Au
 refine S_ ?_;refine Jk ?_;refine Ck ?_;refine At (EA (KE b) AD) Ka ?_;refine FZ ?_;refine Uz ?_;refine GN ?_;refine Bn rfl (UD hC) ?_;have hQ3:(DW b).length=5:=Au
 refine IW ?_;refine F3 ?_;refine BL (TA b hb) BW ?_;refine C2 ?_;refine Du ?_;have hQ4:(AH 1#64).length=5:=Au
 have hQ5:(Ak (DW b) (AH 1#64)).length=5:=Au
 have hQ6:(AR).length=5:=Au
 have hQ7:(AF AR (DW b)).length=5:=Au
 have hQ8:(AU (AF AR (DW b)) (AH 1#64)).length=5:=Au
 have hQ9:(Br (AU (AF AR (DW b)) (AH 1#64))).length=5:=Au
 have hQ10:(QO b).length=5:=Au
 have hQ11:(FM b).length=5:=Au
 refine S_ ?_;refine XG ?_;refine Ck ?_;refine LA ?_;refine At (FP (DW b) (AH 1#64) AD AD) GY ?_;refine At (JI) SL ?_;refine Ck ?_;refine At (Bd AR (DW b) AD AD) BW ?_;refine LA ?_;refine At (FS (AF AR (DW b)) (AH 1#64) AD AD) G3 ?_;refine At (Lh (AU (AF AR (DW b)) (AH 1#64)) AD) RV ?_;refine At (TM b hb) BW ?_;refine At (O4 b false hR hb) Xu ?_;refine Kt ?_;refine J9 ?_;refine Hj ?_;refine GI ?_;refine A7 ?_;refine RG ?_;refine A0 ?_;refine AE (Jl rfl) rfl ?_;refine A0 ?_;refine L5 Vh ?_;refine L5 Vh ?_;refine L5 Vh ?_;refine L5 Vh ?_;refine L5 Vh ?_;refine L5 Vh ?_;refine AE (My rfl gn rfl) rfl ?_;refine Bc ?_;refine AS ?_;refine AA (cg de) rfl ?_;refine HU ?_;refine A7 ?_;rw [hP_cvUnB0.out]
 exact Uc
attribute [irreducible] Yr
def YI:AB 64:=Af 20
theorem OT(k:r)(h:Hid r→g:=by intro h;refine AE (Ah rfl) rfl ?_;refine Km Vh ?_;exact h.out):g:=h ⟨k⟩
theorem R5(k:r)(h:Hid r→g:=by intro h;refine AE (PC rfl gn rfl) rfl ?_;exact h.out):g:=h ⟨k⟩
theorem kX(b:AB 8)(hb:b.length=32)(hC:kg b=true)(hR:Vj b=true)(hO:ji b=true)(hZ:sK b=true):Ev prog (.call 126 [Co (b)] []) (.val (.tup [EE (YI),.c (.val (.bool (false)))]) []):=by
 have hP_cvUnD0:Hid (YI=Af 20):=⟨rfl⟩
 refine Ul ?_;refine Bk ?_;refine Jj ?_;refine Bv ?_;have hE1:((((nth b 31)>>>7)==1#8))=true:=du hO
 refine AG ?_;refine Hg ?_;refine UZ ?_;refine AA (cF (Ys (b:=1#8) rfl rfl) hE1) rfl ?_;refine Ad ?_;refine Hg ?_;refine Pv ?_;refine Nz ?_;refine Cq ?_;refine AM ?_;have hQ2:(KE b).length=5:=Au
 refine DV ?_;refine BL (UQ b hb) Pd ?_;refine C2 ?_;refine Du ?_;have hQ3:(AL (KE b)).length=32:=Au
 refine S_ ?_;refine Jk ?_;refine Ck ?_;refine At (EA (KE b) AD) Ka ?_;refine FZ ?_;refine Uz ?_;refine GN ?_;refine Bn rfl (UD hC) ?_;have hQ4:(DW b).length=5:=Au
 refine IW ?_;refine F3 ?_;refine BL (TA b hb) BW ?_;refine C2 ?_;refine Du ?_;have hQ5:(AH 1#64).length=5:=Au
 have hQ6:(Ak (DW b) (AH 1#64)).length=5:=Au
 have hQ7:(AR).length=5:=Au
 have hQ8:(AF AR (DW b)).length=5:=Au
 have hQ9:(AU (AF AR (DW b)) (AH 1#64)).length=5:=Au
 have hQ10:(Br (AU (AF AR (DW b)) (AH 1#64))).length=5:=Au
 have hQ11:(QO b).length=5:=Au
 have hQ12:(FM b).length=5:=Au
 refine S_ ?_;refine XG ?_;refine Ck ?_;refine LA ?_;refine At (FP (DW b) (AH 1#64) AD AD) GY ?_;refine At (JI) SL ?_;refine Ck ?_;refine At (Bd AR (DW b) AD AD) BW ?_;refine LA ?_;refine At (FS (AF AR (DW b)) (AH 1#64) AD AD) G3 ?_;refine At (Lh (AU (AF AR (DW b)) (AH 1#64)) AD) RV ?_;refine At (TM b hb) BW ?_;refine At (O4 b true hR hb) Xu ?_;refine Kt ?_;refine J9 ?_;refine Hj ?_;refine GI ?_;refine Bv ?_;have hQ13:(AH 0#64).length=5:=Au
 refine S_ ?_;refine RG ?_;refine A0 ?_;refine AE (Jl rfl) rfl ?_;refine OT ?_;refine OT ?_;refine OT ?_;refine Ck ?_;refine Km Vh ?_;refine At (DA 0#64) Gt ?_;refine Km Vh ?_;refine At (WL b true hZ hb) XB ?_;refine Km Vh ?_;refine AE (My rfl gn rfl) rfl ?_;refine R5 ?_;refine Bc ?_;refine AS ?_;refine AA (cg de) rfl ?_;refine HU ?_;refine A7 ?_;rw [hP_cvUnD0.out]
 exact Uc
attribute [irreducible] YI
def Ns(b:AB 8):AB 64:=(if (!((((nth (AL (FM b)) 0)&&&1#8)==1#8)==false))=true then Ak (AH 0#64) (FM b) else FM b)++(KE b)++(AH 1#64)++(AF (if (!((((nth (AL (FM b)) 0)&&&1#8)==1#8)==false))=true then Ak (AH 0#64) (FM b) else FM b) (KE b))
theorem cY(k:r)(h:Hid r→g:=by intro h;refine AE (oS rfl rfl rfl rfl (mW Hn Hn Hn Hn)) rfl ?_;exact h.out):g:=h ⟨k⟩
theorem lL(b:AB 8)(hb:b.length=32)(hC:kg b=true)(hR:Vj b=true)(hO:ji b=false):Ev prog (.call 126 [Co (b)] []) (.val (.tup [EE (Ns b),.c (.val (.bool (true)))]) []):=by
 have hP_cvUnE0:Hid (Ns b=(if (!((((nth (AL (FM b)) 0)&&&1#8)==1#8)==false))=true then Ak (AH 0#64) (FM b) else FM b)++(KE b)++(AH 1#64)++(AF (if (!((((nth (AL (FM b)) 0)&&&1#8)==1#8)==false))=true then Ak (AH 0#64) (FM b) else FM b) (KE b))):=⟨rfl⟩
 refine Ul ?_;refine Bk ?_;refine Jj ?_;refine Bv ?_;have hE1:((((nth b 31)>>>7)==1#8))=false:=du hO
 refine AG ?_;refine Hg ?_;refine UZ ?_;refine AA (cF (Ys (b:=1#8) rfl rfl) hE1) rfl ?_;refine Ad ?_;refine Hg ?_;refine Pv ?_;refine Nz ?_;refine Cq ?_;refine AM ?_;have hQ2:(KE b).length=5:=Au
 refine DV ?_;refine BL (UQ b hb) Pd ?_;refine C2 ?_;refine Du ?_;have hQ3:(AL (KE b)).length=32:=Au
 refine S_ ?_;refine Jk ?_;refine Ck ?_;refine At (EA (KE b) AD) Ka ?_;refine FZ ?_;refine Uz ?_;refine GN ?_;refine Bn rfl (UD hC) ?_;have hQ4:(DW b).length=5:=Au
 refine IW ?_;refine F3 ?_;refine BL (TA b hb) BW ?_;refine C2 ?_;refine Du ?_;have hQ5:(AH 1#64).length=5:=Au
 have hQ6:(Ak (DW b) (AH 1#64)).length=5:=Au
 have hQ7:(AR).length=5:=Au
 have hQ8:(AF AR (DW b)).length=5:=Au
 have hQ9:(AU (AF AR (DW b)) (AH 1#64)).length=5:=Au
 have hQ10:(Br (AU (AF AR (DW b)) (AH 1#64))).length=5:=Au
 have hQ11:(QO b).length=5:=Au
 have hQ12:(FM b).length=5:=Au
 refine S_ ?_;refine XG ?_;refine Ck ?_;refine LA ?_;refine At (FP (DW b) (AH 1#64) AD AD) GY ?_;refine At (JI) SL ?_;refine Ck ?_;refine At (Bd AR (DW b) AD AD) BW ?_;refine LA ?_;refine At (FS (AF AR (DW b)) (AH 1#64) AD AD) G3 ?_;refine At (Lh (AU (AF AR (DW b)) (AH 1#64)) AD) RV ?_;refine At (TM b hb) BW ?_;refine At (O4 b true hR hb) Xu ?_;refine Kt ?_;refine J9 ?_;refine Hj ?_;refine GI ?_;refine A7 ?_;refine RG ?_;refine A0 ?_;refine AE (Jl rfl) rfl ?_;refine OT ?_;refine OT ?_;refine A0 ?_;refine L5 Vh ?_;refine L5 Vh ?_;refine L5 Vh ?_;refine Km Vh ?_;refine R5 ?_;refine R5 ?_;refine Bc ?_;refine AS ?_;refine F3 ?_;refine BL (Tu (FM b) AD) dP ?_;refine AO ?_;refine AA (kO rfl rfl underlying4) rfl ?_;refine E6 ?_;refine Id [2,5,7] (fun (zz:AB 64)=>⟨66,AQ [2,5,7] [Ai 0,Ai 1,Ai 2],[CA (Af 20),CA (KE b),CA (zz)]⟩) (if (!((((nth (AL (FM b)) 0)&&&1#8)==1#8)==false))=true then Ak (AH 0#64) (FM b) else FM b) rfl (fun hb=>?_) (fun hb=>?_) ?_
 ·have hQ14:(AH 0#64).length=5:=Au
  have hQ15:(Ak (AH 0#64) (FM b)).length=5:=Au
  refine S_ ?_;refine Pq ?_;refine At (DA 0#64) Gt ?_;refine Ck ?_;refine At (FP (AH 0#64) (FM b) AD AD) GY ?_;refine GI ?_;refine A1 ?_;refine ⟨(Ak (AH 0#64) (FM b)),K_,?_⟩
  rw [if_pos (hb)]
 ·refine S_ ?_
  refine ⟨(FM b),K_,?_⟩
  rw [if_neg (by (rw [hb];decide))]
 have hJ13:(if (!((((nth (AL (FM b)) 0)&&&1#8)==1#8)==false))=true then Ak (AH 0#64) (FM b) else FM b).length=5:=by split<;>simp [*]
 generalize (if (!((((nth (AL (FM b)) 0)&&&1#8)==1#8)==false))=true then Ak (AH 0#64) (FM b) else FM b)=J13 at*
 have hQ16:(AH 1#64).length=5:=Au
 have hQ17:(AF J13 (KE b)).length=5:=Au
 refine S_ ?_;refine Yp ?_;refine CV ?_;refine LA ?_;refine CV ?_;refine At (Bd J13 (KE b) AD AD) BW ?_;refine cY ?_;refine Bc ?_;refine HU ?_;refine A7 ?_;rw [hP_cvUnE0.out]
 exact Uc
@[simp] theorem cU(b:AB 8)(hb:b.length=32):(Ns b).length=20:=by
 unfold Ns
 (split<;>(simp (maxDischargeDepth:=9) [*];done))
attribute [irreducible] Ns
def N2(b:AB 8):AB 64:=(if (!((((nth (AL (FM b)) 0)&&&1#8)==1#8)==true))=true then Ak (AH 0#64) (FM b) else FM b)++(KE b)++(AH 1#64)++(AF (if (!((((nth (AL (FM b)) 0)&&&1#8)==1#8)==true))=true then Ak (AH 0#64) (FM b) else FM b) (KE b))
theorem jw(b:AB 8)(hb:b.length=32)(hC:kg b=true)(hR:Vj b=true)(hO:ji b=true)(hZ:sK b=false):Ev prog (.call 126 [Co (b)] []) (.val (.tup [EE (N2 b),.c (.val (.bool (true)))]) []):=by
 have hP_cvUnF0:Hid (N2 b=(if (!((((nth (AL (FM b)) 0)&&&1#8)==1#8)==true))=true then Ak (AH 0#64) (FM b) else FM b)++(KE b)++(AH 1#64)++(AF (if (!((((nth (AL (FM b)) 0)&&&1#8)==1#8)==true))=true then Ak (AH 0#64) (FM b) else FM b) (KE b))):=⟨rfl⟩
 refine Ul ?_;refine Bk ?_;refine Jj ?_;refine Bv ?_;have hE1:((((nth b 31)>>>7)==1#8))=true:=du hO
 refine AG ?_;refine Hg ?_;refine UZ ?_;refine AA (cF (Ys (b:=1#8) rfl rfl) hE1) rfl ?_;refine Ad ?_;refine Hg ?_;refine Pv ?_;refine Nz ?_;refine Cq ?_;refine AM ?_;have hQ2:(KE b).length=5:=Au
 refine DV ?_;refine BL (UQ b hb) Pd ?_;refine C2 ?_;refine Du ?_;have hQ3:(AL (KE b)).length=32:=Au
 refine S_ ?_;refine Jk ?_;refine Ck ?_;refine At (EA (KE b) AD) Ka ?_;refine FZ ?_;refine Uz ?_;refine GN ?_;refine Bn rfl (UD hC) ?_;have hQ4:(DW b).length=5:=Au
 refine IW ?_;refine F3 ?_;refine BL (TA b hb) BW ?_;refine C2 ?_;refine Du ?_;have hQ5:(AH 1#64).length=5:=Au
 have hQ6:(Ak (DW b) (AH 1#64)).length=5:=Au
 have hQ7:(AR).length=5:=Au
 have hQ8:(AF AR (DW b)).length=5:=Au
 have hQ9:(AU (AF AR (DW b)) (AH 1#64)).length=5:=Au
 have hQ10:(Br (AU (AF AR (DW b)) (AH 1#64))).length=5:=Au
 have hQ11:(QO b).length=5:=Au
 have hQ12:(FM b).length=5:=Au
 refine S_ ?_;refine XG ?_;refine Ck ?_;refine LA ?_;refine At (FP (DW b) (AH 1#64) AD AD) GY ?_;refine At (JI) SL ?_;refine Ck ?_;refine At (Bd AR (DW b) AD AD) BW ?_;refine LA ?_;refine At (FS (AF AR (DW b)) (AH 1#64) AD AD) G3 ?_;refine At (Lh (AU (AF AR (DW b)) (AH 1#64)) AD) RV ?_;refine At (TM b hb) BW ?_;refine At (O4 b true hR hb) Xu ?_;refine Kt ?_;refine J9 ?_;refine Hj ?_;refine GI ?_;refine Bv ?_;have hQ13:(AH 0#64).length=5:=Au
 refine S_ ?_;refine RG ?_;refine A0 ?_;refine AE (Jl rfl) rfl ?_;refine OT ?_;refine OT ?_;refine OT ?_;refine Ck ?_;refine Km Vh ?_;refine At (DA 0#64) Gt ?_;refine Km Vh ?_;refine At (WL b false hZ hb) XB ?_;refine Km Vh ?_;refine AE (My rfl gn rfl) rfl ?_;refine R5 ?_;refine Bc ?_;refine AS ?_;refine F3 ?_;refine BL (Tu (FM b) AD) dP ?_;refine AO ?_;refine AA (kO rfl rfl underlying4) rfl ?_;refine E6 ?_;refine Id [2,5,7] (fun (zz:AB 64)=>⟨66,AQ [2,5,7] [Ai 0,Ai 1,Ai 2],[CA (Af 20),CA (KE b),CA (zz)]⟩) (if (!((((nth (AL (FM b)) 0)&&&1#8)==1#8)==true))=true then Ak (AH 0#64) (FM b) else FM b) rfl (fun hb=>?_) (fun hb=>?_) ?_
 ·have hQ15:(AH 0#64).length=5:=Au
  have hQ16:(Ak (AH 0#64) (FM b)).length=5:=Au
  refine S_ ?_;refine Pq ?_;refine At (DA 0#64) Gt ?_;refine Ck ?_;refine At (FP (AH 0#64) (FM b) AD AD) GY ?_;refine GI ?_;refine A1 ?_;refine ⟨(Ak (AH 0#64) (FM b)),K_,?_⟩
  rw [if_pos (hb)]
 ·refine S_ ?_
  refine ⟨(FM b),K_,?_⟩
  rw [if_neg (by (rw [hb];decide))]
 have hJ14:(if (!((((nth (AL (FM b)) 0)&&&1#8)==1#8)==true))=true then Ak (AH 0#64) (FM b) else FM b).length=5:=by split<;>simp [*]
 generalize (if (!((((nth (AL (FM b)) 0)&&&1#8)==1#8)==true))=true then Ak (AH 0#64) (FM b) else FM b)=J14 at*
 have hQ17:(AH 1#64).length=5:=Au
 have hQ18:(AF J14 (KE b)).length=5:=Au
 refine S_ ?_;refine Yp ?_;refine CV ?_;refine LA ?_;refine CV ?_;refine At (Bd J14 (KE b) AD AD) BW ?_;refine cY ?_;refine Bc ?_;refine HU ?_;refine A7 ?_;rw [hP_cvUnF0.out]
 exact Uc
@[simp] theorem dC(b:AB 8)(hb:b.length=32):(N2 b).length=20:=by
 unfold N2
 (split<;>(simp (maxDischargeDepth:=9) [*];done))
attribute [irreducible] N2
def PG(b:AB 8):Bool:=kg b&&(Vj b&& !(ji b&&sK b))
def WF(b:AB 8):AB 64:=if PG b=true then (if ji b=true then N2 b else Ns b) else Af 20
@[simp] theorem yj(b:AB 8)(hb:b.length=32):(WF b).length=20:=by
 unfold WF
 split
 ·split
  ·exact dC b hb
  ·exact cU b hb
 ·exact List.length_replicate ..
theorem wn(b:AB 8)(hb:b.length=32):Ev prog (.call 126 [Co (b)] []) (.val (.tup [EE (WF b),.c (.val (.bool (PG b)))]) []):=by
 cases hC:kg b with
 |false=>
  have e:PG b=false:=by unfold PG;rw [hC];rfl
  have e2:WF b=Af 20:=by unfold WF;rw [e];rfl
  have h:=oN b hb hC
  unfold Xw at h
  rw [e,e2];exact h
 |true=>
  cases hR:Vj b with
  |false=>
   have e:PG b=false:=by unfold PG;rw [hC,hR];rfl
   have e2:WF b=Af 20:=by unfold WF;rw [e];rfl
   have h:=mt b hb hC hR
   unfold Yr at h
   rw [e,e2];exact h
  |true=>
   cases hO:ji b with
   |false=>
    have e:PG b=true:=by unfold PG;rw [hC,hR,hO];rfl
    have e2:WF b=Ns b:=by unfold WF;rw [e,hO];rfl
    rw [e,e2];exact lL b hb hC hR hO
   |true=>
    cases hZ:sK b with
    |true=>
     have e:PG b=false:=by unfold PG;rw [hC,hR,hO,hZ];rfl
     have e2:WF b=Af 20:=by unfold WF;rw [e];rfl
     have h:=kX b hb hC hR hO hZ
     unfold YI at h
     rw [e,e2];exact h
    |false=>
     have e:PG b=true:=by unfold PG;rw [hC,hR,hO,hZ];rfl
     have e2:WF b=N2 b:=by unfold WF;rw [e,hO];rfl
     rw [e,e2];exact jw b hb hC hR hO hZ
def Cn(p q k:AB 64):AB 64:=(AF (Ak (AF (AU (cut p 5 5) (cut p 0 5)) (AU (cut q 5 5) (cut q 0 5))) (AF (Ak (cut p 5 5) (cut p 0 5)) (Ak (cut q 5 5) (cut q 0 5)))) (Ak (AF (AU (cut p 10 5) (cut p 10 5)) (cut q 10 5)) (AF (AF k (cut p 15 5)) (cut q 15 5))))++(AF (AU (AF (AU (cut p 10 5) (cut p 10 5)) (cut q 10 5)) (AF (AF k (cut p 15 5)) (cut q 15 5))) (AU (AF (AU (cut p 5 5) (cut p 0 5)) (AU (cut q 5 5) (cut q 0 5))) (AF (Ak (cut p 5 5) (cut p 0 5)) (Ak (cut q 5 5) (cut q 0 5)))))++(AF (Ak (AF (AU (cut p 10 5) (cut p 10 5)) (cut q 10 5)) (AF (AF k (cut p 15 5)) (cut q 15 5))) (AU (AF (AU (cut p 10 5) (cut p 10 5)) (cut q 10 5)) (AF (AF k (cut p 15 5)) (cut q 15 5))))++(AF (Ak (AF (AU (cut p 5 5) (cut p 0 5)) (AU (cut q 5 5) (cut q 0 5))) (AF (Ak (cut p 5 5) (cut p 0 5)) (Ak (cut q 5 5) (cut q 0 5)))) (AU (AF (AU (cut p 5 5) (cut p 0 5)) (AU (cut q 5 5) (cut q 0 5))) (AF (Ak (cut p 5 5) (cut p 0 5)) (Ak (cut q 5 5) (cut q 0 5)))))
theorem HY(k:r)(h:Hid r→g:=by intro h;refine AE (WM rfl rfl Fd E9 Wo D_) rfl ?_;exact h.out):g:=h ⟨k⟩
theorem V6(p q k:AB 64)(hp:p.length=20)(hq:q.length=20)(hk:k.length=5):Ev prog (.call 169 [EE (p),EE (q),EE (k)] []) (.val (EE (Cn p q k)) []):=by
 have hP:=Hid.mk (Cn.eq_1 p q k)
 refine AJ func169 rfl ntmps169 rfl AN ?_;refine B5 ?_;refine bp ?_;refine Jj ?_;refine AM ?_;have hQ1:(cut p 5 5).length=5:=Au
 have hQ2:(cut p 0 5).length=5:=Au
 have hQ3:(Ak (cut p 5 5) (cut p 0 5)).length=5:=Au
 have hQ4:(cut q 5 5).length=5:=Au
 have hQ5:(cut q 0 5).length=5:=Au
 have hQ6:(Ak (cut q 5 5) (cut q 0 5)).length=5:=Au
 have hQ7:(AF (Ak (cut p 5 5) (cut p 0 5)) (Ak (cut q 5 5) (cut q 0 5))).length=5:=Au
 refine S_ ?_;refine L4 ?_;refine AE (Ab rfl (N7 _ _)) rfl ?_;refine HY ?_;refine AE (Ab rfl (OL _ _)) rfl ?_;refine HY ?_;refine At (FP (cut p 5 5) (cut p 0 5) AD AD) GY ?_;refine AE (Ab rfl (N7 _ _)) rfl ?_;refine HY ?_;refine AE (Ab rfl (OL _ _)) rfl ?_;refine HY ?_;refine At (FP (cut q 5 5) (cut q 0 5) AD AD) GY ?_;refine At (Bd (Ak (cut p 5 5) (cut p 0 5)) (Ak (cut q 5 5) (cut q 0 5)) AD AD) BW ?_;refine Hj ?_;refine Bc ?_;refine Du ?_;have hQ8:(cut p 5 5).length=5:=Au
 have hQ9:(cut p 0 5).length=5:=Au
 have hQ10:(AU (cut p 5 5) (cut p 0 5)).length=5:=Au
 have hQ11:(cut q 5 5).length=5:=Au
 have hQ12:(cut q 0 5).length=5:=Au
 have hQ13:(AU (cut q 5 5) (cut q 0 5)).length=5:=Au
 have hQ14:(AF (AU (cut p 5 5) (cut p 0 5)) (AU (cut q 5 5) (cut q 0 5))).length=5:=Au
 refine S_ ?_;refine L4 ?_;refine AE (Ab rfl (N7 _ _)) rfl ?_;refine HY ?_;refine AE (Ab rfl (OL _ _)) rfl ?_;refine HY ?_;refine At (FS (cut p 5 5) (cut p 0 5) AD AD) G3 ?_;refine AE (Ab rfl (N7 _ _)) rfl ?_;refine HY ?_;refine AE (Ab rfl (OL _ _)) rfl ?_;refine HY ?_;refine At (FS (cut q 5 5) (cut q 0 5) AD AD) G3 ?_;refine At (Bd (AU (cut p 5 5) (cut p 0 5)) (AU (cut q 5 5) (cut q 0 5)) AD AD) BW ?_;refine Hj ?_;refine Bc ?_;refine Du ?_;have hQ15:(cut p 15 5).length=5:=Au
 have hQ16:(AF k (cut p 15 5)).length=5:=Au
 have hQ17:(cut q 15 5).length=5:=Au
 have hQ18:(AF (AF k (cut p 15 5)) (cut q 15 5)).length=5:=Au
 refine S_ ?_;refine QA ?_;refine Ck ?_;refine AE (Ab rfl (aS _ _)) rfl ?_;refine HY ?_;refine At (Bd k (cut p 15 5) AD AD) BW ?_;refine AE (Ab rfl (aS _ _)) rfl ?_;refine HY ?_;refine At (Bd (AF k (cut p 15 5)) (cut q 15 5) AD AD) BW ?_;refine Hj ?_;refine Bc ?_;refine Du ?_;have hQ19:(cut p 10 5).length=5:=Au
 have hQ20:(AU (cut p 10 5) (cut p 10 5)).length=5:=Au
 have hQ21:(cut q 10 5).length=5:=Au
 have hQ22:(AF (AU (cut p 10 5) (cut p 10 5)) (cut q 10 5)).length=5:=Au
 refine S_ ?_;refine KA ?_;refine AE (Ab rfl (Qb _ _)) rfl ?_;refine HY ?_;refine AE (Ab rfl (Qb _ _)) rfl ?_;refine HY ?_;refine At (FS (cut p 10 5) (cut p 10 5) AD AD) G3 ?_;refine AE (Ab rfl (Qb _ _)) rfl ?_;refine HY ?_;refine At (Bd (AU (cut p 10 5) (cut p 10 5)) (cut q 10 5) AD AD) BW ?_;refine Hj ?_;refine Bc ?_;refine Du ?_;have hQ23:(Ak (AF (AU (cut p 5 5) (cut p 0 5)) (AU (cut q 5 5) (cut q 0 5))) (AF (Ak (cut p 5 5) (cut p 0 5)) (Ak (cut q 5 5) (cut q 0 5)))).length=5:=Au
 have hQ24:(Ak (AF (AU (cut p 10 5) (cut p 10 5)) (cut q 10 5)) (AF (AF k (cut p 15 5)) (cut q 15 5))).length=5:=Au
 have hQ25:(AU (AF (AU (cut p 10 5) (cut p 10 5)) (cut q 10 5)) (AF (AF k (cut p 15 5)) (cut q 15 5))).length=5:=Au
 have hQ26:(AU (AF (AU (cut p 5 5) (cut p 0 5)) (AU (cut q 5 5) (cut q 0 5))) (AF (Ak (cut p 5 5) (cut p 0 5)) (Ak (cut q 5 5) (cut q 0 5)))).length=5:=Au
 refine S_ ?_;refine OS ?_;refine CV ?_;refine At (FP (AF (AU (cut p 5 5) (cut p 0 5)) (AU (cut q 5 5) (cut q 0 5))) (AF (Ak (cut p 5 5) (cut p 0 5)) (Ak (cut q 5 5) (cut q 0 5))) AD AD) GY ?_;refine CV ?_;refine At (FP (AF (AU (cut p 10 5) (cut p 10 5)) (cut q 10 5)) (AF (AF k (cut p 15 5)) (cut q 15 5)) AD AD) GY ?_;refine CV ?_;refine At (FS (AF (AU (cut p 10 5) (cut p 10 5)) (cut q 10 5)) (AF (AF k (cut p 15 5)) (cut q 15 5)) AD AD) G3 ?_;refine CV ?_;refine At (FS (AF (AU (cut p 5 5) (cut p 0 5)) (AU (cut q 5 5) (cut q 0 5))) (AF (Ak (cut p 5 5) (cut p 0 5)) (Ak (cut q 5 5) (cut q 0 5))) AD AD) G3 ?_;refine Hj ?_;refine Hj ?_;refine Hj ?_;refine Hj ?_;refine GI ?_;refine Gd ?_;refine Gd ?_;refine Du ?_;have hQ27:(AF (Ak (AF (AU (cut p 5 5) (cut p 0 5)) (AU (cut q 5 5) (cut q 0 5))) (AF (Ak (cut p 5 5) (cut p 0 5)) (Ak (cut q 5 5) (cut q 0 5)))) (Ak (AF (AU (cut p 10 5) (cut p 10 5)) (cut q 10 5)) (AF (AF k (cut p 15 5)) (cut q 15 5)))).length=5:=Au
 have hQ28:(AF (AU (AF (AU (cut p 10 5) (cut p 10 5)) (cut q 10 5)) (AF (AF k (cut p 15 5)) (cut q 15 5))) (AU (AF (AU (cut p 5 5) (cut p 0 5)) (AU (cut q 5 5) (cut q 0 5))) (AF (Ak (cut p 5 5) (cut p 0 5)) (Ak (cut q 5 5) (cut q 0 5))))).length=5:=Au
 have hQ29:(AF (Ak (AF (AU (cut p 10 5) (cut p 10 5)) (cut q 10 5)) (AF (AF k (cut p 15 5)) (cut q 15 5))) (AU (AF (AU (cut p 10 5) (cut p 10 5)) (cut q 10 5)) (AF (AF k (cut p 15 5)) (cut q 15 5)))).length=5:=Au
 have hQ30:(AF (Ak (AF (AU (cut p 5 5) (cut p 0 5)) (AU (cut q 5 5) (cut q 0 5))) (AF (Ak (cut p 5 5) (cut p 0 5)) (Ak (cut q 5 5) (cut q 0 5)))) (AU (AF (AU (cut p 5 5) (cut p 0 5)) (AU (cut q 5 5) (cut q 0 5))) (AF (Ak (cut p 5 5) (cut p 0 5)) (Ak (cut q 5 5) (cut q 0 5))))).length=5:=Au
 refine S_ ?_;refine Pp ?_;refine CV ?_;refine At (Bd (Ak (AF (AU (cut p 5 5) (cut p 0 5)) (AU (cut q 5 5) (cut q 0 5))) (AF (Ak (cut p 5 5) (cut p 0 5)) (Ak (cut q 5 5) (cut q 0 5)))) (Ak (AF (AU (cut p 10 5) (cut p 10 5)) (cut q 10 5)) (AF (AF k (cut p 15 5)) (cut q 15 5))) AD AD) BW ?_;refine CV ?_;refine At (Bd (AU (AF (AU (cut p 10 5) (cut p 10 5)) (cut q 10 5)) (AF (AF k (cut p 15 5)) (cut q 15 5))) (AU (AF (AU (cut p 5 5) (cut p 0 5)) (AU (cut q 5 5) (cut q 0 5))) (AF (Ak (cut p 5 5) (cut p 0 5)) (Ak (cut q 5 5) (cut q 0 5)))) AD AD) BW ?_;refine CV ?_;refine At (Bd (Ak (AF (AU (cut p 10 5) (cut p 10 5)) (cut q 10 5)) (AF (AF k (cut p 15 5)) (cut q 15 5))) (AU (AF (AU (cut p 10 5) (cut p 10 5)) (cut q 10 5)) (AF (AF k (cut p 15 5)) (cut q 15 5))) AD AD) BW ?_;refine CV ?_;refine At (Bd (Ak (AF (AU (cut p 5 5) (cut p 0 5)) (AU (cut q 5 5) (cut q 0 5))) (AF (Ak (cut p 5 5) (cut p 0 5)) (Ak (cut q 5 5) (cut q 0 5)))) (AU (AF (AU (cut p 5 5) (cut p 0 5)) (AU (cut q 5 5) (cut q 0 5))) (AF (Ak (cut p 5 5) (cut p 0 5)) (Ak (cut q 5 5) (cut q 0 5)))) AD AD) BW ?_;refine cY ?_;refine Bc ?_;refine HU ?_;refine A1 ?_;rw [hP.out]
 exact Wz
@[simp] theorem uG(p q k:AB 64)(hp:p.length=20)(hq:q.length=20)(hk:k.length=5):(Cn p q k).length=20:=by
 unfold Cn
 (simp (maxDischargeDepth:=9) [*];done)
attribute [irreducible] Cn
def I5(n:AB 8)(p X4:AB 64)(j3:Nat):AB 64:=(if ((((nth n ((255-j3)/8))>>>((255-j3)%8))&&&1#8)==1#8)=true then Cn (Cn X4 X4 (AU AR AR)) p (AU AR AR) else Cn X4 X4 (AU AR AR))
def CL(n:AB 8)(p:AB 64):Nat→AB 64
 |0=>Kz
 |j3+1=>I5 n p (CL n p j3) j3
theorem Jt(n:AB 8)(p:AB 64)(_hn:n.length=32)(hp:p.length=20)(j3:Nat):(CL n p j3).length=20:=by
 induction j3 with
 |zero=>(simp (maxDischargeDepth:=9) [CL, *];done)
 |succ j3 ih=>rw [CL.eq_2,I5];(split<;>first | (simp (maxDischargeDepth:=9) [ih];done) | (simp (maxDischargeDepth:=9) [ih];omega) | (simp (maxDischargeDepth:=9) [*];done))
def GG(n:AB 8)(p:AB 64):AB 64:=(CL n p 256)
theorem Rr(k:r)(h:Hid r→g:=by intro h;refine AA (Bi rfl rfl XX XU C7 D_) rfl ?_;exact h.out):g:=h ⟨k⟩
theorem dd(n:AB 8)(p:AB 64)(hn:n.length=32)(hp:p.length=20):Ev prog (.call 127 [Co (n),EE (p)] []) (.val (EE (GG n p)) []):=by
 have hP:=Hid.mk (GG.eq_1 n p)
 refine AJ func127 rfl ntmps127 rfl AN ?_;refine B5 ?_;refine Jj ?_;refine AM ?_;have hQ1:(Kz).length=20:=Au
 have hQ2:(AR).length=5:=Au
 have hQ3:(AU AR AR).length=5:=Au
 refine AG ?_;refine BL (ge) tI ?_;refine BL (JI) SL ?_;refine BL (JI) SL ?_;refine BL (FS AR AR AD AD) G3 ?_;refine Jj ?_;refine C2 ?_;refine HU ?_;refine Gd ?_;refine AS ?_;refine A7 ?_;refine AT [2,3,4,5,6,7] (fun (zz:Nat×AB 64)=>⟨34,AQ [2,3,4,5,6,7] [Ai 0,Ai 1,Ai 2,Ai 3,Ai 4,Aj (((255:Nat):Int)-((zz.1:Nat):Int))],[CP (n),CA (p),CA (Af 20),CA (zz.2),CA (AU AR AR)]⟩) (fun j3=>(j3,CL n p j3)) (256) K_ ?_ ?_
 ·intro j3 hj3
  try dsimp only
  have hX4:(CL n p j3).length=20:=by rw [Jt n p hn hp _];try omega
  rw [CL.eq_2,I5]
  generalize CL n p j3=X4 at*
  rw [show ((255:Nat):Int)-((j3:Nat):Int)=((255-j3:Nat):Int) from by omega]
  refine BC ?_;refine RA ?_;refine AM ?_;have hQ5:(Cn X4 X4 (AU AR AR)).length=20:=Au
  refine AG ?_;refine Rr ?_;refine Rr ?_;refine F3 ?_;refine BL (V6 X4 X4 (AU AR AR) AD AD AD) lM ?_;refine HU ?_;refine AW ?_;refine MW ?_;refine QB ?_;refine Fs ?_;refine AO ?_;refine NZ ?_;refine AA (Ql rfl rfl) rfl ?_;refine AA (Lr (b:=1#8) rfl rfl) rfl ?_;refine R0 ?_;refine E6 ?_;refine Id [2,3,4,5,6,7] (fun (zz:AB 64)=>⟨34,AQ [2,3,4,5,6,7] [Ai 0,Ai 1,Ai 2,Ai 3,Ai 4,Aj (((255-j3:Nat):Int))],[CP (n),CA (p),CA (Af 20),CA (zz),CA (AU AR AR)]⟩) (if ((((nth n ((255-j3)/8))>>>((255-j3)%8))&&&1#8)==1#8)=true then Cn (Cn X4 X4 (AU AR AR)) p (AU AR AR) else Cn X4 X4 (AU AR AR)) rfl (fun hb=>?_) (fun hb=>?_) ?_
  ·have hQ7:(Cn (Cn X4 X4 (AU AR AR)) p (AU AR AR)).length=20:=Au
   refine AG ?_;refine Rr ?_;refine Rr ?_;refine F3 ?_;refine BL (V6 (Cn X4 X4 (AU AR AR)) p (AU AR AR) AD AD AD) lM ?_;refine HU ?_;refine A1 ?_;refine ⟨(Cn (Cn X4 X4 (AU AR AR)) p (AU AR AR)),K_,?_⟩
   rw [if_pos (hb)]
  ·refine S_ ?_
   refine ⟨(Cn X4 X4 (AU AR AR)),K_,?_⟩
   rw [if_neg (by (rw [hb];decide))]
  have hJ6:(if ((((nth n ((255-j3)/8))>>>((255-j3)%8))&&&1#8)==1#8)=true then Cn (Cn X4 X4 (AU AR AR)) p (AU AR AR) else Cn X4 X4 (AU AR AR)).length=20:=by split<;>simp [*]
  generalize (if ((((nth n ((255-j3)/8))>>>((255-j3)%8))&&&1#8)==1#8)=true then Cn (Cn X4 X4 (AU AR AR)) p (AU AR AR) else Cn X4 X4 (AU AR AR))=J6 at*
  refine BC ?_;refine NG ?_;refine Bv ?_;refine ⟨(j3+1,_),(by
   dsimp only
   rw [show ((255:Nat):Int)-((j3+1:Nat):Int)=((255-j3:Nat):Int)-1 from by omega]
   kernel_rfl),rfl⟩
 ·try dsimp only
  have hY8:(CL n p 256).length=20:=by rw [Jt n p hn hp _];try omega
  generalize CL n p 256=Y8 at*
  refine BC ?_;refine PK ?_;refine AS ?_;refine Rr ?_;refine HU ?_;refine A1 ?_;rw [hP.out]
  exact Wz
@[simp] theorem rd(n:AB 8)(p:AB 64)(hn:n.length=32)(hp:p.length=20):(GG n p).length=20:=by
 unfold GG
 (simp (maxDischargeDepth:=9) [Jt, *];done)
attribute [irreducible] GG
def OE(X1:AB 8)(j3:Nat):AB 8:=put X1 (1+j3) 102#8
def D0:Nat→AB 8
 |0=>put (Am 32) 0 88#8
 |j3+1=>OE (D0 j3) j3
@[simp] theorem KY  (j3:Nat):(D0 j3).length=32:=by
 induction j3 with
 |zero=>(simp (maxDischargeDepth:=9) [D0, *];done)
 |succ j3 ih=>rw [D0.eq_2,OE];(simp (maxDischargeDepth:=9) [ih];done)
def Gh:AB 64:=WF (D0 31)
theorem iz:Ev prog (.call 132 [] []) (.val (EE (Gh)) []):=by
 have hP:=Hid.mk (Gh.eq_1)
 refine AJ func132 rfl ntmps132 rfl AN ?_;refine AG ?_;refine Jj ?_;refine AS ?_;refine AA (VJ (l:=(put (Am 32) 0 (88#8))) fC underlying37 CE rfl rfl) rfl ?_;refine EO ?_;refine AS ?_;refine A7 ?_;refine AT [0,1,2] (fun (zz:Nat×AB 8)=>⟨18,AQ [0,1,2] [Ai 0,Ai 1,Aj (((1+zz.1:Nat):Int))],[CA (Af 20),CP (zz.2)]⟩) (fun j3=>(j3,D0 j3)) (31) K_ ?_ ?_
 ·intro j3 hj3
  try dsimp only
  have hX1:(D0 j3).length=32:=by rw [KY _];try omega
  rw [D0.eq_2,OE]
  generalize D0 j3=X1 at*
  refine BC ?_;refine Rc ?_;refine AW ?_;refine QB ?_;refine aO (w:=102#8) rfl rfl rfl CE Dp AK ?_;refine AW ?_;refine DG ?_;exact ⟨(j3+1,_),K_,rfl⟩
 ·try dsimp only
  have hY2:(D0 31).length=32:=by rw [KY _];try omega
  generalize D0 31=Y2 at*
  refine BC ?_;refine Rn ?_;refine AM ?_;have hQ3:(WF Y2).length=20:=Au
  refine DV ?_;refine BL (wn Y2 AD) vM ?_;refine CD ?_;refine Jj ?_;refine HU ?_;refine Ad ?_;refine Rr ?_;refine HU ?_;refine A1 ?_;rw [hP.out]
  exact Wz
@[simp] theorem uz:(Gh).length=20:=by
 unfold Gh
 (simp (maxDischargeDepth:=9) [KY, *];done)
attribute [irreducible] Gh
def HF(p:AB 64):AB 8:=(if (((nth (AL (AF (cut p 0 5) (Br (cut p 10 5)))) 0)&&&1#8)==1#8)=true then put (AL (AF (cut p 5 5) (Br (cut p 10 5)))) 31 ((nth (AL (AF (cut p 5 5) (Br (cut p 10 5)))) 31) ||| 128#8) else AL (AF (cut p 5 5) (Br (cut p 10 5))))
theorem cD(k:r)(h:Hid r→g:=by intro h;refine AA (WM rfl rfl Fd E9 Wo D_) rfl ?_;exact h.out):g:=h ⟨k⟩
theorem Zi(p:AB 64)(hp:p.length=20):Ev prog (.call 128 [EE (p)] []) (.val (Co (HF p)) []):=by
 have hP:=Hid.mk (HF.eq_1 p)
 refine AJ func128 rfl ntmps128 rfl AN ?_;refine Bk ?_;refine E7 ?_;refine AM ?_;have hQ1:(cut p 10 5).length=5:=Au
 have hQ2:(Br (cut p 10 5)).length=5:=Au
 refine AG ?_;refine AA (Ab rfl (Qb _ _)) rfl ?_;refine cD ?_;refine BL (Lh (cut p 10 5) AD) RV ?_;refine C2 ?_;refine Du ?_;have hQ3:(cut p 5 5).length=5:=Au
 have hQ4:(AF (cut p 5 5) (Br (cut p 10 5))).length=5:=Au
 have hQ5:(AL (AF (cut p 5 5) (Br (cut p 10 5)))).length=32:=Au
 refine AG ?_;refine AA (Ab rfl (N7 _ _)) rfl ?_;refine cD ?_;refine F3 ?_;refine BL (Bd (cut p 5 5) (Br (cut p 10 5)) AD AD) BW ?_;refine BL (EA (AF (cut p 5 5) (Br (cut p 10 5))) AD) Ka ?_;refine EO ?_;refine AM ?_;have hQ6:(cut p 0 5).length=5:=Au
 have hQ7:(AF (cut p 0 5) (Br (cut p 10 5))).length=5:=Au
 refine AG ?_;refine AA (Ab rfl (OL _ _)) rfl ?_;refine cD ?_;refine F3 ?_;refine BL (Bd (cut p 0 5) (Br (cut p 10 5)) AD AD) BW ?_;refine BL (Tu (AF (cut p 0 5) (Br (cut p 10 5))) AD) dP ?_;refine E6 ?_;refine Id [2,4] (fun (zz:AB 8)=>⟨23,AQ [2,4] [Ai 0,Ai 1],[CP (Am 32),CP (zz)]⟩) (if (((nth (AL (AF (cut p 0 5) (Br (cut p 10 5)))) 0)&&&1#8)==1#8)=true then put (AL (AF (cut p 5 5) (Br (cut p 10 5)))) 31 ((nth (AL (AF (cut p 5 5) (Br (cut p 10 5)))) 31) ||| 128#8) else AL (AF (cut p 5 5) (Br (cut p 10 5)))) rfl (fun hb=>?_) (fun hb=>?_) ?_
 ·refine S_ ?_
  refine Ac ?_;refine Hg ?_;refine AA (bJ (b:=128#8) rfl rfl) rfl ?_;refine Nz ?_;refine Cq ?_;refine A1 ?_;refine ⟨(put (AL (AF (cut p 5 5) (Br (cut p 10 5)))) 31 ((nth (AL (AF (cut p 5 5) (Br (cut p 10 5)))) 31) ||| 128#8)),K_,?_⟩
  rw [if_pos (hb)]
 ·refine S_ ?_
  refine ⟨(AL (AF (cut p 5 5) (Br (cut p 10 5)))),K_,?_⟩
  rw [if_neg (by (rw [hb];decide))]
 have hJ8:(if (((nth (AL (AF (cut p 0 5) (Br (cut p 10 5)))) 0)&&&1#8)==1#8)=true then put (AL (AF (cut p 5 5) (Br (cut p 10 5)))) 31 ((nth (AL (AF (cut p 5 5) (Br (cut p 10 5)))) 31) ||| 128#8) else AL (AF (cut p 5 5) (Br (cut p 10 5)))).length=32:=by split<;>simp [*]
 generalize (if (((nth (AL (AF (cut p 0 5) (Br (cut p 10 5)))) 0)&&&1#8)==1#8)=true then put (AL (AF (cut p 5 5) (Br (cut p 10 5)))) 31 ((nth (AL (AF (cut p 5 5) (Br (cut p 10 5)))) 31) ||| 128#8) else AL (AF (cut p 5 5) (Br (cut p 10 5))))=J8 at*
 refine DV ?_;refine EW ?_;rw [hP.out]
 exact Eo
@[simp] theorem pE(p:AB 64)(hp:p.length=20):(HF p).length=32:=by
 unfold HF
 (split<;>(simp (maxDischargeDepth:=9) [*];done))
attribute [irreducible] HF
def nD(n:AB 8):AB 8:=HF (GG n Gh)
theorem ou(n:AB 8)(hn:n.length=32):Ev prog (.call 94 [Co (n)] []) (.val (Co (nD n)) []):=by
 have hP:=Hid.mk (nD.eq_1 n)
 refine AJ func94 rfl ntmps94 rfl AN ?_;refine Bk ?_;refine E7 ?_;refine AM ?_;have hQ1:(Gh).length=20:=Au
 have hQ2:(GG n Gh).length=20:=Au
 have hQ3:(HF (GG n Gh)).length=32:=Au
 refine S_ ?_;refine Jk ?_;refine FZ ?_;refine At (iz) sg ?_;refine At (dd n Gh AD AD) sn ?_;refine At (Zi (GG n Gh) AD) tO ?_;refine Bc ?_;refine EW ?_;rw [hP.out]
 exact Eo
attribute [irreducible] nD
theorem zs1:zf (1#64:BitVec 64).toNat=1:=rfl
theorem ak(b:AB 8)(i:Nat)(v:BitVec 8)(n:Nat)(h:n≤i)(hl:i<b.length):EI (put b i v) n=EI b n:=by
 induction n with
 |zero=>rfl
 |succ n ih=>rw [EI,EI,ih O_,C3 _ _ _ _ hl,if_neg O_]
theorem Vp{b:AB 8}(hb:b.length=32)(v:BitVec 8):EI (put b 31 v) 32=EI b 31+v.toNat*452312848583266388373324160190187140051835877600158453279131187530910662656:=by
 rw [EI,ak _ _ _ _ (Nat.le_refl _) O_,C3 _ _ _ _ O_,if_pos rfl]
theorem TH(b:AB 8):EI b 32=EI b 31+(nth b 31).toNat*452312848583266388373324160190187140051835877600158453279131187530910662656:=by rw [EI]
theorem U6(b:AB 8):EI b 31<452312848583266388373324160190187140051835877600158453279131187530910662656:=OK b 31
theorem vQ(x:BitVec 8):(x&&&127#8).toNat=x.toNat%128:=by revert x;decide+kernel
theorem zx(x:BitVec 8):(x>>>7==1#8)=decide (128≤x.toNat):=by revert x;decide+kernel
theorem xM(x:BitVec 8)(h:x.toNat<128):(x ||| 128#8).toNat=x.toNat+128:=by revert x;decide+kernel
abbrev MM:Nat:=57896044618658097711785492504343953926634992332820282019728792003956564819968
theorem fK{b:AB 8}(hb:b.length=32):EI (put b 31 (nth b 31&&&127#8)) 32=EI b 32%MM:=by
 rw [Vp hb,TH b,vQ]
 have h:=U6 b
 show _=_%57896044618658097711785492504343953926634992332820282019728792003956564819968
 omega
theorem pz(b:AB 8):(nth b 31>>>7==1#8)=decide (MM≤EI b 32):=by
 rw [zx,TH b]
 have h:=U6 b
 refine decide_eq_decide.2 ?_;show _↔57896044618658097711785492504343953926634992332820282019728792003956564819968≤_
 omega
theorem tY{b:AB 8}(hb:b.length=32)(hv:EI b 32<MM):EI (put b 31 (nth b 31 ||| 128#8)) 32=EI b 32+MM:=by
 have h:=U6 b
 rw [Vp hb,TH b]
 rw [TH b] at hv
 change _<57896044618658097711785492504343953926634992332820282019728792003956564819968 at hv
 rw [xM _ O_]
 show _=_+57896044618658097711785492504343953926634992332820282019728792003956564819968
 omega
theorem fY{u:Fp}(hu:u≠0):(-u).val%2=1-u.val%2:=by
 have hp:0<u.val:=by
  rcases Nat.eq_zero_or_pos u.val with h | h
  ·exact absurd (Fin.ext h) hu
  ·exact h
 have hlt:=u.isLt
 have e:(-u).val=PP-u.val:=by
  rw [show-u=0-u from by grobner,Fin.sub_def]
  show (PP-u.val+0)%PP=_
  rw [Nat.add_zero,Nat.mod_eq_of_lt (Nat.sub_lt D_ hp)]
 rw [e]
 change u.val<57896044618658097711785492504343953926634992332820282019728792003956564819949 at hlt
 show (57896044618658097711785492504343953926634992332820282019728792003956564819949-u.val)%2=_
 omega
theorem ot(u:Fp): -u* -u=u*u:=by grobner
theorem jJ: -(0:Fp)=0:=by grobner
theorem si{u v:Fp}(h:u*u=v*v)(hp:u.val%2=v.val%2):u=v:=by
 rcases sB h with h1 | h1
 ·exact h1
 ·by_cases hv:v=0
  ·rw [h1,hv,jJ]
  ·have:=fY hv
   rw [←h1] at this
   omega
structure U9 where
 p:Pt
 on:On p
theorem U9.same{P Q:U9}(h:P.p=Q.p):P=Q:=by
 cases P;cases Q;cases h;rfl
def tX(P:U9)(n:Nat):U9:=⟨GW P.p n,IX P.on n⟩
def aW:U9:=⟨VY,H9⟩
def Pb(P:U9):Nat:=P.p.y.val+P.p.x.val%2*MM
def enc(P:U9):AB 8:=Yy (Pb P)
@[simp] theorem eW(P:U9):(enc P).length=32:=KJ _
theorem MO(P:U9):Pb P<115792089237316195423570985008687907853269984665640564039457584007913129639936∧Pb P%MM=P.p.y.val∧(MM≤Pb P↔P.p.x.val%2=1):=by
 have h:=P.p.y.isLt
 unfold Pb
 change _<57896044618658097711785492504343953926634992332820282019728792003956564819949 at h
 change _+_*57896044618658097711785492504343953926634992332820282019728792003956564819968<_∧(_+_*57896044618658097711785492504343953926634992332820282019728792003956564819968)%57896044618658097711785492504343953926634992332820282019728792003956564819968=_∧(57896044618658097711785492504343953926634992332820282019728792003956564819968≤_+_*57896044618658097711785492504343953926634992332820282019728792003956564819968↔_)
 omega
theorem X0(P:U9):EI (enc P) 32=Pb P:=by
 unfold enc
 rw [Qq _ _ (Nat.le_refl _),Nat.mod_eq_of_lt]
 exact (MO P).1
theorem dO{b:AB 8}(hb:b.length=32){P:U9}(h:Pb P=EI b 32):enc P=b:=by
 unfold enc
 rw [h,eo hb]
def Ks(y:Fp):Fp:=(y*y-1)*B9 (dF*(y*y)+1)
theorem mu(P:U9):P.p.x*P.p.x=Ks P.p.y:=(lq _ _).1 P.on
theorem vv{x y:Fp}(h:x*x=Ks y):On ⟨x,y⟩:=(lq _ _).2 h
theorem pK{P Q:U9}(h:Pb P=Pb Q):P=Q:=by
 obtain ⟨_,y1,b1⟩:=MO P
 obtain ⟨_,y2,b2⟩:=MO Q
 rw [h] at y1 b1
 have hy:P.p.y=Q.p.y:=Fin.ext (y1.symm.trans y2)
 have hx:P.p.x=Q.p.x:=by
  refine si (by rw [mu,mu,hy]) ?_
  have:=Nat.mod_two_eq_zero_or_one P.p.x.val
  have:=Nat.mod_two_eq_zero_or_one Q.p.x.val
  have:=b1.symm.trans b2
  omega
 refine U9.same ?_
 cases hp:P.p
 cases hq:Q.p
 rw [hp,hq] at hx hy
 simp only at hx hy
 rw [hx,hy]
theorem tv{P Q:U9}:enc P=enc Q↔P=Q:=⟨fun h=>pK (by rw [←X0,h,X0]),fun h=>by rw [h]⟩
def vn(n:Nat):Bool:=decide (n%MM<PP)&&(decide (FH (Ks (zf (n%MM)))*FH (Ks (zf (n%MM)))=Ks (zf (n%MM)))&& !(decide (MM≤n)&&decide (FH (Ks (zf (n%MM)))=0)))
def dX(n:Nat):Fp:=if (FH (Ks (zf (n%MM)))).val%2=n/MM then FH (Ks (zf (n%MM))) else-FH (Ks (zf (n%MM)))
theorem qg(P:U9):vn (Pb P)=true:=by
 obtain ⟨h1,h2,h3⟩:=MO P
 unfold vn
 rw [h2,KX,←mu,decide_eq_true P.p.y.isLt,decide_eq_true (aC _),Bool.true_and,Bool.true_and,Bool.not_eq_true',Bool.and_eq_false_iff]
 by_cases ho:MM≤Pb P
 ·refine .inr (decide_eq_false fun h0=>?_)
  have hx:P.p.x*P.p.x=0:=by rw [←aC P.p.x,h0];exact E3 _
  have hx0:P.p.x=0:=by rcases Fw hx with h | h<;>exact h
  have:=h3.1 ho
  rw [hx0] at this
  change 0%2=1 at this
  omega
 ·exact .inl (decide_eq_false ho)
theorem sT{n:Nat}(hn:n<115792089237316195423570985008687907853269984665640564039457584007913129639936)(h:vn n=true):∃P:U9,Pb P=n∧P.p.y=zf (n%MM)∧P.p.x=dX n:=by
 unfold vn at h
 simp only [Bool.and_eq_true,Bool.not_eq_true',Bool.and_eq_false_iff,decide_eq_true_eq,decide_eq_false_iff_not] at h
 obtain ⟨hy,hr,ho⟩:=h
 have hd:n/MM≤1:=by
  show n/57896044618658097711785492504343953926634992332820282019728792003956564819968≤1
  omega
 have hm:MM≤n↔n/MM=1:=by
  show 57896044618658097711785492504343953926634992332820282019728792003956564819968≤n↔n/57896044618658097711785492504343953926634992332820282019728792003956564819968=1
  omega
 have hs:dX n*dX n=Ks (zf (n%MM)):=by
  rw [←hr]
  unfold dX
  split
  ·rfl
  ·exact ot _
 have hp:(dX n).val%2=n/MM:=by
  unfold dX
  split
  ·assumption
  ·rename_i hc
   have h2:=Nat.mod_two_eq_zero_or_one (FH (Ks (zf (n%MM)))).val
   have hne:FH (Ks (zf (n%MM)))≠0:=fun e=>by
    rcases ho with h | h
    ·rw [e] at hc
     change ¬0%2=n/MM at hc
     rw [hm] at h
     generalize n/MM=q at*
     omega
    ·exact h e
   rw [fY hne]
   generalize n/MM=q at*
   omega
 refine ⟨⟨⟨dX n,zf (n%MM)⟩,vv hs⟩,?_,rfl,rfl⟩
 unfold Pb
 show (zf (n%MM)).val+(dX n).val%2*MM=n
 rw [hp,HZ,Nat.mod_eq_of_lt hy]
 have:=Nat.div_add_mod n MM
 rw [Nat.mul_comm] at this
 omega
attribute [irreducible] enc
def GO(p:AB 64):Prop:=p.length=20∧Ct (cut p 0 5)∧Ct (cut p 5 5)∧Ct (cut p 10 5)∧Ct (cut p 15 5)
def LQ(p:AB 64):Qt:=⟨LF (cut p 0 5),LF (cut p 5 5),LF (cut p 10 5),LF (cut p 15 5)⟩
theorem wt{a b c d:AB 64}(ha:a.length=5)(hb:b.length=5)(hc:c.length=5)(hd:d.length=5):(a++b++c++d).length=20∧cut (a++b++c++d) 0 5=a∧cut (a++b++c++d) 5 5=b∧cut (a++b++c++d) 10 5=c∧cut (a++b++c++d) 15 5=d:=by
 obtain ⟨a0,a1,a2,a3,a4,rfl⟩:=S6 ha
 obtain ⟨b0,b1,b2,b3,b4,rfl⟩:=S6 hb
 obtain ⟨c0,c1,c2,c3,c4,rfl⟩:=S6 hc
 obtain ⟨d0,d1,d2,d3,d4,rfl⟩:=S6 hd
 exact ⟨rfl,rfl,rfl,rfl,rfl⟩
theorem OW{a b c d:AB 64}(ha:Ct a)(hb:Ct b)(hc:Ct c)(hd:Ct d):GO (a++b++c++d)∧LQ (a++b++c++d)=⟨LF a,LF b,LF c,LF d⟩:=by
 obtain ⟨l,e1,e2,e3,e4⟩:=wt ha.1 hb.1 hc.1 hd.1
 unfold GO LQ
 rw [e1,e2,e3,e4]
 exact ⟨⟨l,ha,hb,hc,hd⟩,rfl⟩
theorem La:Ct AR∧LF AR=dF:=by
 have h:∀b,b=[163#8,120#8,89#8,19#8,202#8,77#8,235#8,117#8,171#8,216#8,65#8,65#8,77#8,10#8,112#8,0#8,152#8,232#8,121#8,119#8,121#8,64#8,199#8,140#8,115#8,254#8,111#8,43#8,238#8,108#8,3#8,82#8]→Ct (NL b)∧LF (NL b)=dF:=fun b hb=>by
  refine ⟨(TQ b).1,?_⟩
  rw [(TQ b).2,hb]
  unfold dF
  decide+kernel
 unfold AR
 exact h _ rfl
theorem Tm:Ct (AU AR AR)∧LF (AU AR AR)=dF+dF:=by
 have h:=IQ La.1 La.1
 rw [La.2] at h
 exact h
theorem Vy{p q k:AB 64}(hp:GO p)(hq:GO q)(hk:Ct k∧LF k=dF+dF):GO (Cn p q k)∧LQ (Cn p q k)=Zl (LQ p) (LQ q):=by
 obtain ⟨_,p0,p1,p2,p3⟩:=hp
 obtain ⟨_,q0,q1,q2,q3⟩:=hq
 obtain ⟨k1,k2⟩:=hk
 have a1:=JT p1 p0
 have a2:=JT q1 q0
 have a:=CG a1.1 a2.1
 have b1:=IQ p1 p0
 have b2:=IQ q1 q0
 have b:=CG b1.1 b2.1
 have c1:=CG k1 p3
 have c:=CG c1.1 q3
 have d1:=IQ p2 p2
 have d:=CG d1.1 q2
 have e:=JT b.1 a.1
 have f:=JT d.1 c.1
 have g:=IQ d.1 c.1
 have h:=IQ b.1 a.1
 have ef:=CG e.1 f.1
 have gh:=CG g.1 h.1
 have fg:=CG f.1 g.1
 have eh:=CG e.1 h.1
 unfold Cn
 refine ⟨(OW ef.1 gh.1 fg.1 eh.1).1,?_⟩
 rw [(OW ef.1 gh.1 fg.1 eh.1).2,ef.2,gh.2,fg.2,eh.2,e.2,f.2,g.2,h.2,a.2,b.2,c.2,d.2,a1.2,a2.2,b1.2,b2.2,c1.2,d1.2,k2]
 rfl
theorem jO:GO Kz∧LQ Kz=lx:=by
 have s0:=Di (x:=0#64) D_
 have s1:=Di (x:=1#64) D_
 unfold Kz
 refine ⟨(OW s0.1 s1.1 s1.1 s0.1).1,?_⟩
 rw [(OW s0.1 s1.1 s1.1 s0.1).2,s0.2,s1.2]
 rfl
theorem iY(n:AB 8){p:AB 64}(hp:GO p):∀j,j≤256→GO (CL n p j)∧LQ (CL n p j)=S2 (LQ p) (EI n 32) j:=by
 intro j
 induction j with
 |zero=>
  intro _
  rw [CL,S2]
  exact jO
 |succ j ih=>
  intro hj
  obtain ⟨h1,h2⟩:=ih O_
  have h3:=Vy h1 h1 Tm
  have h4:=Vy h3.1 hp Tm
  rw [CL,I5,S2,Xt n (255-j) O_]
  by_cases hc:EI n 32/2^(255-j)%2=1
  ·rw [if_pos (decide_eq_true hc),if_pos hc,h4.2,h3.2,h2]
   exact ⟨h4.1,rfl⟩
  ·rw [if_neg (by rw [decide_eq_false hc];decide),if_neg hc,h3.2,h2]
   exact ⟨h3.1,rfl⟩
theorem kc(n:AB 8):EI n 32<2^256:=OK n 32
theorem bx(n:AB 8){p:AB 64}(hp:GO p){P:U9}(hr:YA (LQ p) P.p):GO (GG n p)∧YA (LQ (GG n p)) (tX P (EI n 32)).p:=by
 obtain ⟨h1,h2⟩:=iY n hp 256 (Nat.le_refl _)
 unfold GG
 rw [h2]
 exact ⟨h1,Wv P.on hr _ (kc n)⟩
theorem ry(u:Fp):((nth (F u) 0&&&1#8)==1#8)=decide (u.val%2=1):=by
 rw [eR,tM,BitVec.toNat_ofNat]
 refine decide_eq_decide.2 ?_;omega
theorem my(u:Fp):EI (F u) 32=u.val:=by
 unfold F
 rw [Qq _ _ (Nat.le_refl _),Nat.mod_eq_of_lt (Nat.lt_trans u.isLt D_)]
theorem dQ{p:AB 64}(hp:GO p){P:U9}(hr:YA (LQ p) P.p):HF p=enc P:=by
 obtain ⟨_,p0,p1,p2,p3⟩:=hp
 obtain ⟨z,ex,ey,_⟩:=hr
 have i:=U3 p2
 have x:=CG p0 i.1
 have y:=CG p1 i.1
 have hx:LF (AF (cut p 0 5) (Br (cut p 10 5)))=P.p.x:=by rw [x.2,i.2];exact QQ z ex
 have hy:LF (AF (cut p 5 5) (Br (cut p 10 5)))=P.p.y:=by rw [y.2,i.2];exact QQ z ey
 have hl:EI (F P.p.y) 32<MM:=by
  rw [my]
  exact Nat.lt_trans P.p.y.isLt D_
 unfold HF
 rw [Je x.1,Je y.1,hx,hy,ry]
 by_cases ho:P.p.x.val%2=1
 ·rw [if_pos (decide_eq_true ho)]
  refine (dO (by rw [Bp,ap]) ?_).symm
  rw [tY (ap _) hl,my]
  unfold Pb
  rw [ho,Nat.one_mul]
 ·rw [if_neg (by rw [decide_eq_false ho];decide)]
  refine (dO (ap _) ?_).symm
  rw [my]
  unfold Pb
  rw [show P.p.x.val%2=0 by omega,Nat.zero_mul,Nat.add_zero]
def Lm(b:AB 8):Nat:=EI b 32%MM
theorem LN{b:AB 8}(hb:b.length=32):Ct (KE b)∧LF (KE b)=zf (Lm b):=by
 have h:=TQ (put b 31 (nth b 31&&&127#8))
 rw [fK hb] at h
 unfold KE Lm
 exact h
theorem jZ{b:AB 8}(hb:b.length=32):Ct (DW b)∧LF (DW b)=zf (Lm b)*zf (Lm b):=by
 have h:=CG (LN hb).1 (LN hb).1
 rw [(LN hb).2] at h
 unfold DW
 exact h
theorem PF{b:AB 8}(hb:b.length=32):Ct (QO b)∧LF (QO b)=Ks (zf (Lm b)):=by
 have s1:=Di (x:=1#64) D_
 have y:=jZ hb
 have n:=JT y.1 s1.1
 have d1:=CG La.1 y.1
 have d2:=IQ d1.1 s1.1
 have d3:=U3 d2.1
 have h:=CG n.1 d3.1
 unfold QO
 refine ⟨h.1,?_⟩
 rw [h.2,n.2,d3.2,d2.2,d1.2,y.2,La.2,s1.2]
 rfl
theorem VE{b:AB 8}(hb:b.length=32):Ct (FM b)∧LF (FM b)=FH (Ks (zf (Lm b))):=by
 have h:=(WP (PF hb).1).1
 rw [(PF hb).2] at h
 unfold FM
 exact h
theorem pd{b:AB 8}(hb:b.length=32):Vj b=decide (FH (Ks (zf (Lm b)))*FH (Ks (zf (Lm b)))=Ks (zf (Lm b))):=by
 have h:=(WP (PF hb).1).2
 rw [(PF hb).2] at h
 unfold Vj
 exact h
theorem tE{b:AB 8}(hb:b.length=32):sK b=decide (FH (Ks (zf (Lm b)))=0):=by
 have s0:=Di (x:=0#64) D_
 unfold sK
 rw [Je (VE hb).1,Je s0.1,(VE hb).2,s0.2]
 exact decide_eq_decide.2 ed
theorem qf(b:AB 8):Lm b<MM:=Nat.mod_lt _ D_
theorem qm{b:AB 8}(hb:b.length=32):put b 31 (nth b 31&&&127#8)=Yy (Lm b):=by
 have h:=eo (b:=put b 31 (nth b 31&&&127#8)) (by rw [Bp,hb])
 rw [fK hb] at h
 exact h.symm
theorem yT{n:Nat}(hn:n<MM):(F (zf n)=Yy n)↔n<PP:=by
 unfold F
 rw [HZ]
 have hM:MM<256^32:=by decide
 constructor
 ·intro h
  have h1:EI (Yy (n%PP)) 32=EI (Yy n) 32:=by rw [h]
  rw [Qq _ _ (Nat.le_refl _),Qq _ _ (Nat.le_refl _),Nat.mod_eq_of_lt (Nat.lt_trans hn hM),Nat.mod_eq_of_lt (Nat.lt_trans (Nat.mod_lt _ dV) D_)] at h1
  rw [←h1]
  exact Nat.mod_lt _ dV
 ·intro h
  rw [Nat.mod_eq_of_lt h]
theorem zH{b:AB 8}(hb:b.length=32):kg b=decide (Lm b<PP):=by
 unfold kg
 rw [Je (LN hb).1,(LN hb).2,qm hb]
 exact decide_eq_decide.2 (yT (qf b))
theorem yB(b:AB 8):ji b=decide (MM≤EI b 32):=by
 unfold ji
 exact pz b
theorem ZA{b:AB 8}(hb:b.length=32):PG b=vn (EI b 32):=by
 unfold PG vn
 rw [zH hb,pd hb,yB,tE hb]
 rfl
theorem nP(P:U9):PG (enc P)=true:=by
 rw [ZA (eW P),X0]
 exact qg P
theorem eS{x y:Fp}:YA ⟨x,y,1,x*y⟩ ⟨x,y⟩:=⟨O6,(Qx _).symm,(Qx _).symm,(Qx _).symm⟩
theorem oU{b:AB 8}(hb:b.length=32){X:AB 64}(hX:Ct X):GO (X++KE b++AH 1#64++AF X (KE b))∧LQ (X++KE b++AH 1#64++AF X (KE b))=⟨LF X,zf (Lm b),1,LF X*zf (Lm b)⟩:=by
 have s1:=Di (x:=1#64) D_
 have y:=LN hb
 have m:=CG hX y.1
 have h:=OW hX y.1 s1.1 m.1
 refine ⟨h.1,?_⟩
 rw [h.2,y.2,s1.2,m.2,y.2,zs1]
theorem W5(u:Fp):0-u= -u:=by grobner
theorem uE{α:Type}(m:Nat)(o:Bool)(h:m=0∨m=1)(S R:α):(if (!((decide (m=1))==o))=true then S else R)=(if m=(if o then 1 else 0) then R else S):=by
 rcases h with rfl | rfl<;>cases o<;>rfl
theorem xB{b:AB 8}(hb:b.length=32)(o:Bool)(ho:ji b=o):Ct (if (!((((nth (AL (FM b)) 0)&&&1#8)==1#8)==o))=true then Ak (AH 0#64) (FM b) else FM b)∧LF (if (!((((nth (AL (FM b)) 0)&&&1#8)==1#8)==o))=true then Ak (AH 0#64) (FM b) else FM b)=dX (EI b 32):=by
 have r:=VE hb
 have s0:=Di (x:=0#64) D_
 have s:=JT s0.1 r.1
 have hs:LF (Ak (AH 0#64) (FM b))= -FH (Ks (zf (Lm b))):=by
  rw [s.2,s0.2,r.2]
  exact W5 _
 have hn:EI b 32<115792089237316195423570985008687907853269984665640564039457584007913129639936:=OK b 32
 rw [Je r.1,r.2,ry]
 unfold dX
 rw [show EI b 32%MM=Lm b from rfl]
 rw [yB] at ho
 have hd:EI b 32/MM=if o then 1 else 0:=by
  cases o with
  |true=>
   have h:=of_decide_eq_true ho
   change 57896044618658097711785492504343953926634992332820282019728792003956564819968≤_ at h
   show _/57896044618658097711785492504343953926634992332820282019728792003956564819968=1
   omega
  |false=>
   have h:=of_decide_eq_false ho
   change ¬57896044618658097711785492504343953926634992332820282019728792003956564819968≤_ at h
   show _/57896044618658097711785492504343953926634992332820282019728792003956564819968=0
   omega
 rw [hd,uE _ o (Nat.mod_two_eq_zero_or_one (FH (Ks (zf (Lm b)))).val)]
 by_cases hc:(FH (Ks (zf (Lm b)))).val%2=if o then 1 else 0
 ·rw [if_pos hc,if_pos hc]
  exact r
 ·rw [if_neg hc,if_neg hc]
  exact ⟨s.1,hs⟩
theorem pB{b:AB 8}(hb:b.length=32)(h:PG b=true):∃P:U9,b=enc P∧GO (WF b)∧YA (LQ (WF b)) P.p:=by
 obtain ⟨P,h1,h2,h3⟩:=sT (OK b 32) (by rw [←ZA hb];exact h)
 refine ⟨P,(dO hb h1).symm,?_⟩
 have hP:P.p=⟨dX (EI b 32),zf (Lm b)⟩:=by
  cases hp:P.p with
  |mk x y=>rw [hp] at h2 h3;simp only at h2 h3;rw [h2,h3];rfl
 rw [hP]
 unfold WF
 rw [if_pos h]
 cases ho:ji b with
 |true=>
  rw [if_pos rfl]
  obtain ⟨x1,x2⟩:=xB hb true ho
  have e:=oU hb x1
  unfold N2
  refine ⟨e.1,?_⟩
  rw [e.2,x2]
  exact eS
 |false=>
  rw [if_neg D_]
  obtain ⟨x1,x2⟩:=xB hb false ho
  have e:=oU hb x1
  unfold Ns
  refine ⟨e.1,?_⟩
  rw [e.2,x2]
  exact eS
theorem qk(P:U9):GO (WF (enc P))∧YA (LQ (WF (enc P))) P.p:=by
 obtain ⟨Q,e,h⟩:=pB (eW P) (nP P)
 rw [tv.1 e] at h ⊢
 exact h
theorem jR:D0 31=enc aW:=by decide+kernel
theorem nO:GO Gh∧YA (LQ Gh) aW.p:=by
 unfold Gh
 rw [jR]
 exact qk aW
theorem uk(n:AB 8):nD n=enc (tX aW (EI n 32)):=by
 obtain ⟨f1,r1⟩:=nO
 obtain ⟨f3,r3⟩:=bx n f1 r1
 unfold nD
 exact dQ f3 r3
def oB(n:AB 8):U9:=tX aW (EI n 32)
theorem cj(n:AB 8)(hn:n.length=32):Ev prog (.call 94 [Co n] []) (.val (Co (enc (oB n))) []):=by
 have h:=ou n hn
 rw [uk] at h
 exact h
attribute [irreducible] oB
theorem uT(a b c:AB 8)(ha:a.length=32)(hb:b.length=32)(hc:c.length=32):Ev prog (.call 145 [Co a,Co b,Co c] []) (.val (Co (rP a b c)) []):=by
 rw [←lY];exact Zb a b c ha hb hc
theorem gE(b:AB 8)(n cap:Nat)(hb:b.length=n)(hn:n≤64):Ev prog (.call 130 [.c (.sl 0 0 n cap 1)] [B1 b]) (.val (.tup [Co (Wy b),Aj ((0:Nat):Int)]) [B1 b]):=by
 rw [←ik];exact iH b n cap hb O_ hn
def EL(ta b:AB 8):AB 8:=Wy (Dv (ta++b))
theorem fp{A B:Prop}(a:A)(b:B)(k:r)(h:A→B→Hid r→g:=by intro a b h;refine Bq (AZ (bs:=[6]) a b K_ K_ rfl Bb) AK rfl ?_;exact h.out):g:=h a b ⟨k⟩
theorem bq(k:r)(h:Hid r→g:=by intro h;refine AA (Ff (j:=0) rfl rfl underlying22 aj O_) rfl ?_;exact h.out):g:=h ⟨k⟩
theorem Tg(k:r)(h:Hid r→g:=by intro h;refine AA (Bj rfl rfl js Dp rfl) rfl ?_;exact h.out):g:=h ⟨k⟩
theorem bc(k:r)(h:Hid r→g:=by intro h;refine AA (HX (l:=0) (h:=64) (len:=64) (cp:=64) rfl underlying105 CE rfl rfl rfl O_ O_ Rx rfl rfl) rfl ?_;exact h.out):g:=h ⟨k⟩
theorem gw(a:AB 8)(oa na ca:Nat)(b:AB 8)(nb cb:Nat)(ha:oa+na≤a.length)(hna:na≤1099511627)(hb:b.length=nb)(hnb:nb≤1099511627):Ev prog (.call 92 [.c (.sl 0 0 2 2 1)] [.row false (.ac [.sl 1 oa na ca 1,.sl 2 0 nb cb 1]),B1 (a),B1 (b)]) (.val (Co (EL (cut a oa na) b)) [.row false (.ac [.sl 1 oa na ca 1,.sl 2 0 nb cb 1]),B1 (a),B1 (b)]):=by
 have hP:=Hid.mk (EL.eq_1 (cut a oa na) b)
 have hta:(cut a oa na).length=na:=by rw [Cg];omega
 subst hb
 try simp only [hta] at hP
 refine AJ func92 rfl ntmps92 rfl AN ?_;refine JU ?_;refine AS ?_;refine AY ?_;refine Ru ?_;refine Qi ?_;refine Q_ ?_;refine QJ ?_;refine AG ?_;refine AA (BE (a:=0) (b:=2) rfl rfl) rfl ?_;refine AS ?_;refine bq ?_;refine Tg ?_;refine BB ?_;refine A2 (kB rfl rfl rfl underlying23 underlying23 HL Wo O_ AN) AK rfl ?_;refine Ad ?_;refine AA (Dx (a:=0) (b:=1) rfl rfl O_) rfl ?_;refine Qi ?_;show WC _ _ _ _ _
 refine Q_ ?_;refine QJ ?_;refine AG ?_;refine AA (BE (a:=1) (b:=2) rfl rfl) rfl ?_;refine AS ?_;refine AA (Ff (j:=1) rfl rfl underlying22 aj O_) rfl ?_;refine Tg ?_;refine BB ?_;refine Cl ?_;refine Ad ?_;refine AA (Dx (a:=1) (b:=1) rfl rfl O_) rfl ?_;refine Qi ?_;show WC _ _ _ _ _
 refine Q_ ?_;refine QJ ?_;refine AG ?_;refine AA (BE (a:=2) (b:=2) rfl rfl) rfl ?_;refine AM ?_;have hQ1:(Dv ((cut a oa na)++b)).length=64:=Au
 refine BC ?_;refine Bq (AZ (bs:=[5]) (Ps ((cut a oa na)++b) (na+b.length) (na+b.length) AD AD) cA K_ K_ rfl Bb) AK rfl ?_;refine J3 ?_;refine MK ?_;refine AM ?_;have hQ2:(Wy (Dv ((cut a oa na)++b))).length=32:=Au
 refine AG ?_;refine bc ?_;refine fp (gE (Dv ((cut a oa na)++b)) 64 64 AD AD) lI ?_;refine CD ?_;refine EO ?_;refine Ad ?_;refine J2 ?_;refine EW ?_;rw [hP.out]
 exact Eo
@[simp] theorem va(ta b:AB 8):(EL ta b).length=32:=by
 unfold EL
 (simp [*];done)
attribute [irreducible] EL
def K1(a b c:AB 8):AB 8:=Wy (Dv ((a++b)++c))
theorem gu(a:AB 8)(na ca:Nat)(b:AB 8)(nb cb:Nat)(c:AB 8)(nc cc:Nat)(ha:a.length=na)(hna:na≤1099511627)(hb:b.length=nb)(hnb:nb≤1099511627)(hc:c.length=nc)(hnc:nc≤1099511627):Ev prog (.call 92 [.c (.sl 0 0 3 3 1)] [.row false (.ac [.sl 1 0 na ca 1,.sl 2 0 nb cb 1,.sl 3 0 nc cc 1]),B1 (a),B1 (b),B1 (c)]) (.val (Co (K1 a b c)) [.row false (.ac [.sl 1 0 na ca 1,.sl 2 0 nb cb 1,.sl 3 0 nc cc 1]),B1 (a),B1 (b),B1 (c)]):=by
 have hP:=Hid.mk (K1.eq_1 a b c)
 subst ha
 subst hb
 subst hc
 refine AJ func92 rfl ntmps92 rfl AN ?_;refine JU ?_;refine AS ?_;refine AY ?_;refine Ru ?_;refine Qi ?_;refine Q_ ?_;refine QJ ?_;refine AG ?_;refine AA (BE (a:=0) (b:=3) rfl rfl) rfl ?_;refine AS ?_;refine bq ?_;refine Tg ?_;refine BB ?_;refine A2 (qU rfl rfl rfl underlying23 underlying23 HL Hn O_ AN) AK rfl ?_;refine Ad ?_;refine AA (Dx (a:=0) (b:=1) rfl rfl O_) rfl ?_;refine Qi ?_;show WC _ _ _ _ _
 refine Q_ ?_;refine QJ ?_;refine AG ?_;refine AA (BE (a:=1) (b:=3) rfl rfl) rfl ?_;refine AS ?_;refine AA (Ff (j:=1) rfl rfl underlying22 aj O_) rfl ?_;refine Tg ?_;refine BB ?_;refine Cl ?_;refine Ad ?_;refine AA (Dx (a:=1) (b:=1) rfl rfl O_) rfl ?_;refine Qi ?_;show WC _ _ _ _ _
 refine Q_ ?_;refine QJ ?_;refine AG ?_;refine AA (BE (a:=2) (b:=3) rfl rfl) rfl ?_;refine AS ?_;refine AA (Ff (j:=2) rfl rfl underlying22 aj O_) rfl ?_;refine Tg ?_;refine BB ?_;refine Cl ?_;refine Ad ?_;refine AA (Dx (a:=2) (b:=1) rfl rfl O_) rfl ?_;refine Qi ?_;show WC _ _ _ _ _
 refine Q_ ?_;refine QJ ?_;refine AG ?_;refine AA (BE (a:=3) (b:=3) rfl rfl) rfl ?_;refine AM ?_;have hQ1:(Dv ((a++b)++c)).length=64:=Au
 refine BC ?_;refine Bq (AZ (bs:=[7]) (Ps ((a++b)++c) ((a.length+b.length)+c.length) ((a.length+b.length)+c.length) AD AD) cA K_ K_ rfl Bb) AK rfl ?_;refine J3 ?_;refine MK ?_;refine AM ?_;have hQ2:(Wy (Dv ((a++b)++c))).length=32:=Au
 refine AG ?_;refine bc ?_;refine Bq (AZ (bs:=[8]) (gE (Dv ((a++b)++c)) 64 64 AD AD) lI K_ K_ rfl Bb) AK rfl ?_;refine CD ?_;refine EO ?_;refine Ad ?_;refine J2 ?_;refine EW ?_;rw [hP.out]
 exact Eo
@[simp] theorem th(a b c:AB 8):(K1 a b c).length=32:=by
 unfold K1
 (simp [*];done)
attribute [irreducible] K1
def PI(seed:AB 8):AB 8:=enc (oB (Cm seed))
theorem nj(seed:AB 8)(hseed:seed.length=32):Ev prog (.call 106 [Co (seed)] []) (.val (Co (PI seed)) []):=by
 have hP:=Hid.mk (PI.eq_1 seed)
 refine AJ func106 rfl ntmps106 rfl AN ?_;refine Bk ?_;refine E7 ?_;refine AM ?_;have hQ1:(Ce seed).length=64:=Au
 have hQ2:(Cm seed).length=32:=Au
 refine DV ?_;refine BL (Vx seed AD) jr ?_;refine CD ?_;refine EO ?_;refine Bv ?_;have hQ3:(enc (oB (Cm seed))).length=32:=Au
 refine DV ?_;refine BL (cj (Cm seed) AD) me ?_;refine EW ?_;rw [hP.out]
 exact Eo
@[simp] theorem Wb(seed:AB 8)(_hseed:seed.length=32):(PI seed).length=32:=by
 unfold PI
 (simp [*];done)
attribute [irreducible] PI
def H8(seed text:AB 8):AB 8:=(enc (oB (EL (cut (Ce seed) 32 32) text)))++(rP (K1 (enc (oB (EL (cut (Ce seed) 32 32) text))) (enc (oB (Cm seed))) text) (Cm seed) (EL (cut (Ce seed) 32 32) text))
theorem Rf(k:r)(h:Hid r→g:=by intro h;refine AE (HX (l:=0) (h:=32) (len:=32) (cp:=32) rfl underlying37 CE rfl rfl rfl O_ O_ Rx rfl rfl) rfl ?_;exact h.out):g:=h ⟨k⟩
theorem Pg(k:r)(h:Hid r→g:=by intro h;refine Jz (BR WV AN) AK rfl ?_;exact h.out):g:=h ⟨k⟩
theorem iL(seed text:AB 8)(tn tcap:Nat)(hseed:seed.length=32)(htext:text.length=tn)(htn:tn≤1099511627)(hT:tn≤65536):Ev prog (.call 107 [Co (seed),.c (.sl 0 0 tn tcap 1)] [B1 (text)]) (.val (.tup [Co (H8 seed text),Aj ((0:Nat):Int)]) [B1 (text)]):=by
 have hP_sgSign0:Hid (H8 seed text=(enc (oB (EL (cut (Ce seed) 32 32) text)))++(rP (K1 (enc (oB (EL (cut (Ce seed) 32 32) text))) (enc (oB (Cm seed))) text) (Cm seed) (EL (cut (Ce seed) 32 32) text))):=⟨rfl⟩
 subst htext
 refine AJ func107 rfl ntmps107 rfl AN ?_;refine Bk ?_;refine J3 ?_;refine AY ?_;refine Bt ?_;refine GP ?_;refine AM ?_;have hQ1:(Ce seed).length=64:=Au
 have hQ2:(Cm seed).length=32:=Au
 refine DV ?_;refine BL (Vx seed AD) jr ?_;refine CD ?_;refine EO ?_;refine Bv ?_;have hQ3:(enc (oB (Cm seed))).length=32:=Au
 refine DV ?_;refine BL (cj (Cm seed) AD) me ?_;refine EO ?_;refine AM ?_;have hQ4:(EL (cut (Ce seed) 32 32) text).length=32:=Au
 refine BD ?_;refine cB ?_;refine Bq (AZ (bs:=[6,3,0]) (gw (Ce seed) 32 32 32 text text.length tcap AD AD AD AD) rL K_ K_ rfl Bb) AK rfl ?_;refine EO ?_;refine AM ?_;have hQ5:(enc (oB (EL (cut (Ce seed) 32 32) text))).length=32:=Au
 refine DV ?_;refine BL (cj (EL (cut (Ce seed) 32 32) text) AD) me ?_;refine EO ?_;refine AM ?_;have hQ6:(K1 (enc (oB (EL (cut (Ce seed) 32 32) text))) (enc (oB (Cm seed))) text).length=32:=Au
 have hQ7:(rP (K1 (enc (oB (EL (cut (Ce seed) 32 32) text))) (enc (oB (Cm seed))) text) (Cm seed) (EL (cut (Ce seed) 32 32) text)).length=32:=Au
 refine S_ ?_;refine KA ?_;refine Rf ?_;refine Rf ?_;refine A0 ?_;refine Jz (rE underlying22 ep (oA _) rfl CS_ D_ D_ AN) AK rfl ?_;refine Iv (AZ (bs:=[9,8,5,0]) (gu (enc (oB (EL (cut (Ce seed) 32 32) text))) 32 32 (enc (oB (Cm seed))) 32 32 text text.length tcap AD AD AD AD AD AD) rL K_ K_ rfl Bb) AK rfl ?_;refine FZ ?_;refine FZ ?_;refine At (uT (K1 (enc (oB (EL (cut (Ce seed) 32 32) text))) (enc (oB (Cm seed))) text) (Cm seed) (EL (cut (Ce seed) 32 32) text) AD AD AD) uH ?_;refine Pg ?_;refine Bc ?_;refine EW ?_;refine Jk ?_;refine Jz (nX underlying23 HL) AK rfl ?_;refine Rf ?_;refine Jz (W3 rfl rfl rfl underlying23 underlying23 HL Hn O_ AN) AK rfl ?_;refine Rf ?_;refine Bc ?_;refine Cl ?_;refine AA (Tv rfl underlying105 O_ D_) rfl ?_;refine dS ?_;refine MK ?_;refine A7 ?_;rw [hP_sgSign0.out]
 exact qB (Iy rfl rfl TD Ud C7 D_) (Dt rfl) (by (kernel_rfl))
@[simp] theorem N6(seed text:AB 8)(_hseed:seed.length=32):(H8 seed text).length=64:=by
 unfold H8
 (simp [*];done)
attribute [irreducible] H8
def xQ(key place:AB 8):Nat:=if RD key place=Am 32 then 5 else 0
theorem ZS(key place:AB 8)(hkey:key.length=32)(hplace:place.length=32):Ev prog (.call 79 [Co key,Co place] []) (.val (.tup [Co (RD key place),Aj ((xQ key place:Nat):Int)]) []):=by
 have hl:(RD key place).length=32:=JC key place
 have hP:=mx key place hkey hplace
 unfold xQ
 generalize RD key place=u at*
 refine AJ func79 rfl ntmps79 rfl AN ?_;refine B5 ?_;refine E7 ?_;refine Ad ?_;refine J2 ?_;refine J2 ?_;refine BL (hP) kF ?_;refine EO ?_;refine HV ?_;refine AA (VJ (l:=(Am 32)) fC underlying37 CE rfl rfl) rfl ?_;refine AA (fW rfl rfl underlying37 underlying5 CE C7 C7) rfl ?_;refine AM ?_;by_cases hz:u=Am 32
 ·rw [if_pos hz]
  refine Q_ ?_;refine EH rfl (decide_eq_true hz) ?_;refine DV ?_;refine Is ?_;refine A7 ?_;exact RT
 ·rw [if_neg hz]
  refine Q_ ?_;refine Bn rfl (decide_eq_false hz) ?_;refine DV ?_;refine Is ?_;refine A7 ?_;exact RT
def ov:AB 8:=[98#8,111#8,120#8]
def jc(key place:AB 8):AB 8:=Gq ov (RD key place)
@[simp] theorem TP(key place:AB 8):(jc key place).length=32:=by
 unfold jc;rw [aP];unfold qN;exact Av _
theorem ZC(key place:AB 8)(hkey:key.length=32)(hplace:place.length=32):Ev prog (.call 55 [Co key,Co place] []) (.val (.tup [Co (if RD key place=Am 32 then Am 32 else jc key place),Aj ((xQ key place:Nat):Int)]) []):=by
 have hl:(RD key place).length=32:=JC key place
 have hk:(jc key place).length=32:=TP key place
 have hP:=ZS key place hkey hplace
 have hM:=iJ ov 3 3 (RD key place) 32 32 rfl D_ hl D_
 rw [show Gq ov (RD key place)=jc key place from rfl] at hM
 unfold xQ at*
 generalize RD key place=u at*
 generalize jc key place=q at*
 unfold ov at hM
 by_cases hz:u=Am 32
 ·rw [if_pos hz] at hP ⊢
  rw [if_pos hz]
  refine AJ func55 rfl ntmps55 rfl AN ?_;refine B5 ?_;refine E7 ?_;refine Ad ?_;refine J2 ?_;refine J2 ?_;refine BL (hP) rn ?_;refine CD ?_;refine EO ?_;refine AY ?_;refine Ik ?_;refine AS ?_;refine AA (VJ (l:=(Am 32)) fC underlying37 CE rfl rfl) rfl ?_;refine AO ?_;refine Is ?_;refine A7 ?_;exact RT
 ·rw [if_neg hz] at hP ⊢
  rw [if_neg hz]
  refine AJ func55 rfl ntmps55 rfl AN ?_;refine B5 ?_;refine E7 ?_;refine Ad ?_;refine J2 ?_;refine J2 ?_;refine BL (hP) rn ?_;refine CD ?_;refine EO ?_;refine AY ?_;refine Ik ?_;refine AS ?_;refine A2 (Wf (l:=[98#8,111#8,120#8]) underlying23 HL rfl rfl D_ D_ AN) AK rfl ?_;refine vF rfl underlying23 underlying5 rfl rfl D_ AN AK rfl ?_;refine Kl ?_;refine Bq (AZ (bs:=[5,3]) (hM) wA K_ K_ rfl Bb) AK rfl ?_;refine Is ?_;refine A7 ?_;exact RT
def KV:AB 8:=put (Am 32) 0 9#8
theorem jQ:KV.length=32:=by unfold KV;simp
theorem au(key:AB 8)(hkey:key.length=32):Ev prog (.call 104 [Co key] []) (.val (Co (RD key KV)) []):=by
 have hl:=JC key KV
 have hP:=mx key KV hkey jQ
 unfold KV at*
 generalize RD key (put (Am 32) 0 9#8)=u at*
 refine AJ func104 rfl ntmps104 rfl AN ?_;refine Bk ?_;refine E7 ?_;refine HV ?_;refine AA (VJ (l:=(put (Am 32) 0 (9#8))) fC underlying37 CE rfl rfl) rfl ?_;refine BL (hP) kF ?_;refine EW ?_;exact Eo
theorem cR(seed text:AB 8)(hseed:seed.length=32)(hn:text.length≤65536):Ev prog (.call 107 [Co seed,.c (.bs text)] []) (.val (.tup [Co (H8 seed text),Aj ((0:Nat):Int)]) []):=
 Ev.partsB (m:=[]) (m':=[.row false (.a8 text)]) (N:=[]) (N':=[]) [none] [0] (.no .nil) (.agg rfl (.c (.same rfl) .nil)) (.same (.bs rfl rfl .nil)) rfl rfl (iL seed text text.length text.length hseed rfl O_ hn) rfl rfl
def Sh(k:AB 8):AB 8×Nat:=(RD k KV++PI k,0)
def PN(k:AB 8)(q:AB 8×Nat):AB 8×Nat:=if q.2=0 then (H8 k q.1++q.1,0) else ([],q.2)
def PT(k place:AB 8)(q:AB 8×Nat):AB 8×Nat:=
 if q.2=0 then (if RD k place=Am 32 then ([],5) else (RD k KV++CT (jc k place) (Am 12) [] q.1,0)) else ([],q.2)
theorem mg(L:List Nd)(es:List (Value×C1))(N:Nat)(D:Dn)(n:Int)(a:List Int)(key:AB 8)(hkey:key.length=32):Ev prog (.call 71 [Ai 0,.agg (.ac [.val (.int .i64 5),.val (.int .i64 n),.is a]),Co key] [.row false (.ac [.ptr 1 0,.mp 2]),.row false (.ac [.sl 3 0 N N 3,.mp 4]),.row false (.mp (EF D)),.row false (.an L),.row false (.mp es)]) (.val (.tup [.c (.bs (Sh key).1),Aj (((Sh key).2:Nat):Int)]) [.row false (.ac [.ptr 1 0,.mp 2]),.row false (.ac [.sl 3 0 N N 3,.mp 4]),.row false (.mp (EF D)),.row false (.an L),.row false (.mp es)]):=by
 unfold Sh
 have hP:=au key hkey
 have hS:=nj key hkey
 have l1:=JC key KV
 have l2:=Wb key hkey
 generalize RD key KV=u at*
 generalize PI key=v at*
 have l3:(u++v).length=64:=by simp [l1,l2]
 dsimp only
 refine T6 ?_;refine B5 ?_;refine El ?_;refine EJ ?_;refine AS ?_;refine Gg ?_;refine A7 ?_;refine R9 ?_;refine FZ ?_;refine At (hP) mo ?_;refine FZ ?_;refine At (hS) tg ?_;refine Pg ?_;refine Pg ?_;refine Bc ?_;refine Is ?_;refine EW ?_;refine Jk ?_;refine Jz (nX underlying23 HL) AK rfl ?_;refine Rf ?_;refine Jz (W3 rfl rfl rfl underlying23 underlying23 HL Hn O_ AN) AK rfl ?_;refine Rf ?_;refine Bc ?_;refine Cl ?_;refine F6 ?_;refine IB 6 rfl rfl l3 AK ?_;exact F7
theorem jx(L:List Nd)(es:List (Value×C1))(N:Nat)(D:Dn)(n:Int)(a:List Int)(hD:Xm D)(ha:∀x∈a,D9 D x)(hlen:a.length≤400)(h1:1≤a.length)(key:AB 8)(hkey:key.length=32):Ev prog (.call 71 [Ai 0,.agg (.ac [.val (.int .i64 8),.val (.int .i64 n),.is a]),Co key] [.row false (.ac [.ptr 1 0,.mp 2]),.row false (.ac [.sl 3 0 N N 3,.mp 4]),.row false (.mp (EF D)),.row false (.an L),.row false (.mp es)]) (.val (.tup [.c (.bs (PN key (LH ((a.drop 1).map (An D)))).1),Aj (((PN key (LH ((a.drop 1).map (An D)))).2:Nat):Int)]) [.row false (.ac [.ptr 1 0,.mp 2]),.row false (.ac [.sl 3 0 N N 3,.mp 4]),.row false (.mp (EF D)),.row false (.an L),.row false (.mp es)]):=by
 have hJ:=RE L es N D (a.drop 1) hD (fun x hx=>ha x (List.mem_of_mem_drop hx)) (by rw [List.length_drop];omega)
 have hq1:=KT ((a.drop 1).map (An D))
 generalize LH ((a.drop 1).map (An D))=q at*
 obtain ⟨j,e⟩:=q
 dsimp only at hJ hq1 ⊢
 by_cases he:e=0
 ·subst he
  have hS:=cR key j hkey hq1
  have hs:=N6 key j hkey
  rw [show PN key (j,0)=(H8 key j++j,0) from rfl]
  generalize H8 key j=g at*
  have hgl:(g++j).length=64+j.length:=by simp [hs]
  dsimp only
  refine T6 ?_;refine B5 ?_;refine El ?_;refine EJ ?_;refine AS ?_;refine Gg ?_;refine AY ?_;refine Jx ?_;refine DK (Ev.val (Rg (l:=1) rfl rfl underlying41 OF h1)) rfl ?_;refine RB (hJ) SS ?_;refine E1 ?_;refine Ik ?_;refine AS ?_;refine EJ ?_;refine It ?_;refine HV ?_;refine AO ?_;refine BL (hS) tA ?_;refine CD ?_;refine J3 ?_;refine MK ?_;refine Ad ?_;refine IZ ?_;refine bc ?_;refine bZ ?_;refine AO ?_;refine jm rfl rfl rfl underlying23 underlying23 HL Hn Hn O_ AN AK rfl ?_;refine AO ?_;refine F6 ?_;refine IB 6 rfl rfl hgl AK ?_;exact F7
 ·rw [show PN key (j,e)=([],e) by unfold PN;rw [if_neg he]]
  dsimp only
  refine T6 ?_;refine B5 ?_;refine El ?_;refine EJ ?_;refine AS ?_;refine Gg ?_;refine AY ?_;refine Jx ?_;refine DK (Ev.val (Rg (l:=1) rfl rfl underlying41 OF h1)) rfl ?_;refine RB (hJ) SS ?_;refine E1 ?_;refine Fu ?_;refine F6 ?_;refine No 6 rfl ?_;exact F7
theorem jP(L:List Nd)(es:List (Value×C1))(N:Nat)(D:Dn)(n:Int)(a:List Int)(x:Nat)(hx:AX a 0=(x:Int))(hN:L.length=N)(hxN:x<N)(hD:Xm D)(ha:∀x∈a,D9 D x)(hlen:a.length≤400)(h2:2≤a.length)(h5:(Al L x).k=5)(hp:32≤(An D (AX a 0)).length):
  Ev prog (.call 70 [.c (.ptr 0 0),.agg (.ac [.val (.int .i64 7),.val (.int .i64 n),.is a])] [.row false (.ac [.ptr 1 0,.mp 2]),.row false (.ac [.sl 3 0 N N 3,.mp 4]),.row false (.mp (EF D)),.row false (.an L),.row false (.mp es)]) (.val (.tup [.c (.bs (PT (Aa (An D (AX a 1))) ((An D (AX a 0)).take 32) (LH ((a.drop 2).map (An D)))).1),.c (.val (.int .i64 (((PT (Aa (An D (AX a 1))) ((An D (AX a 0)).take 32) (LH ((a.drop 2).map (An D)))).2:Nat):Int)))]) [.row false (.ac [.ptr 1 0,.mp 2]),.row false (.ac [.sl 3 0 N N 3,.mp 4]),.row false (.mp (EF D)),.row false (.an L),.row false (.mp es)]):=by
 have hAt:=gQ L es N x hN hxN
 rw [←hx] at hAt
 unfold qe at hAt
 generalize Al L x=y at*
 rw [h5] at hAt
 have m0:D9 D (AX a 0):=ha _ (by simp [AX,show 0<a.length by omega])
 have m1:D9 D (AX a 1):=ha _ (by simp [AX,show 1<a.length by omega])
 have hJ:=RE L es N D (a.drop 2) hD (fun x hx=>ha x (List.mem_of_mem_drop hx)) (by rw [List.length_drop];omega)
 have hq1:=KT ((a.drop 2).map (An D))
 have hl1:=NS hD (AX a 1)
 have hK:=Xs (An D (AX a 1)) O_
 have hk:(Aa (An D (AX a 1))).length=32:=Av _
 have ht:((An D (AX a 0)).take 32).length=32:=by simp;omega
 have hS:=ZC (Aa (An D (AX a 1))) ((An D (AX a 0)).take 32) hk ht
 have hP:=au (Aa (An D (AX a 1))) hk
 have l1:=JC (Aa (An D (AX a 1))) KV
 have hbk:=TP (Aa (An D (AX a 1))) ((An D (AX a 0)).take 32)
 have e0:(0:Nat)<a.length:=by omega
 have e1:(1:Nat)<a.length:=by omega
 generalize LH ((a.drop 2).map (An D))=q at*
 obtain ⟨j,e⟩:=q
 dsimp only at hJ hq1 ⊢
 by_cases he:e=0
 ·subst he
  have hA:=bN (jc (Aa (An D (AX a 1))) ((An D (AX a 0)).take 32)) j hbk hq1
  have hal:(CT (jc (Aa (An D (AX a 1))) ((An D (AX a 0)).take 32)) (Am 12) [] j).length=j.length+16:=D4 _ _ _ _ hbk (BO 12)
  unfold xQ PT at*
  by_cases hz:RD (Aa (An D (AX a 1))) ((An D (AX a 0)).take 32)=Am 32
  ·rw [if_pos hz,if_pos hz] at hS
   rw [if_pos rfl,if_pos hz]
   dsimp only
   refine YL ?_;refine Bk ?_;refine Iu ?_;refine Nr ?_;refine II ?_;refine AE (Ab rfl (TI _ _)) rfl ?_;refine XV ?_;refine Mw ?_;refine Lx ?_;refine Pw ?_;refine AE (D5 rfl B6 e0) rfl ?_;refine V3 (hAt) Vr ?_;refine AE (S9 rfl) rfl ?_;refine AE (GL (b:=5) rfl rfl) rfl ?_;refine Bc ?_;refine AW ?_;refine Jx ?_;refine DK (Ev.val (Rg (l:=2) rfl rfl underlying41 OF h2)) rfl ?_;refine RB (hJ) SS ?_;refine E1 ?_;refine Ik ?_;refine A1 ?_;refine Nr ?_;refine II ?_;refine Uu ?_;refine UJ ?_;refine Mw ?_;refine Lx ?_;refine AE (Tt (j:=1) rfl rfl underlying41 OF Dp) rfl ?_;refine AE (D5 rfl B6 e1) rfl ?_;refine Sk (IG (c:= .bs (An D (AX a 1))) underlying85 underlying3 rfl rfl rfl hD.keyed (IH m1)) rfl ?_;refine Iv (AZ (hK) fX rfl rfl rfl Bb) AK rfl ?_;refine Pg ?_;refine Bc ?_;refine EW ?_;refine cT 18 16 mixed K_ K_ rfl rfl rfl ?_;refine FZ ?_;refine II ?_;refine Uu ?_;refine UJ ?_;refine Mw ?_;refine Lx ?_;refine Pw ?_;refine AE (D5 rfl B6 e0) rfl ?_;refine Sk (IG (c:= .bs (An D (AX a 0))) underlying85 underlying3 rfl rfl rfl hD.keyed (IH m0)) rfl ?_;refine AE (cQ (h:=32) rfl rfl underlying23 CE Wo) rfl ?_;refine AE (kS rfl underlying37 O_ D_) rfl ?_;refine AE (bO rfl K8 KW O_ D_) rfl ?_;refine At (hS) rG ?_;refine Kt ?_;refine J9 ?_;refine Pg ?_;refine Bc ?_;refine Is ?_;refine AY ?_;refine Fu ?_;refine F6 ?_;refine No 4 rfl ?_;exact F7
  ·rw [if_neg hz,if_neg hz] at hS
   rw [if_pos rfl,if_neg hz]
   generalize CT (jc (Aa (An D (AX a 1))) ((An D (AX a 0)).take 32)) (Am 12) [] j=w at*
   generalize jc (Aa (An D (AX a 1))) ((An D (AX a 0)).take 32)=bk at*
   generalize RD (Aa (An D (AX a 1))) KV=u at*
   have hgl:(u++w).length=32+(j.length+16):=by simp [l1,hal]
   dsimp only
   refine YL ?_;refine Bk ?_;refine Iu ?_;refine Nr ?_;refine II ?_;refine AE (Ab rfl (TI _ _)) rfl ?_;refine XV ?_;refine Mw ?_;refine Lx ?_;refine Pw ?_;refine AE (D5 rfl B6 e0) rfl ?_;refine V3 (hAt) Vr ?_;refine AE (S9 rfl) rfl ?_;refine AE (GL (b:=5) rfl rfl) rfl ?_;refine Bc ?_;refine AW ?_;refine Jx ?_;refine DK (Ev.val (Rg (l:=2) rfl rfl underlying41 OF h2)) rfl ?_;refine RB (hJ) SS ?_;refine E1 ?_;refine Ik ?_;refine A1 ?_;refine Nr ?_;refine II ?_;refine Uu ?_;refine UJ ?_;refine Mw ?_;refine Lx ?_;refine AE (Tt (j:=1) rfl rfl underlying41 OF Dp) rfl ?_;refine AE (D5 rfl B6 e1) rfl ?_;refine Sk (IG (c:= .bs (An D (AX a 1))) underlying85 underlying3 rfl rfl rfl hD.keyed (IH m1)) rfl ?_;refine Iv (AZ (hK) fX rfl rfl rfl Bb) AK rfl ?_;refine Pg ?_;refine Bc ?_;refine EW ?_;refine cT 18 16 mixed K_ K_ rfl rfl rfl ?_;refine FZ ?_;refine II ?_;refine Uu ?_;refine UJ ?_;refine Mw ?_;refine Lx ?_;refine Pw ?_;refine AE (D5 rfl B6 e0) rfl ?_;refine Sk (IG (c:= .bs (An D (AX a 0))) underlying85 underlying3 rfl rfl rfl hD.keyed (IH m0)) rfl ?_;refine AE (cQ (h:=32) rfl rfl underlying23 CE Wo) rfl ?_;refine AE (kS rfl underlying37 O_ D_) rfl ?_;refine AE (bO rfl K8 KW O_ D_) rfl ?_;refine At (hS) rG ?_;refine Kt ?_;refine J9 ?_;refine Pg ?_;refine Bc ?_;refine Is ?_;refine AY ?_;refine Ik ?_;refine HV ?_;refine YD ?_;refine AO ?_;refine BL (hA) ls ?_;refine E1 ?_;refine Ik ?_;refine HV ?_;refine BL (hP) mo ?_;refine EO ?_;refine AS ?_;refine Kl ?_;refine AO ?_;refine Cl ?_;refine F6 ?_;refine IB 4 rfl rfl hgl AK ?_;exact F7
 ·rw [show PT (Aa (An D (AX a 1))) ((An D (AX a 0)).take 32) (j,e)=([],e) by unfold PT;rw [if_neg he]]
  dsimp only
  refine YL ?_;refine Bk ?_;refine Iu ?_;refine Nr ?_;refine II ?_;refine AE (Ab rfl (TI _ _)) rfl ?_;refine XV ?_;refine Mw ?_;refine Lx ?_;refine Pw ?_;refine AE (D5 rfl B6 e0) rfl ?_;refine V3 (hAt) Vr ?_;refine AE (S9 rfl) rfl ?_;refine AE (GL (b:=5) rfl rfl) rfl ?_;refine Bc ?_;refine AW ?_;refine Jx ?_;refine DK (Ev.val (Rg (l:=2) rfl rfl underlying41 OF h2)) rfl ?_;refine RB (hJ) SS ?_;refine E1 ?_;refine Fu ?_;refine F6 ?_;refine No 4 rfl ?_;exact F7
def rh(Q:Nd→AB 8→Prop)(L:List Nd)(D:Dn):Prop:= ∀x,D9 D x→Q (Al L x.toNat) (An D x)
theorem rh.snoc{Q:Nd→AB 8→Prop}{L:List Nd}{D:Dn}(h:rh Q L D){k:Nat}{b:AB 8}(hk:¬D9 D (k:Int))(hb:Q (Al L k) b):rh Q L (D++[((k:Int),b)]):=by
 rintro x ⟨p,hp,rfl⟩
 by_cases e:p.1=(k:Int)
 ·rw [e,ZQ hk,Int.toNat_natCast];exact hb
 ·rw [aX e]
  rcases List.mem_append.1 hp with hp | hp
  ·exact h _ ⟨p,hp,rfl⟩
  ·obtain rfl:=List.mem_singleton.1 hp
   exact absurd rfl e
theorem ZH(Q:Nd→AB 8→Prop)(X:Nd→(Int→AB 8)→AB 8×Nat)(L:List Nd)(es:List (Value×C1))(N i:Nat)(hN:L.length=N)(hNl:N≤1048576)(hi:i<N)(hA:EB L)
  (hQ:∀(D:Dn) (k:Nat),(k:Int)∈BQ L i→rh Q L D→(∀x∈(Al L k).a,D9 D x)→(LI X L (An D) (Al L k)).2=0→Q (Al L k) (LI X L (An D) (Al L k)).1)
  (hX:∀(D:Dn) (k:Nat),(k:Int)∈BQ L i→Xm D→rh Q L D→(∀x∈(Al L k).a,D9 D x)→UL L (Al L k)→(X (Al L k) (An D)).1.length≤100000∧P0 L es N D (Al L k) (X (Al L k) (An D))):
  Ev prog (.call 22 [.c (.ptr 0 0),.c (.val (.int .i64 (i:Int)))] [.row false (.ac [.sl 1 0 N N 3,.mp 2]),.row false (.an L),.row false (.mp es)]) (.val (.tup [.c (.bs (JB X L i).1),.c (.val (.int .i64 (((JB X L i).2:Nat):Int)))]) [.row false (.ac [.sl 1 0 N N 3,.mp 2]),.row false (.an L),.row false (.mp es)]):=by
 have hl1:=NM L i
 have hlt:=Ee L i
 have hasc:=ON L i
 have htop:=ID L i
 have hcl:∀k:Nat,(k:Int)∈BQ L i→ ∀x∈(Al L k).a,x∈BQ L i:=fun k hk=>Gs hA O_ hk
 unfold JB
 have hBen:=mV L es N i hN hNl hi hA
 generalize hall:BQ L i=all at*
 clear hall
 generalize hn:all.length=n at*
 refine AJ func22 rfl ntmps22 rfl AN ?_;refine AG ?_;refine Fm ?_;refine BB ?_;refine FC (hBen) rk ?_;refine E1 ?_;refine Fu ?_;refine DK (Rz) rfl ?_;refine AA (fy rfl rfl) rfl ?_;refine bp ?_;refine AY ?_;refine IF ?_;refine Pn ?_;refine DL [0,1,8,26,27,28] (fun (zz:Nat×Dn)=>⟨58,AQ [0,1,8,26,27,28] [Ai 0,Aj (i:Int),Ai 3,.c (.is all),Aj (n:Int),Aj (zz.1:Int)],[.row false (.ac [.sl 1 0 N N 3,.mp 2]),.row false (.an L),.row false (.mp es),.row true (.ac [.ptr 0 0,.mp 4]),.row true (.mp (EF zz.2))]⟩) (fun zz=>n-zz.1) (fun zz=>(zz.1≤n∧Xm zz.2∧rh Q L zz.2)∧(∀x,D9 zz.2 x↔x∈all.take zz.1)∧Gu X L all []=Gu X L (all.drop zz.1) zz.2) (0,[]) K_ ⟨⟨Nat.zero_le _,⟨List.Pairwise.nil,fun p hp=>by cases hp⟩,fun x ⟨p,hp,_⟩=>by cases hp⟩,fun x=>by simp [D9],rfl⟩ ?_
 rintro ⟨j,D⟩ ⟨⟨hj,hD,hqd⟩,hdh,hrun⟩
 dsimp only at hj hD hqd hdh hrun ⊢
 by_cases hlt':j<n
 ·obtain ⟨k,hx⟩:∃k:Nat,AX all j=(k:Int):=⟨(AX all j).toNat,by
   have h1:=hlt (AX all j) (by simp [AX,show j<all.length by omega])
   omega⟩
  have hget:all[j]'O_=(k:Int):=by rw [←hx];simp [AX,show j<all.length by omega]
  have hdrop:all.drop j=(k:Int)::all.drop (j+1):=by rw [List.drop_eq_getElem_cons O_,hget]
  have hmem:(k:Int)∈all:=by rw [←hget];exact List.getElem_mem _
  have hkN:k<N:=by have:=(hlt _ hmem).2;omega
  have hsplit:all=all.take j++(k:Int)::all.drop (j+1):=by rw [←hdrop,List.take_append_drop]
  have hp:=hasc
  rw [hsplit,List.pairwise_append] at hp
  obtain ⟨_,hp2,hp3⟩:=hp
  have hp4:=(List.pairwise_cons.1 hp2).1
  have hnot:¬D9 D (k:Int):=fun h=>by
   have:=hp3 _ ((hdh _).1 h) _ List.mem_cons_self
   omega
  have ha:∀x∈(Al L k).a,D9 D x:=fun x hx=>by
   have h1:=hcl k hmem x hx
   have h2:=((hA.nd (i:=k) O_).args x hx).2
   rw [hsplit] at h1
   rcases List.mem_append.1 h1 with h1 | h1
   ·exact (hdh x).2 h1
   ·rcases List.mem_cons.1 h1 with rfl | h1
    ·omega
    ·have:=hp4 x h1;omega
  have hB:=Sp X L es N D (Al L k) k hN hkN (hA.nd O_) (hA.small k O_) hD ha (fun h=>(hX D k hmem hD hqd ha h).2)
  have hvl:=Xk (g:=An D) (fun h=>(hX D k hmem hD hqd ha h).1) (hA.nd (i:=k) O_).kind
  have hqk:(LI X L (An D) (Al L k)).2=0→rh Q L (D++[((k:Int),(LI X L (An D) (Al L k)).1)]):=fun h=>hqd.snoc hnot (hQ D k hmem hqd ha h)
  have hAt:=gQ L es N k hN hkN
  rw [←hx] at hAt
  unfold qe at hAt
  unfold P0 at hB
  rw [hdrop,Gu.eq_2,Int.toNat_natCast] at hrun
  generalize LI X L (An D) (Al L k)=v at*
  generalize Al L k=y at*
  obtain ⟨b,e⟩:=v
  dsimp only at hB hrun hvl hqk
  refine NJ ?_;refine U7 ?_;refine bD ?_;refine BB ?_;refine AO ?_;refine Bq (AZ (bs:=[0,1,2]) (hAt) Vr K_ K_ rfl Bb) AK rfl ?_;refine Bq (AZ (bs:=[3,0,4,1,2]) (hB) rm K_ K_ rfl Bb) AK rfl ?_;refine CD ?_;refine KD ?_;by_cases he:e=0
  ·subst he
   rw [if_pos rfl] at hrun
   refine BC ?_;refine Ik ?_;refine AM ?_;rw [hx]
   refine BC ?_;refine KB ?_;refine Ub ?_;refine VV ?_;refine Fa ?_;refine fZ (Qh (c:= .bs b) underlying85 underlying3 rfl rfl rfl rfl hD.keyed rfl (Zx hnot) AK) ?_;refine Do ?_;rw [←ZR]
   refine ⟨(j+1,D++[((k:Int),b)]),K_,by show n-(j+1)<n-j;omega,⟨hlt',hD.snoc hnot hvl,hqk rfl⟩,fun x=>?_,hrun⟩
   dsimp only
   rw [List.take_succ_eq_append_getElem O_,hget,List.mem_append,List.mem_singleton,←hdh]
   constructor
   ·rintro ⟨p,hp,rfl⟩
    rcases List.mem_append.1 hp with hp | hp
    ·exact .inl ⟨p,hp,rfl⟩
    ·obtain rfl:=List.mem_singleton.1 hp
     exact .inr rfl
   ·rintro (h | rfl)
    ·exact QV h _
    ·exact Ok _ _ _
  ·rw [if_neg he] at hrun
   rw [hrun,show (if (D,e).2=0 then (An (D,e).1 (i:Int),0) else ([],(D,e).2))=(([]:AB 8),e) by rw [if_neg he]]
   dsimp only
   refine BC ?_;refine Fu ?_;refine F6 ?_;refine No 4 rfl ?_;exact F7
 ·obtain rfl:j=n:=by omega
  have hi':D9 D (i:Int):=(hdh _).2 (by rw [←hn,List.take_length];exact htop)
  have hl:=NS hD (i:Int)
  rw [hrun,←hn,List.drop_length,show Gu X L [] D=(D,0) from rfl,if_pos rfl]
  rw [hn]
  dsimp only
  refine NJ ?_;refine IZ ?_;refine AO ?_;refine KB ?_;refine Ub ?_;refine VV ?_;refine AO ?_;refine DK (IG (c:= .bs (An D (i:Int))) underlying85 underlying3 rfl rfl rfl hD.keyed (IH hi')) rfl ?_;refine cM ?_;exact Cu
def LJ(y:Nd)(g:Int→AB 8):AB 8×Nat:=
 if y.k=5 then Sh (Aa (g (AX y.a 0))) else if y.k=8 then PN (Aa (g (AX y.a 0))) (LH ((y.a.drop 1).map g)) else if y.k=7 then PT (Aa (g (AX y.a 1))) ((g (AX y.a 0)).take 32) (LH ((y.a.drop 2).map g)) else ([],0)
theorem da(k:AB 8):(PI (Aa k)).length=32:=Wb _ (Av _)
theorem SK(k:AB 8):(Sh (Aa k)).1.length=64:=by
 unfold Sh;simp
theorem kJ(l:List (AB 8)):(LH l).1.length≤65536:=KT l
theorem ib(k:AB 8)(hk:k.length=32)(q:AB 8×Nat):(PN k q).1.length=if q.2=0 then 64+q.1.length else 0:=by
 unfold PN;split<;>simp [N6 _ _ hk]
theorem iQ(k p:AB 8)(q:AB 8×Nat):(PT k p q).1.length≤48+q.1.length:=by
 unfold PT
 split
 ·split
  ·exact Nat.zero_le _
  ·show (RD k KV++CT (jc k p) (Am 12) [] q.1).length≤_
   rw [List.length_append,JC,D4 _ _ _ _ (TP _ _) (BO 12)];omega
 ·exact Nat.zero_le _
theorem gA(y:Nd)(g:Int→AB 8):(LJ y g).1.length≤100000:=by
 unfold LJ
 split
 ·rw [SK];decide
 ·split
  ·rw [ib _ (Av _)]
   have:=kJ ((y.a.drop 1).map g)
   split<;>omega
  ·split
   ·have h1:=iQ (Aa (g (AX y.a 1))) ((g (AX y.a 0)).take 32) (LH ((y.a.drop 2).map g))
    have h2:=kJ ((y.a.drop 2).map g)
    omega
   ·exact Nat.zero_le _
theorem Lf:mv LJ:=fun y g g' hl h=>by
 have g0:1≤y.a.length→g (AX y.a 0)=g' (AX y.a 0):=fun h1=>h _ (by simp [AX,show 0<y.a.length by omega])
 have g1:2≤y.a.length→g (AX y.a 1)=g' (AX y.a 1):=fun h1=>h _ (by simp [AX,show 1<y.a.length by omega])
 have hd:∀n,(y.a.drop n).map g=(y.a.drop n).map g':=fun n=>List.map_congr_left fun x hx=>h x (List.mem_of_mem_drop hx)
 unfold LJ
 by_cases h5:y.k=5
 ·rw [if_pos h5,if_pos h5,g0 (by rw [h5] at hl;exact hl)]
 rw [if_neg h5,if_neg h5]
 by_cases h8:y.k=8
 ·rw [if_pos h8,if_pos h8,g0 (by rw [h8] at hl;exact hl),hd]
 rw [if_neg h8,if_neg h8]
 by_cases h7:y.k=7
 ·have h2:2≤y.a.length:=by rw [h7] at hl;exact hl
  rw [if_pos h7,if_pos h7,g0 O_,g1 h2,hd]
 ·rw [if_neg h7,if_neg h7]
def vX(y:Nd)(b:AB 8):Prop:=y.k=5→b.length=64
theorem xA{L:List Nd}(es:List (Value×C1)){N:Nat}(hN:L.length=N)(hA:EB L){D:Dn}{k:Nat}(hk:k<N)(hD:Xm D)(hq:rh vX L D)(ha:∀x∈(Al L k).a,D9 D x)(h:UL L (Al L k)):(LJ (Al L k) (An D)).1.length≤100000∧P0 L es N D (Al L k) (LJ (Al L k) (An D)):=by
 refine ⟨gA _ _,?_⟩
 have hnd:=hA.nd (i:=k) O_
 have hlen:=hnd.len
 have hargs:=hnd.args
 have hml:=Dj (Al L k).k
 generalize Al L k=y at*
 obtain ⟨kd,n,a⟩:=y
 dsimp only at*
 have h400:a.length≤400:=by omega
 have first:1≤a.length→AX a 0∈a:=fun h=>by simp [AX,show 0<a.length by omega]
 rcases h with h | h | ⟨h,h5⟩
 ·dsimp only at h
  subst h
  have h1:1≤a.length:=hlen.1
  rw [show LJ ⟨5,n,a⟩ (An D)=Sh (Aa (An D (AX a 0))) by simp [LJ]]
  exact Od L es N D 5 n a _ hD (ha _ (first h1)) h1 D_ D_ D_ D_ D_ (mg L es N D n a _ (Av _))
 ·dsimp only at h
  subst h
  have h1:1≤a.length:=hlen.1
  rw [show LJ ⟨8,n,a⟩ (An D)=PN (Aa (An D (AX a 0))) (LH ((a.drop 1).map (An D))) by simp [LJ]]
  exact Od L es N D 8 n a _ hD (ha _ (first h1)) h1 D_ D_ D_ D_ D_ (jx L es N D n a hD ha h400 h1 _ (Av _))
 ·dsimp only at h h5
  subst h
  have h2:2≤a.length:=hlen.1
  have h3:=hargs _ (first O_)
  rw [show LJ ⟨7,n,a⟩ (An D)=PT (Aa (An D (AX a 1))) ((An D (AX a 0)).take 32) (LH ((a.drop 2).map (An D))) by simp [LJ]]
  have hp:32≤(An D (AX a 0)).length:=by rw [hq _ (ha _ (first O_)) h5];decide
  exact Vo L es N D n a _ (jP L es N D n a (AX a 0).toNat O_ hN O_ hD ha h400 h2 h5 hp)
theorem oM(L:List Nd)(g:Int→AB 8)(y:Nd):vX y (LI LJ L g y).1:=fun h5=>by
 have:LI LJ L g y=LJ y g:=by
  unfold LI
  rw [if_neg O_,if_neg O_,if_neg O_,if_neg O_,if_neg O_,if_neg O_,if_neg O_]
 rw [this]
 unfold LJ
 rw [if_pos h5]
 exact SK _
theorem lp(L:List Nd)(es:List (Value×C1))(N i:Nat)(hN:L.length=N)(hNl:N≤1048576)(hi:i<N)(hA:EB L):
  Ev prog (.call 22 [.c (.ptr 0 0),.c (.val (.int .i64 (i:Int)))] [.row false (.ac [.sl 1 0 N N 3,.mp 2]),.row false (.an L),.row false (.mp es)]) (.val (.tup [.c (.bs (JB LJ L i).1),.c (.val (.int .i64 (((JB LJ L i).2:Nat):Int)))]) [.row false (.ac [.sl 1 0 N N 3,.mp 2]),.row false (.an L),.row false (.mp es)]):=
 ZH vX LJ L es N i hN hNl hi hA (fun D k _ _ _ _=>oM _ _ _) (fun D k hk hD hq ha h=>xA es hN hA (by have:=(Ee L i _ hk).2;omega) hD hq ha h)
theorem aU(a:List Int)(ha:a.length≤1000000):Ev prog (.call 47 [.c (.is a)] []) (.val (.c (.sl 0 0 a.length a.length 1)) [.row true (.ai a)]):=by
 refine AJ func47 rfl ntmps47 rfl AN ?_;refine P7 ?_;refine BB ?_;refine A2 (qL rfl rfl underlying41 underlying41 bm Hn O_ AN) AK rfl ?_;exact DP
theorem rA{a b:List Int}(hl:a.length=b.length):a=b↔ ∀i,i<a.length→AX a i=AX b i:=by
 constructor
 ·rintro rfl i _;rfl
 ·intro h
  refine List.ext_getElem hl fun i h1 h2=>?_
  have:=h i h1
  simpa [AX,h1,h2] using this
theorem di(k:r)(h:Hid r→g:=by intro h;refine AE (Ff rfl rfl underlying41 OF O_) rfl ?_;exact h.out):g:=h ⟨k⟩
theorem fM(a b:List Int)(n m c d:Nat)(hn:a.length=n)(hm:b.length=m)(hnl:n≤1000000)(hml:m≤1000000):Ev prog (.call 49 [.c (.sl 0 0 n c 1),.c (.sl 1 0 m d 1)] [.row false (.ai a),.row false (.ai b)]) (.val (.c (.val (.bool (decide (a=b))))) [.row false (.ai a),.row false (.ai b)]):=by
 by_cases hl:n=m
 ·subst hl
  refine AJ func49 rfl ntmps49 rfl AN ?_;refine Hk ?_;refine HN ?_;refine AO ?_;refine HN ?_;refine L3 ?_;refine AS ?_;refine A7 ?_;refine DL [0,1,5] (fun (j:Nat)=>⟨26,AQ [0,1,5] [.c (.sl 0 0 n c 1),.c (.sl 1 0 n d 1),Aj (j:Int)],[.row false (.ai a),.row false (.ai b)]⟩) (fun j=>n-j) (fun j=>j≤n∧ ∀i,i<j→AX a i=AX b i) 0 K_ ⟨Nat.zero_le _,fun i hi=>absurd hi (Nat.not_lt_zero i)⟩ ?_
  rintro j ⟨hj,hB⟩
  by_cases hlt:j<n
  ·refine S_ ?_
   refine CX ?_;refine AO ?_;refine HN ?_;refine CF ?_;refine A1 ?_;refine KA ?_;refine By ?_;refine di ?_;refine AE (Iz rfl rfl B6 Dp) rfl ?_;refine By ?_;refine di ?_;refine AE (Iz rfl rfl B6 Dp) rfl ?_;refine AE (UB rfl rfl) rfl ?_;refine GN ?_;by_cases hc:AX a j=AX b j
   ·refine Bn rfl (by simp [hc]) ?_
    refine BC ?_;refine DG ?_;refine ⟨j+1,K_,by show n-(j+1)<n-j;omega,by omega,fun i hi=>?_⟩
    rcases (by omega:i<j∨i=j) with h | rfl
    ·exact hB i h
    ·exact hc
   ·refine EH rfl (by simp [hc]) ?_
    rw [show decide (a=b)=false from decide_eq_false (fun h=>hc (by rw [h]))]
    refine AG ?_;exact DP
  ·obtain rfl:j=n:=by omega
   rw [show decide (a=b)=true from decide_eq_true ((rA O_).2 (by rw [hn];exact hB))]
   refine BD ?_;refine HN ?_;refine CF ?_;exact Jw
 ·rw [show decide (a=b)=false from decide_eq_false (fun h=>hl (by rw [←hn,←hm,h]))]
  refine AJ func49 rfl ntmps49 rfl AN ?_;refine Hk ?_;refine HN ?_;refine AO ?_;refine HN ?_;refine L3 ?_;exact Jw
theorem LD(k:r)(h:Hid r→g:=by intro h;refine AJ func72 rfl ntmps72 rfl AN ?_;exact h.out):g:=h ⟨k⟩
theorem K3(k:r)(h:Hid r→g:=by intro h;refine AA (Il (b:=400) rfl rfl) rfl ?_;exact h.out):g:=h ⟨k⟩
theorem VR(k:r)(h:Hid r→g:=by intro h;refine AA (B4 (b:=1) rfl rfl) rfl ?_;exact h.out):g:=h ⟨k⟩
theorem Ho(k:r)(h:Hid r→g:=by intro h;refine AA (B4 (b:=0) rfl rfl) rfl ?_;exact h.out):g:=h ⟨k⟩
theorem T8(k:Int)(n:Nat)(hk:1≤k∧k≤9)(hn:n≤1000000):Ev prog (.call 72 [Aj k,Aj (n:Int)] []) (.val (.c (.val (.bool (decide (Cr k≤n∧n≤FV k))))) []):=by
 have hml:=Dj k
 by_cases h400:400<n
 ·rw [show decide (Cr k≤n∧n≤FV k)=false from decide_eq_false O_]
  refine LD ?_;refine Hk ?_;refine K3 ?_;exact Jw
 clear hml
 rcases (by omega:k=1∨k=2∨k=3∨k=4∨k=5∨k=6∨k=7∨k=8∨k=9) with rfl | rfl | rfl | rfl | rfl | rfl | rfl | rfl | rfl
 ·rw [show decide (Cr 1≤n∧n≤FV 1)=decide (n=0) from decide_eq_decide.2 (by show 0≤n∧n≤0↔n=0;omega)]
  refine LD ?_;refine Hk ?_;refine K3 ?_;refine AW ?_;refine AS ?_;refine VR ?_;refine AY ?_;refine Ho ?_;exact DP
 ·rw [show decide (Cr 2≤n∧n≤FV 2)=decide (n=0) from decide_eq_decide.2 (by show 0≤n∧n≤0↔n=0;omega)]
  refine LD ?_;refine Hk ?_;refine K3 ?_;refine AW ?_;refine GS ?_;refine AA (B4 (b:=2) rfl rfl) rfl ?_;refine AY ?_;refine Ho ?_;exact DP
 ·rw [show decide (Cr 3≤n∧n≤FV 3)=true from decide_eq_true ⟨Nat.zero_le _,by show n≤400;omega⟩]
  refine LD ?_;refine Hk ?_;refine K3 ?_;refine AW ?_;refine GS ?_;refine FG ?_;refine Gg ?_;refine Ad ?_;refine It ?_;refine Ad ?_;refine PL ?_;refine Ad ?_;refine QT ?_;refine Ad ?_;exact DP
 ·rw [show decide (Cr 4≤n∧n≤FV 4)=decide (n=1) from decide_eq_decide.2 (by show 1≤n∧n≤1↔n=1;omega)]
  refine LD ?_;refine Hk ?_;refine K3 ?_;refine AW ?_;refine GS ?_;refine FG ?_;refine AA (B4 (b:=4) rfl rfl) rfl ?_;refine AY ?_;refine VR ?_;exact DP
 ·rw [show decide (Cr 5≤n∧n≤FV 5)=decide (n=1) from decide_eq_decide.2 (by show 1≤n∧n≤1↔n=1;omega)]
  refine LD ?_;refine Hk ?_;refine K3 ?_;refine AW ?_;refine GS ?_;refine FG ?_;refine Gg ?_;refine AY ?_;refine VR ?_;exact DP
 ·rw [show decide (Cr 6≤n∧n≤FV 6)=decide (1≤n) from decide_eq_decide.2 (by show 1≤n∧n≤400↔1≤n;omega)]
  refine LD ?_;refine Hk ?_;refine K3 ?_;refine AW ?_;refine GS ?_;refine FG ?_;refine Gg ?_;refine Ad ?_;refine It ?_;refine AY ?_;refine AA (MZ (b:=1) rfl rfl) rfl ?_;exact DP
 ·rw [show decide (Cr 7≤n∧n≤FV 7)=decide (2≤n) from decide_eq_decide.2 (by show 2≤n∧n≤400↔2≤n;omega)]
  refine LD ?_;refine Hk ?_;refine K3 ?_;refine AW ?_;refine GS ?_;refine FG ?_;refine Gg ?_;refine Ad ?_;refine It ?_;refine Ad ?_;refine PL ?_;refine Ad ?_;refine QT ?_;refine AY ?_;refine AA (MZ (b:=2) rfl rfl) rfl ?_;exact DP
 ·rw [show decide (Cr 8≤n∧n≤FV 8)=decide (1≤n) from decide_eq_decide.2 (by show 1≤n∧n≤400↔1≤n;omega)]
  refine LD ?_;refine Hk ?_;refine K3 ?_;refine AW ?_;refine GS ?_;refine FG ?_;refine Gg ?_;refine Ad ?_;refine It ?_;refine Ad ?_;refine PL ?_;refine AY ?_;refine AA (MZ (b:=1) rfl rfl) rfl ?_;exact DP
 ·rw [show decide (Cr 9≤n∧n≤FV 9)=true from decide_eq_true ⟨Nat.zero_le _,by show n≤400;omega⟩]
  refine LD ?_;refine Hk ?_;refine K3 ?_;refine AW ?_;refine GS ?_;refine FG ?_;refine Gg ?_;refine Ad ?_;refine It ?_;refine Ad ?_;refine PL ?_;refine Ad ?_;refine QT ?_;refine Ad ?_;exact DP
theorem mr(a b:List Int)(hn:a.length≤1000000)(hm:b.length≤1000000):Ev prog (.call 49 [.c (.is a),.c (.is b)] []) (.val (.c (.val (.bool (decide (a=b))))) []):=
 Ev.partsB (m:=[]) (m':=[.row false (.ai a),.row false (.ai b)]) (N:=[]) (N':=[]) [none,none] [0,1] (.no (.no .nil)) (.c (.same rfl) (.c (.same rfl) .nil)) (.is rfl rfl (.is rfl rfl .nil)) rfl rfl (fM a b a.length b.length a.length b.length rfl rfl hn hm) rfl rfl
theorem mR(a b:List Int)(n c:Nat)(ha:a.length=n)(hn:n≤1000000)(hm:b.length≤1000000):Ev prog (.call 49 [.c (.sl 0 0 n c 1),.c (.is b)] [.row false (.ai a)]) (.val (.c (.val (.bool (decide (a=b))))) [.row false (.ai a)]):=
 Ev.partsB (m:=[.row false (.ai a)]) (m':=[.row false (.ai a),.row false (.ai b)]) (N:=[]) (N':=[]) [some (0,0),none] [1] (.all rfl rfl (.no .nil)) (.c (.sl rfl rfl) (.c (.same rfl) .nil)) (.same (.is rfl rfl .nil)) rfl rfl (fM a b n b.length c b.length ha rfl hn hm) rfl rfl
def HQ(a:List Int)(n:Nat):List Int:=a.map fun x=>if 0<n∧0≤x then x%(n:Int) else x
theorem WS(a:List Int)(n:Nat):(HQ a n).length=a.length:=by simp [HQ]
theorem NN(k:r)(h:Hid r→g:=by intro h;refine AA (IS rfl rfl O_ O_) rfl ?_;exact h.out):g:=h ⟨k⟩
theorem ph(a:List Int)(n:Nat)(ha:a.length≤1000000)(_hn:n≤1000000)(hr:∀x∈a,-9223372036854775808≤x∧x≤9223372036854775807):Ev prog (.call 32 [.c (.is a),Aj (n:Int)] []) (.val (.c (.sl 0 0 a.length a.length 1)) [.row true (.ai (HQ a n))]):=by
 obtain ⟨l,hl⟩:∃l,l=a.length:=⟨_,rfl⟩
 have hsl:(HQ a n).length=l:=by rw [WS,hl]
 have hget:∀j (h:j<l),(HQ a n)[j]'O_=if 0<n∧0≤AX a j then AX a j%(n:Int) else AX a j:=fun j h=>by
  simp [HQ,AX,show j<a.length by omega]
 have hstep:∀j,j<l→(HQ a n).take j++[if 0<n∧0≤AX a j then AX a j%(n:Int) else AX a j]=(HQ a n).take (j+1):=fun j h=>by
  rw [List.take_succ_eq_append_getElem O_,hget j h]
 have htl:∀j,j≤l→((HQ a n).take j).length=j:=fun j h=>by rw [List.length_take];omega
 refine AJ func32 rfl ntmps32 rfl AN ?_;refine P7 ?_;refine Ad ?_;refine Bv ?_;refine Q_ ?_;refine Jn 5 1 (.ai []) rfl rfl AN rfl ?_;refine S_ ?_;refine DL [0,1,5,6] (fun (j:Nat)=>⟨32,AQ [0,1,5,6] [.c (.is a),Aj (n:Int),.c (.sl 0 0 j j 1),Aj (j:Int)],[.row true (.ai ((HQ a n).take j))]⟩) (fun j=>l-j) (fun j=>j≤l) 0 K_ (Nat.zero_le _) ?_
 intro j hj
 by_cases hlt:j<l
 ·have hs:=hstep j hlt
  have ht:=htl j hj
  have hja:j<a.length:=by omega
  generalize (HQ a n).take j=T at*
  generalize (HQ a n).take (j+1)=T' at*
  refine BD ?_;refine IF ?_;refine CF ?_;refine FK ?_;refine U7 ?_;refine bD ?_;refine Bv ?_;by_cases hn0:0<n
  ·by_cases hx:0≤AX a j
   ·rw [if_pos ⟨hn0,hx⟩] at hs
    obtain ⟨m,hm⟩:∃m:Nat,AX a j=(m:Int):=⟨(AX a j).toNat,by omega⟩
    have hmb:=(hr (AX a j) (by simp [AX,hja])).2
    rw [hm] at hs hmb ⊢
    rw [show (m:Int)%(n:Int)=((m%n:Nat):Int) from rfl] at hs
    refine BC ?_;refine MU ?_;refine BZ ?_;refine RA ?_;refine C4 ?_;refine FK ?_;refine NN ?_;refine BB ?_;refine WU ?_;refine Za ?_;refine Bv ?_;rw [hs]
    refine BC ?_;refine DG ?_;exact ⟨j+1,K_,by show l-(j+1)<l-j;omega,hlt⟩
   ·rw [if_neg (fun h=>hx h.2)] at hs
    generalize AX a j=x at*
    refine BC ?_;refine MU ?_;refine BZ ?_;refine PK ?_;refine C4 ?_;refine E6 ?_;refine Bn rfl (decide_eq_false hx) ?_;refine BD ?_;refine WU ?_;refine Za ?_;refine Bv ?_;rw [hs]
    refine BC ?_;refine DG ?_;exact ⟨j+1,K_,by show l-(j+1)<l-j;omega,hlt⟩
  ·rw [if_neg (fun h=>hn0 h.1)] at hs
   generalize AX a j=x at*
   refine BC ?_;refine MU ?_;refine Lk ?_;refine Ba ?_;refine FK ?_;refine WU ?_;refine Za ?_;refine Bv ?_;rw [hs]
   refine BC ?_;refine DG ?_;exact ⟨j+1,K_,by show l-(j+1)<l-j;omega,hlt⟩
 ·obtain rfl:j=l:=by omega
  have e:(HQ a n).take j=HQ a n:=List.take_of_length_le O_
  rw [e,←hl]
  clear hget hstep htl e
  generalize HQ a n=T at*
  refine BD ?_;refine IF ?_;refine CF ?_;refine AW ?_;exact DP
def oC(a:List Int)(j:Nat):List Int:=List.replicate j (-7777)++a.drop j
theorem pj(a:List Int)(j:Nat)(h:j≤a.length):(oC a j).length=a.length:=by unfold oC;simp;omega
theorem qA(a:List Int)(j:Nat)(h:j<a.length):Vg (oC a j) j (-7777)=oC a (j+1):=by
 unfold oC Vg
 refine List.ext_getElem (by simp;omega) fun i h1 h2=>?_
 rw [List.getElem_set]
 by_cases e:j=i
 ·subst e
  rw [if_pos rfl,List.getElem_append_left (by simp)]
  simp
 ·rw [if_neg e]
  by_cases hi:i<j
  ·rw [List.getElem_append_left (by simp;omega),List.getElem_append_left (by simp;omega)];simp
  ·rw [List.getElem_append_right (by simp;omega),List.getElem_append_right (by simp;omega)]
   simp only [List.length_replicate,List.getElem_drop]
   congr 1;omega
theorem Rv(a:List Int)(n cap:Nat)(ha:a.length=n)(hn:n≤1000000):Ev prog (.call 50 [.c (.sl 0 0 n cap 1)] [.row true (.ai a)]) (.val (.tup []) [.row true (.ai (List.replicate n (-7777)))]):=by
 subst ha
 have h0:oC a 0=a:=by simp [oC]
 have hE:oC a a.length=List.replicate a.length (-7777):=by simp [oC]
 refine AJ func50 rfl ntmps50 rfl AN ?_;refine AG ?_;refine A7 ?_;refine DL [0,2] (fun (j:Nat)=>⟨12,AQ [0,2] [.c (.sl 0 0 a.length cap 1),Aj (j:Int)],[.row true (.ai (oC a j))]⟩) (fun j=>a.length-j) (fun j=>j≤a.length) 0 (by rw [h0];kernel_rfl) (Nat.zero_le _) ?_
 intro j hj
 have hl:=pj a j hj
 by_cases hlt:j<a.length
 ·have hs:=qA a j hlt
  generalize oC a j=T at*
  refine BD ?_;refine HN ?_;refine CF ?_;refine FK ?_;refine lX ?_;refine kA rfl rfl rfl OF Dp AK ?_;refine AM ?_;rw [hs]
  refine BC ?_;refine DG ?_;exact ⟨j+1,K_,by show a.length-(j+1)<a.length-j;omega,hlt⟩
 ·obtain rfl:j=a.length:=by omega
  rw [hE] at hl ⊢
  generalize List.replicate a.length (-7777:Int)=T at*
  refine BD ?_;refine HN ?_;refine CF ?_;refine A1 ?_;exact uq (by (exact .inl rfl)) (by (kernel_rfl))
end Go.Proofs.YtmbepikkgkcgkaaGreatDoor
