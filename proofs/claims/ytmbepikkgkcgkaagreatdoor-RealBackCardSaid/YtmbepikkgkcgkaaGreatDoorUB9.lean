/- Merged and shortened by a program: part 9. -/
import Derived.Test.YtmbepikkgkcgkaaGreatDoorUB8
set_option maxRecDepth 100000
set_option maxHeartbeats 8000000
namespace Go.Proofs.YtmbepikkgkcgkaaGreatDoor
variable {g r : Prop}
open Go.Proofs.Tryz
end Go.Proofs.YtmbepikkgkcgkaaGreatDoor
namespace Go.Proofs.YtmbepikkgkcgkaaGreatDoor
open Go.RowKit
variable {g r : Prop}
open Go.Proofs.Tryz
def lV(a:AB 64):Nat:=(nth a 0).toNat+(nth a 1).toNat*2251799813685248+(nth a 2).toNat*5070602400912917605986812821504+(nth a 3).toNat*11417981541647679048466287755595961091061972992+(nth a 4).toNat*25711008708143844408671393477458601640355247900524685364822016
def wV(a:AB 64):Nat:=(nth a 0).toNat+(nth a 1).toNat*18446744073709551616+(nth a 2).toNat*340282366920938463463374607431768211456+(nth a 3).toNat*6277101735386680763835789423207666416102355444464034512896
def LF(a:AB 64):Fp:=zf (lV a)
def vc(n:Nat)(a:AB 64):Prop:=a.length=5∧(nth a 0).toNat<n∧(nth a 1).toNat<n∧(nth a 2).toNat<n∧(nth a 3).toNat<n∧(nth a 4).toNat<n
abbrev C7(a:AB 64):Prop:=vc 4503599627370496 a
theorem Ub{a:AB 64}(h:a.length=5):∃a0 a1 a2 a3 a4,a=[a0,a1,a2,a3,a4]:=by
 match a,h with
 |[a0,a1,a2,a3,a4],_=>exact ⟨_,_,_,_,_,rfl⟩
theorem B7{x y:BitVec 64}(h:x.toNat+y.toNat<18446744073709551616):(x+y).toNat=x.toNat+y.toNat:=by
 rw [BitVec.toNat_add,Nat.mod_eq_of_lt O_]
theorem FB(x:BitVec 64)(k:Nat):(x>>>k).toNat=x.toNat/2^k:=by
 rw [BitVec.toNat_ushiftRight,Nat.shiftRight_eq_div_pow]
theorem YR(x:BitVec 64):(x>>>51).toNat=x.toNat/2251799813685248:=FB x 51
theorem Mj{x y:BitVec 64}(j:Nat)(hx:x.toNat<2^j):(x ||| y<<<j).toNat=x.toNat+y.toNat*2^j%18446744073709551616:=by
 rw [BitVec.toNat_or,BitVec.toNat_shiftLeft,Nat.shiftLeft_eq]
 rcases Nat.lt_or_ge 64 j with hj | hj
 ·have e:y.toNat*2^j%2^64=0:=by
   obtain ⟨k,rfl⟩:∃k,j=64+k:=⟨j-64,by omega⟩
   rw [Nat.pow_add,show y.toNat*(2^64*2^k)=2^64*(y.toNat*2^k) from by grobner,Nat.mul_mod_right]
  rw [e,Nat.or_zero,Nat.add_zero]
 ·have e:y.toNat*2^j%2^64=y.toNat%2^(64-j)*2^j:=by
   have:(2:Nat)^64=2^(64-j)*2^j:=by rw [←Nat.pow_add,show 64-j+j=64 by omega]
   rw [this,Nat.mul_mod_mul_right]
  rw [show (18446744073709551616:Nat)=2^64 from rfl,e,Nat.or_comm,←Nat.shiftLeft_eq,←Nat.shiftLeft_add_eq_or_of_lt hx,Nat.shiftLeft_eq,Nat.add_comm]
def yY(a0 a1 a2 a3 a4:BitVec 64):AB 64×BitVec 64:=
 let s0:=a0+0#64
 let s1:=a1+s0>>>51
 let s2:=a2+s1>>>51
 let s3:=a3+s2>>>51
 let s4:=a4+s3>>>51
 ([s0&&&2251799813685247#64,s1&&&2251799813685247#64,s2&&&2251799813685247#64,s3&&&2251799813685247#64,s4&&&2251799813685247#64],s4>>>51)
theorem iW(a0 a1 a2 a3 a4:BitVec 64):DB [a0,a1,a2,a3,a4] 5=((yY a0 a1 a2 a3 a4).2,(yY a0 a1 a2 a3 a4).1):=by kernel_rfl
theorem Xp(a0 a1 a2 a3 a4:BitVec 64)(h0:a0.toNat<9223372036854775808)(h1:a1.toNat<9223372036854775808)(h2:a2.toNat<9223372036854775808)(h3:a3.toNat<9223372036854775808)(h4:a4.toNat<9223372036854775808):
  ∃r0 r1 r2 r3 r4 c:BitVec 64,yY a0 a1 a2 a3 a4=([r0,r1,r2,r3,r4],c)∧r0.toNat<2251799813685248∧r1.toNat<2251799813685248∧r2.toNat<2251799813685248∧r3.toNat<2251799813685248∧r4.toNat<2251799813685248∧
   a0.toNat+a1.toNat*2251799813685248+a2.toNat*5070602400912917605986812821504+a3.toNat*11417981541647679048466287755595961091061972992+a4.toNat*25711008708143844408671393477458601640355247900524685364822016=
   r0.toNat+r1.toNat*2251799813685248+r2.toNat*5070602400912917605986812821504+r3.toNat*11417981541647679048466287755595961091061972992+r4.toNat*25711008708143844408671393477458601640355247900524685364822016+c.toNat*57896044618658097711785492504343953926634992332820282019728792003956564819968:=by
 refine ⟨_,_,_,_,_,_,rfl,?_⟩
 have e0:(a0+0#64).toNat=a0.toNat:=by rw [BitVec.add_zero]
 generalize a0+0#64=s0 at*
 have c0:=YR s0
 have e1:=B7 (x:=a1) (y:=s0>>>51) O_
 generalize a1+s0>>>51=s1 at*
 have c1:=YR s1
 have e2:=B7 (x:=a2) (y:=s1>>>51) O_
 generalize a2+s1>>>51=s2 at*
 have c2:=YR s2
 have e3:=B7 (x:=a3) (y:=s2>>>51) O_
 generalize a3+s2>>>51=s3 at*
 have c3:=YR s3
 have e4:=B7 (x:=a4) (y:=s3>>>51) O_
 generalize a4+s3>>>51=s4 at*
 have c4:=YR s4
 have m0:=D3 s0
 have m1:=D3 s1
 have m2:=D3 s2
 have m3:=D3 s3
 have m4:=D3 s4
 rw [m0,m1,m2,m3,m4]
 omega
theorem QF{a:AB 64}(h:vc 9223372036854775808 a):∃r0 r1 r2 r3 r4 c:Nat,(BD a).length=5∧(nth (BD a) 0).toNat=r0+19*c∧(nth (BD a) 1).toNat=r1∧(nth (BD a) 2).toNat=r2∧(nth (BD a) 3).toNat=r3∧(nth (BD a) 4).toNat=r4∧
  r0<2251799813685248∧r1<2251799813685248∧r2<2251799813685248∧r3<2251799813685248∧r4<2251799813685248∧
  lV a=r0+r1*2251799813685248+r2*5070602400912917605986812821504+r3*11417981541647679048466287755595961091061972992+r4*25711008708143844408671393477458601640355247900524685364822016+c*57896044618658097711785492504343953926634992332820282019728792003956564819968:=by
 obtain ⟨hl,h0,h1,h2,h3,h4⟩:=h
 obtain ⟨a0,a1,a2,a3,a4,rfl⟩:=Ub hl
 obtain ⟨r0,r1,r2,r3,r4,c,he,g0,g1,g2,g3,g4,g5⟩:=Xp a0 a1 a2 a3 a4 h0 h1 h2 h3 h4
 have hc:c.toNat≤8192:=by
  change a0.toNat<_ at h0
  change a1.toNat<_ at h1
  change a2.toNat<_ at h2
  change a3.toNat<_ at h3
  change a4.toNat<_ at h4
  omega
 have hm:(19#64*c).toNat=19*c.toNat:=by rw [BitVec.toNat_mul];show 19*c.toNat%_=_;rw [Nat.mod_eq_of_lt O_]
 have hs:BD [a0,a1,a2,a3,a4]=[r0+19#64*c,r1,r2,r3,r4]:=by
  unfold BD
  rw [iW,he]
  rfl
 rw [hs]
 refine ⟨r0.toNat,r1.toNat,r2.toNat,r3.toNat,r4.toNat,c.toNat,rfl,?_,rfl,rfl,rfl,rfl,g0,g1,g2,g3,g4,g5⟩
 show (r0+19#64*c).toNat=_
 rw [B7 (by rw [hm];omega),hm]
theorem AAs{a:AB 64}{n:Nat}(h:vc n a):lV a<n*25711008708143855827028953938453824840009041150452446465556481+1:=by
 obtain ⟨hl,h0,h1,h2,h3,h4⟩:=h
 unfold lV
 omega
theorem dq{x y c:Nat}(h:x=y+c*57896044618658097711785492504343953926634992332820282019728792003956564819968):zf x=zf (y+19*c):=by
 rw [Wl,h]
 show _%57896044618658097711785492504343953926634992332820282019728792003956564819949=_%57896044618658097711785492504343953926634992332820282019728792003956564819949
 omega
theorem OB{a:AB 64}(h:vc 72057594037927936 a):C7 (BD a)∧LF (BD a)=LF a:=by
 have hlt:=AAs h
 obtain ⟨hl,h0,h1,h2,h3,h4⟩:=h
 obtain ⟨r0,r1,r2,r3,r4,c,gl,e0,e1,e2,e3,e4,g0,g1,g2,g3,g4,g5⟩:=QF (a:=a) ⟨hl,by omega,by omega,by omega,by omega,by omega⟩
 have hc:c≤32:=by omega
 refine ⟨⟨gl,by omega,by omega,by omega,by omega,by omega⟩,?_⟩
 unfold LF
 rw [dq g5]
 congr 1
 unfold lV
 rw [e0,e1,e2,e3,e4]
 omega
theorem xp(a0 a1 a2 a3 a4 b0 b1 b2 b3 b4:BitVec 64):FN [a0,a1,a2,a3,a4] [b0,b1,b2,b3,b4] 5=[a0+b0,a1+b1,a2+b2,a3+b3,a4+b4]:=by kernel_rfl
theorem Ij{a b:AB 64}(ha:C7 a)(hb:C7 b):C7 (AW a b)∧LF (AW a b)=LF a+LF b:=by
 obtain ⟨hl,h0,h1,h2,h3,h4⟩:=ha
 obtain ⟨gl,g0,g1,g2,g3,g4⟩:=hb
 obtain ⟨a0,a1,a2,a3,a4,rfl⟩:=Ub hl
 obtain ⟨b0,b1,b2,b3,b4,rfl⟩:=Ub gl
 unfold AW
 rw [xp]
 change a0.toNat<_ at h0;change a1.toNat<_ at h1;change a2.toNat<_ at h2;change a3.toNat<_ at h3;change a4.toNat<_ at h4
 change b0.toNat<_ at g0;change b1.toNat<_ at g1;change b2.toNat<_ at g2;change b3.toNat<_ at g3;change b4.toNat<_ at g4
 have e0:=B7 (x:=a0) (y:=b0) O_
 have e1:=B7 (x:=a1) (y:=b1) O_
 have e2:=B7 (x:=a2) (y:=b2) O_
 have e3:=B7 (x:=a3) (y:=b3) O_
 have e4:=B7 (x:=a4) (y:=b4) O_
 have hlow:vc 72057594037927936 [a0+b0,a1+b1,a2+b2,a3+b3,a4+b4]:=⟨rfl,by show (a0+b0).toNat<_;omega,by show (a1+b1).toNat<_;omega,by show (a2+b2).toNat<_;omega,by show (a3+b3).toNat<_;omega,by show (a4+b4).toNat<_;omega⟩
 obtain ⟨f1,f2⟩:=OB hlow
 refine ⟨f1,f2.trans ?_⟩
 unfold LF
 rw [←RR]
 congr 1
 show (a0+b0).toNat+(a1+b1).toNat*_+(a2+b2).toNat*_+(a3+b3).toNat*_+(a4+b4).toNat*_=a0.toNat+a1.toNat*_+a2.toNat*_+a3.toNat*_+a4.toNat*_+(b0.toNat+b1.toNat*_+b2.toNat*_+b3.toNat*_+b4.toNat*_)
 rw [e0,e1,e2,e3,e4]
 omega
theorem vm(a0 a1 a2 a3 a4 b0 b1 b2 b3 b4:BitVec 64):FQ [a0,a1,a2,a3,a4] [b0,b1,b2,b3,b4] 5=[a0+(9007199254740916#64-b0),a1+(9007199254740988#64-b1),a2+(9007199254740988#64-b2),a3+(9007199254740988#64-b3),a4+(9007199254740988#64-b4)]:=by kernel_rfl
theorem Rt{x y:BitVec 64}(h:y.toNat≤x.toNat):(x-y).toNat=x.toNat-y.toNat:=BitVec.toNat_sub_of_le (by rw [BitVec.le_def];exact h)
theorem KO{a b:AB 64}(ha:C7 a)(hb:C7 b):C7 (Ao a b)∧LF (Ao a b)=LF a-LF b:=by
 obtain ⟨hl,h0,h1,h2,h3,h4⟩:=ha
 obtain ⟨gl,g0,g1,g2,g3,g4⟩:=hb
 obtain ⟨a0,a1,a2,a3,a4,rfl⟩:=Ub hl
 obtain ⟨b0,b1,b2,b3,b4,rfl⟩:=Ub gl
 unfold Ao
 rw [vm]
 change a0.toNat<_ at h0;change a1.toNat<_ at h1;change a2.toNat<_ at h2;change a3.toNat<_ at h3;change a4.toNat<_ at h4
 change b0.toNat<_ at g0;change b1.toNat<_ at g1;change b2.toNat<_ at g2;change b3.toNat<_ at g3;change b4.toNat<_ at g4
 have p0:(9007199254740916#64:BitVec 64).toNat=9007199254740916:=rfl
 have p1:(9007199254740988#64:BitVec 64).toNat=9007199254740988:=rfl
 have d0:=Rt (x:=9007199254740916#64) (y:=b0) O_
 have d1:=Rt (x:=9007199254740988#64) (y:=b1) O_
 have d2:=Rt (x:=9007199254740988#64) (y:=b2) O_
 have d3:=Rt (x:=9007199254740988#64) (y:=b3) O_
 have d4:=Rt (x:=9007199254740988#64) (y:=b4) O_
 have e0:=B7 (x:=a0) (y:=9007199254740916#64-b0) O_
 have e1:=B7 (x:=a1) (y:=9007199254740988#64-b1) O_
 have e2:=B7 (x:=a2) (y:=9007199254740988#64-b2) O_
 have e3:=B7 (x:=a3) (y:=9007199254740988#64-b3) O_
 have e4:=B7 (x:=a4) (y:=9007199254740988#64-b4) O_
 generalize a0+(9007199254740916#64-b0)=s0 at*
 generalize a1+(9007199254740988#64-b1)=s1 at*
 generalize a2+(9007199254740988#64-b2)=s2 at*
 generalize a3+(9007199254740988#64-b3)=s3 at*
 generalize a4+(9007199254740988#64-b4)=s4 at*
 have hlow:vc 72057594037927936 [s0,s1,s2,s3,s4]:=⟨rfl,by show s0.toNat<_;omega,by show s1.toNat<_;omega,by show s2.toNat<_;omega,by show s3.toNat<_;omega,by show s4.toNat<_;omega⟩
 obtain ⟨f1,f2⟩:=OB hlow
 refine ⟨f1,f2.trans ?_⟩
 have key:LF [s0,s1,s2,s3,s4]+LF [b0,b1,b2,b3,b4]=LF [a0,a1,a2,a3,a4]:=by
  unfold LF
  rw [←RR,Wl]
  have:lV [s0,s1,s2,s3,s4]+lV [b0,b1,b2,b3,b4]=lV [a0,a1,a2,a3,a4]+57896044618658097711785492504343953926634992332820282019728792003956564819949*4:=by
   show s0.toNat+s1.toNat*_+s2.toNat*_+s3.toNat*_+s4.toNat*_+(b0.toNat+b1.toNat*_+b2.toNat*_+b3.toNat*_+b4.toNat*_)=a0.toNat+a1.toNat*_+a2.toNat*_+a3.toNat*_+a4.toNat*_+_
   omega
  rw [this,Nat.add_mul_mod_self_left]
 rw [←key]
 grobner
theorem Ds{x:BitVec 64}(h:x.toNat<4503599627370496):C7 (AI x)∧LF (AI x)=zf x.toNat:=by
 have e:AI x=[x,0#64,0#64,0#64,0#64]:=by unfold AI;rfl
 rw [e]
 have z:(0#64:BitVec 64).toNat<4503599627370496:=by decide
 refine ⟨⟨rfl,h,z,z,z,z⟩,?_⟩
 have:lV [x,0#64,0#64,0#64,0#64]=x.toNat:=by
  show x.toNat+(0#64).toNat*_+(0#64).toNat*_+(0#64).toNat*_+(0#64).toNat*_=_
  rw [show (0#64:BitVec 64).toNat=0 from rfl]
  omega
 unfold LF
 rw [this]
theorem tw{n m:Nat}(f:Nat→AB n)(g:Nat→BitVec n)(h0:(f 0).length=m)(hs:∀j,f (j+1)=put (f j) j (g j)):∀j,(f j).length=m∧ ∀i,i<j→i<m→nth (f j) i=g i:=by
 intro j
 induction j with
 |zero=>exact ⟨h0,fun i hi=>by omega⟩
 |succ j ih=>
  refine ⟨by rw [hs,B1,ih.1],fun i hi hm=>?_⟩
  rw [hs]
  by_cases e:j=i
  ·subst e;rw [DH _ _ _ _ (by rw [ih.1];exact hm),if_pos rfl]
  ·by_cases hj:j<m
   ·rw [DH _ _ _ _ (by rw [ih.1];exact hj),if_neg e];exact ih.2 i O_ hm
   ·rw [show put (f j) j (g j)=f j from List.set_eq_of_length_le (by rw [ih.1];omega)];exact ih.2 i O_ hm
theorem byte_at(w:AB 64)(i:Nat)(hi:i<32):(nth w (i/8)>>>(8*(i%8))).setWidth 8=BitVec.ofNat 8 (wV w/256^i):=by
 apply BitVec.eq_of_toNat_eq
 rw [BitVec.toNat_setWidth,BitVec.toNat_ofNat,FB]
 have h0:=(nth w 0).isLt
 have h1:=(nth w 1).isLt
 have h2:=(nth w 2).isLt
 have h3:=(nth w 3).isLt
 unfold wV
 rcases (by omega:i=0∨i=1∨i=2∨i=3∨i=4∨i=5∨i=6∨i=7∨i=8∨i=9∨i=10∨i=11∨i=12∨i=13∨i=14∨i=15∨i=16∨i=17∨i=18∨i=19∨i=20∨i=21∨i=22∨i=23∨i=24∨i=25∨i=26∨i=27∨i=28∨i=29∨i=30∨i=31) with h | h | h | h | h | h | h | h | h | h | h | h | h | h | h | h | h | h | h | h | h | h | h | h | h | h | h | h | h | h | h | h<;>subst h<;>simp only [Nat.reduceDiv,Nat.reduceMod,Nat.reduceMul,Nat.reducePow]<;>omega
theorem Xd(w:AB 64)(f:Nat→AB 8)(h0:(f 0).length=32)(hs:∀j,f (j+1)=put (f j) j ((nth w (j/8)>>>(8*(j%8))).setWidth 8)):f 32=XZ (wV w):=by
 obtain ⟨hl,hn⟩:=tw f (fun j=>(nth w (j/8)>>>(8*(j%8))).setWidth 8) h0 hs 32
 refine Vx (by rw [hl,Kr]) fun i hi=>?_
 rw [hl] at hi
 rw [hn i hi hi,SV _ _ hi,byte_at w i hi]
abbrev mq(a:AB 64):Prop:=vc 2251799813685248 a
theorem jw{a:AB 64}(h:C7 a):mq (BD (BD a))∧LF (BD (BD a))=LF a:=by
 have hf:=OB (a:=a) ⟨h.1,by have:=h.2.1;omega,by have:=h.2.2.1;omega,by have:=h.2.2.2.1;omega,by have:=h.2.2.2.2.1;omega,by have:=h.2.2.2.2.2;omega⟩
 have hf2:=OB (a:=BD a) ⟨hf.1.1,by have:=hf.1.2.1;omega,by have:=hf.1.2.2.1;omega,by have:=hf.1.2.2.2.1;omega,by have:=hf.1.2.2.2.2.1;omega,by have:=hf.1.2.2.2.2.2;omega⟩
 refine ⟨?_,hf2.2.trans hf.2⟩
 obtain ⟨hl,h0,h1,h2,h3,h4⟩:=h
 obtain ⟨r0,r1,r2,r3,r4,c,gl,e0,e1,e2,e3,e4,g0,g1,g2,g3,g4,g5⟩:=QF (a:=a) ⟨hl,by omega,by omega,by omega,by omega,by omega⟩
 have hc:c≤2:=by unfold lV at g5;omega
 obtain ⟨q0,q1,q2,q3,q4,d,kl,f0,f1,f2,f3,f4,k0,k1,k2,k3,k4,k5⟩:=QF (a:=BD a) ⟨gl,by omega,by omega,by omega,by omega,by omega⟩
 unfold lV at k5
 rw [e0,e1,e2,e3,e4] at k5
 refine ⟨kl,?_,?_,?_,?_,?_⟩<;>omega
theorem mu{a:AB 64}(h:mq a):BD a=a:=by
 have hl:=h.1
 have h0:=h.2.1
 have h1:=h.2.2.1
 have h2:=h.2.2.2.1
 have h3:=h.2.2.2.2.1
 have h4:=h.2.2.2.2.2
 obtain ⟨r0,r1,r2,r3,r4,c,gl,e0,e1,e2,e3,e4,g0,g1,g2,g3,g4,g5⟩:=QF (a:=a) ⟨hl,by omega,by omega,by omega,by omega,by omega⟩
 unfold lV at g5
 refine Vx (by rw [gl,hl]) fun i hi=>?_
 rw [gl] at hi
 apply BitVec.eq_of_toNat_eq
 rcases (by omega:i=0∨i=1∨i=2∨i=3∨i=4) with h | h | h | h | h<;>subst h<;>omega
theorem rj(a:AB 64)(j:Nat):CS a j=DB (put (BD (BD (BD a))) 0 ((nth (BD (BD (BD a))) 0)+19#64)) j:=by
 induction j with
 |zero=>rfl
 |succ j ih=>rw [CS,DB,ih];rfl
def w4(a:AB 64):AB 64:=[(nth a 0) ||| ((nth a 1)<<<51),((nth a 1)>>>13) ||| ((nth a 2)<<<38),((nth a 2)>>>26) ||| ((nth a 3)<<<25),((nth a 3)>>>39) ||| ((nth a 4)<<<12)]
theorem qz{a:AB 64}(h:mq a):wV (w4 a)=lV a:=by
 obtain ⟨hl,h0,h1,h2,h3,h4⟩:=h
 have e1:=FB (nth a 1) 13
 have e2:=FB (nth a 2) 26
 have e3:=FB (nth a 3) 39
 simp only [Nat.reducePow] at e1 e2 e3
 have k0:=Mj (x:=nth a 0) (y:=nth a 1) 51 h0
 have k1:=Mj (x:=nth a 1>>>13) (y:=nth a 2) 38 (by rw [e1];show _<274877906944;omega)
 have k2:=Mj (x:=nth a 2>>>26) (y:=nth a 3) 25 (by rw [e2];show _<33554432;omega)
 have k3:=Mj (x:=nth a 3>>>39) (y:=nth a 4) 12 (by rw [e3];show _<4096;omega)
 simp only [Nat.reducePow] at k0 k1 k2 k3
 show ((nth a 0) ||| ((nth a 1)<<<51)).toNat+(((nth a 1)>>>13) ||| ((nth a 2)<<<38)).toNat*_+(((nth a 2)>>>26) ||| ((nth a 3)<<<25)).toNat*_+(((nth a 3)>>>39) ||| ((nth a 4)<<<12)).toNat*_=_
 rw [k0,k1,k2,k3,e1,e2,e3]
 unfold lV
 omega
theorem eU{a:AB 64}(h:C7 a):AO a=XZ (LF a).val:=by
 obtain ⟨h1,h2⟩:=jw h
 have hs:=mu h1
 unfold AO
 rw [hs]
 rw [rj,hs]
 generalize BD (BD a)=t at*
 have run:∀J,CW J 32=XZ (wV (w4 J)):=fun J=>Xd (w4 J) (CW J) rfl fun j=>rfl
 rw [run]
 congr 1
 rw [←h2]
 unfold LF
 rw [IA]
 have ht:=h1
 obtain ⟨hl,g0,g1,g2,g3,g4⟩:=h1
 obtain ⟨t0,t1,t2,t3,t4,rfl⟩:=Ub hl
 change t0.toNat<_ at g0;change t1.toNat<_ at g1;change t2.toNat<_ at g2;change t3.toNat<_ at g3;change t4.toNat<_ at g4
 rw [show put [t0,t1,t2,t3,t4] 0 (nth [t0,t1,t2,t3,t4] 0+19#64)=[t0+19#64,t1,t2,t3,t4] from rfl,iW]
 have e19:(19#64:BitVec 64).toNat=19:=rfl
 have ea:=B7 (x:=t0) (y:=19#64) O_
 obtain ⟨r0,r1,r2,r3,r4,c,he,k0,k1,k2,k3,k4,k5⟩:=Xp (t0+19#64) t1 t2 t3 t4 O_ O_ O_ O_ O_
 rw [he]
 show wV (w4 (if (0#64).toNat<c.toNat then [r0,r1,r2,r3,r4] else [t0,t1,t2,t3,t4]))=_
 have hv:lV [t0,t1,t2,t3,t4]=t0.toNat+t1.toNat*2251799813685248+t2.toNat*5070602400912917605986812821504+t3.toNat*11417981541647679048466287755595961091061972992+t4.toNat*25711008708143844408671393477458601640355247900524685364822016:=rfl
 have hr:lV [r0,r1,r2,r3,r4]=r0.toNat+r1.toNat*2251799813685248+r2.toNat*5070602400912917605986812821504+r3.toNat*11417981541647679048466287755595961091061972992+r4.toNat*25711008708143844408671393477458601640355247900524685364822016:=rfl
 have z:(0#64:BitVec 64).toNat=0:=rfl
 show _=_%57896044618658097711785492504343953926634992332820282019728792003956564819949
 split
 ·rename_i hc
  have hc1:c.toNat=1:=by omega
  rw [hc1] at k5
  rw [qz (a:=[r0,r1,r2,r3,r4]) ⟨rfl,k0,k1,k2,k3,k4⟩,hr,hv]
  rw [Nat.mod_eq_sub_mod O_,Nat.mod_eq_of_lt O_]
  omega
 ·rename_i hc
  have hc1:c.toNat=0:=by omega
  rw [hc1] at k5
  rw [qz ht,hv]
  rw [Nat.mod_eq_of_lt O_]
theorem YT(b:AB 8)(f:Nat→AB 64)(h0:f 0=Aj 4)(hs:∀j,f (j+1)=put (f j) (j/8) ((nth (f j) (j/8)) ||| (((nth b j).setWidth 64)<<<(8*(j%8))))):
  ∀j,j≤32→(f j).length=4∧ ∀t,t<4→(nth (f j) t).toNat=jq b t (min 8 (j-8*t)):=by
 intro j
 induction j with
 |zero=>
  intro _
  rw [h0]
  refine ⟨rfl,fun t ht=>?_⟩
  rw [show min 8 (0-8*t)=0 by omega,jq]
  rcases (by omega:t=0∨t=1∨t=2∨t=3) with h | h | h | h<;>subst h<;>rfl
 |succ j ih=>
  intro hj
  obtain ⟨hl,hn⟩:=ih O_
  refine ⟨by rw [hs,B1,hl],fun t ht=>?_⟩
  rw [hs,DH _ _ _ _ (by rw [hl];omega)]
  by_cases e:j/8=t
  ·rw [if_pos e,e]
   have h1:=hn t ht
   have e1:min 8 (j-8*t)=j%8:=by omega
   have e2:min 8 (j+1-8*t)=j%8+1:=by omega
   rw [e1] at h1
   rw [se _ _ _ O_ (by rw [h1];exact ym b t _),h1,e2,jq,show 8*t+j%8=j by omega]
  ·rw [if_neg e,hn t ht]
   congr 1
   omega
theorem Rk(b:AB 8)(t:Nat)(ht:t<4):(nth (Br b 32) t).toNat=jq b t 8:=by
 have:=(YT b (Br b) rfl (fun j=>rfl) 32 (Nat.le_refl _)).2 t ht
 rwa [show min 8 (32-8*t)=8 by omega] at this
theorem Us(b:AB 8):C7 (N6 b)∧LF (N6 b)=zf (D8 b 32):=by
 have v:=jW b
 have v0:=Rk b 0 D_
 have v1:=Rk b 1 D_
 have v2:=Rk b 2 D_
 have v3:=Rk b 3 D_
 unfold N6
 generalize Br b 32=W at*
 generalize hw0:nth W 0=w0 at*
 generalize hw1:nth W 1=w1 at*
 generalize hw2:nth W 2=w2 at*
 generalize hw3:nth W 3=w3 at*
 have b0:=w0.isLt
 have b1:=w1.isLt
 have b2:=w2.isLt
 have b3:=w3.isLt
 have s0:=FB w0 51
 have s1:=FB w1 38
 have s2:=FB w2 25
 have s3:=FB w3 12
 have s4:=FB w3 63
 simp only [Nat.reducePow] at s0 s1 s2 s3 s4
 have o1:=Mj (x:=w0>>>51) (y:=w1) 13 (by rw [s0];show _<8192;omega)
 have o2:=Mj (x:=w1>>>38) (y:=w2) 26 (by rw [s1];show _<67108864;omega)
 have o3:=Mj (x:=w2>>>25) (y:=w3) 39 (by rw [s2];show _<549755813888;omega)
 simp only [Nat.reducePow] at o1 o2 o3
 have m0:=D3 w0
 have m1:=D3 (w0>>>51 ||| w1<<<13)
 have m2:=D3 (w1>>>38 ||| w2<<<26)
 have m3:=D3 (w2>>>25 ||| w3<<<39)
 have m4:=D3 (w3>>>12)
 rw [o1,s0] at m1
 rw [o2,s1] at m2
 rw [o3,s2] at m3
 rw [s3] at m4
 have t4:(19#64*w3>>>63).toNat=19*(w3.toNat/9223372036854775808):=by
  rw [BitVec.toNat_mul,s4]
  show 19*_%_=_
  rw [Nat.mod_eq_of_lt O_]
 have a0:=B7 (x:=w0&&&2251799813685247#64) (y:=19#64*w3>>>63) O_
 show C7 [(w0&&&2251799813685247#64)+19#64*w3>>>63,(w0>>>51 ||| w1<<<13)&&&2251799813685247#64,(w1>>>38 ||| w2<<<26)&&&2251799813685247#64,(w2>>>25 ||| w3<<<39)&&&2251799813685247#64,w3>>>12&&&2251799813685247#64]∧LF [(w0&&&2251799813685247#64)+19#64*w3>>>63,(w0>>>51 ||| w1<<<13)&&&2251799813685247#64,(w1>>>38 ||| w2<<<26)&&&2251799813685247#64,(w2>>>25 ||| w3<<<39)&&&2251799813685247#64,w3>>>12&&&2251799813685247#64]=_
 generalize (w0&&&2251799813685247#64)+19#64*w3>>>63=x0 at*
 generalize (w0>>>51 ||| w1<<<13)&&&2251799813685247#64=x1 at*
 generalize (w1>>>38 ||| w2<<<26)&&&2251799813685247#64=x2 at*
 generalize (w2>>>25 ||| w3<<<39)&&&2251799813685247#64=x3 at*
 generalize w3>>>12&&&2251799813685247#64=x4 at*
 refine ⟨⟨rfl,?_,?_,?_,?_,?_⟩,?_⟩
 ·show x0.toNat<_;omega
 ·show x1.toNat<_;omega
 ·show x2.toNat<_;omega
 ·show x3.toNat<_;omega
 ·show x4.toNat<_;omega
 have y1:x1.toNat=w0.toNat/2251799813685248+8192*(w1.toNat%274877906944):=by omega
 have y2:x2.toNat=w1.toNat/274877906944+67108864*(w2.toNat%33554432):=by omega
 have y3:x3.toNat=w2.toNat/33554432+549755813888*(w3.toNat%4096):=by omega
 have y4:x4.toNat=w3.toNat/4096%2251799813685248:=by omega
 clear m1 m2 m3 m4 o1 o2 o3 s0 s1 s2 s3 s4
 unfold LF
 have e:D8 b 32=(w0.toNat%2251799813685248+x1.toNat*2251799813685248+x2.toNat*5070602400912917605986812821504+x3.toNat*11417981541647679048466287755595961091061972992+x4.toNat*25711008708143844408671393477458601640355247900524685364822016)+(w3.toNat/9223372036854775808)*57896044618658097711785492504343953926634992332820282019728792003956564819968:=by omega
 rw [dq e]
 congr 1
 show x0.toNat+x1.toNat*_+x2.toNat*_+x3.toNat*_+x4.toNat*_=_
 omega
theorem AAM(a0 a1 a2 a3 a4 b0 b1 b2 b3 b4:Nat):(a0+a1*2251799813685248+a2*5070602400912917605986812821504+a3*11417981541647679048466287755595961091061972992+a4*25711008708143844408671393477458601640355247900524685364822016)*(b0+b1*2251799813685248+b2*5070602400912917605986812821504+b3*11417981541647679048466287755595961091061972992+b4*25711008708143844408671393477458601640355247900524685364822016)=(a0*b0+a1*(19*b4)+a2*(19*b3)+a3*(19*b2)+a4*(19*b1))+(a0*b1+a1*b0+a2*(19*b4)+a3*(19*b3)+a4*(19*b2))*2251799813685248+(a0*b2+a1*b1+a2*b0+a3*(19*b4)+a4*(19*b3))*5070602400912917605986812821504+(a0*b3+a1*b2+a2*b1+a3*b0+a4*(19*b4))*11417981541647679048466287755595961091061972992+(a0*b4+a1*b3+a2*b2+a3*b1+a4*b0)*25711008708143844408671393477458601640355247900524685364822016+57896044618658097711785492504343953926634992332820282019728792003956564819949*(a1*b4*1+a2*b3*1+a2*b4*2251799813685248+a3*b2*1+a3*b3*2251799813685248+a3*b4*5070602400912917605986812821504+a4*b1*1+a4*b2*2251799813685248+a4*b3*5070602400912917605986812821504+a4*b4*11417981541647679048466287755595961091061972992):=by grind
theorem ol(x:BitVec 64):(x&&&4294967295#64).toNat=x.toNat%4294967296:=by
 rw [BitVec.toNat_and]
 exact Nat.and_two_pow_sub_one_eq_mod x.toNat 32
theorem Sd{x y:BitVec 64}(h:x.toNat*y.toNat<18446744073709551616):(x*y).toNat=x.toNat*y.toNat:=by
 rw [BitVec.toNat_mul,Nat.mod_eq_of_lt h]
theorem Q3(x y:BitVec 64):(A3 x y).toNat=x.toNat*y.toNat%18446744073709551616:=by
 unfold A3;rw [BitVec.toNat_mul]
theorem Qk(x y:BitVec 64):(EA x y).toNat=x.toNat*y.toNat/18446744073709551616:=by
 obtain ⟨g1,g2,g3,g4⟩:=Go.Lib.mul64_hi x.toNat y.toNat x.isLt y.isLt
 have hx:=x.isLt
 have hy:=y.isLt
 have hxy:x.toNat*y.toNat/18446744073709551616<18446744073709551616:=by
  rw [Nat.div_lt_iff_lt_mul D_]
  exact Nat.mul_lt_mul'' hx hy
 have x1:=FB x 32
 have y1:=FB y 32
 simp only [Nat.reducePow] at x1 y1
 have x0:=ol x
 have y0:=ol y
 have a1:=Go.Lib.half_mul_le (a:=x.toNat/4294967296) (b:=y.toNat/4294967296) O_ O_
 have a2:=Go.Lib.half_mul_le (a:=x.toNat/4294967296) (b:=y.toNat%4294967296) O_ O_
 have a3:=Go.Lib.half_mul_le (a:=x.toNat%4294967296) (b:=y.toNat/4294967296) O_ O_
 have p00:=Sd (x:=x&&&4294967295#64) (y:=y&&&4294967295#64) (by rw [x0,y0];exact g1)
 have p10:=Sd (x:=x>>>32) (y:=y&&&4294967295#64) (by rw [x1,y0];omega)
 have p01:=Sd (x:=x&&&4294967295#64) (y:=y>>>32) (by rw [x0,y1];omega)
 have p11:=Sd (x:=x>>>32) (y:=y>>>32) (by rw [x1,y1];omega)
 rw [x0,y0] at p00
 rw [x1,y0] at p10
 rw [x0,y1] at p01
 rw [x1,y1] at p11
 have s00:=FB ((x&&&4294967295#64)*(y&&&4294967295#64)) 32
 simp only [Nat.reducePow] at s00
 rw [p00] at s00
 have t:=B7 (x:=(x>>>32)*(y&&&4294967295#64)) (y:=((x&&&4294967295#64)*(y&&&4294967295#64))>>>32) (by rw [p10,s00];exact g2)
 rw [p10,s00] at t
 unfold EA
 generalize (x>>>32)*(y&&&4294967295#64)+((x&&&4294967295#64)*(y&&&4294967295#64))>>>32=T at*
 have tl:=ol T
 have ts:=FB T 32
 simp only [Nat.reducePow] at ts
 rw [t] at tl ts
 have u:=B7 (x:=T&&&4294967295#64) (y:=(x&&&4294967295#64)*(y>>>32)) (by rw [tl,p01];exact g3)
 rw [tl,p01] at u
 generalize (T&&&4294967295#64)+(x&&&4294967295#64)*(y>>>32)=U at*
 have us:=FB U 32
 simp only [Nat.reducePow] at us
 rw [u] at us
 have v:=B7 (x:=(x>>>32)*(y>>>32)) (y:=T>>>32) (by rw [p11,ts];omega)
 rw [p11,ts] at v
 have w:=B7 (x:=(x>>>32)*(y>>>32)+T>>>32) (y:=U>>>32) (by rw [v,us];omega)
 rw [w,v,us]
 exact g4
theorem SG{x y:BitVec 64}:(Cw x y 0#64).toNat=(x.toNat+y.toNat)/18446744073709551616:=by
 have:=x.isLt
 have:=y.isLt
 unfold Cw
 rw [BitVec.toNat_ofNat,show (0#64:BitVec 64).toNat=0 from rfl,Nat.add_zero]
 omega
def IK(hi lo:AB 64)(t:Nat):Nat:=(nth hi t).toNat*18446744073709551616+(nth lo t).toNat
theorem pF{hi lo:AB 64}(hh:hi.length=5)(hl:lo.length=5)(x y:BitVec 64){t:Nat}(ht:t<5)(hb:IK hi lo t+x.toNat*y.toNat<340282366920938463463374607431768211456)(s:Nat):
  IK (put hi t (nth hi t+(EA x y+Cw (nth lo t) (A3 x y) 0#64))) (put lo t (nth lo t+A3 x y+0#64)) s=IK hi lo s+(if t=s then x.toNat*y.toNat else 0):=by
 unfold IK at*
 rw [DH _ _ _ _ O_,DH _ _ _ _ O_]
 by_cases e:t=s
 ·subst e
  rw [if_pos rfl,if_pos rfl,if_pos rfl,BitVec.add_zero]
  have e0:=Qk x y
  have e1:=Q3 x y
  have e2:=SG (x:=nth lo t) (y:=A3 x y)
  generalize x.toNat*y.toNat=q at*
  have b0:=(nth lo t).isLt
  have b1:=(A3 x y).isLt
  have f1:=B7 (x:=EA x y) (y:=Cw (nth lo t) (A3 x y) 0#64) (by rw [e0,e2];omega)
  have f2:=B7 (x:=nth hi t) (y:=EA x y+Cw (nth lo t) (A3 x y) 0#64) (by rw [f1,e0,e2];omega)
  rw [f2,f1,e0,e2,BitVec.toNat_add]
  omega
 ·rw [if_neg e,if_neg e,if_neg e,Nat.add_zero]
def jt(a b:AB 64)(i k:Nat):Nat:=(nth a i).toNat*(if 5≤i+k then 19*(nth b k).toNat else (nth b k).toNat)
def sI(a b:AB 64)(i t:Nat):Nat→Nat
 |0=>0
 |k+1=>sI a b i t k+(if (i+k)%5=t then jt a b i k else 0)
def sO(a b:AB 64)(t:Nat):Nat→Nat
 |0=>0
 |i+1=>sO a b t i+sI a b i t 5
theorem ZK{n:Nat}{a:AB 64}(h:vc n a)(i:Nat)(hi:i<5):(nth a i).toNat<n:=by
 obtain ⟨_,h0,h1,h2,h3,h4⟩:=h
 rcases (by omega:i=0∨i=1∨i=2∨i=3∨i=4) with e | e | e | e | e<;>subst e<;>assumption
theorem gq{a b:AB 64}(ha:C7 a)(hb:C7 b)(i k:Nat)(hi:i<5)(hk:k<5):jt a b i k≤649037107316853453566312041152512:=by
 have h1:=ZK ha i hi
 have h2:=ZK hb k hk
 unfold jt
 refine Nat.le_trans (Nat.mul_le_mul (Nat.le_of_lt h1) (show _≤144115188075855872 from ?_)) D_
 split<;>omega
theorem AB3{b:AB 64}(hb:C7 b)(i k:Nat)(hk:k<5):(if 5≤i+k then (nth b k)*19#64 else nth b k).toNat=(if 5≤i+k then 19*(nth b k).toNat else (nth b k).toNat):=by
 have h2:=ZK hb k hk
 split
 ·rw [Sd (by show (nth b k).toNat*19<_;omega)]
  show (nth b k).toNat*19=_
  omega
 ·rfl
theorem vh{a b:AB 64}(ha:C7 a)(hb:C7 b)(i t:Nat)(hi:i<5):∀k,k≤5→sI a b i t k≤k*649037107316853453566312041152512:=by
 intro k
 induction k with
 |zero=>intro _;exact Nat.zero_le _
 |succ k ih=>
  intro hk
  have h1:=ih O_
  have h2:=gq ha hb i k hi O_
  rw [sI,Nat.succ_mul]
  refine Nat.add_le_add h1 ?_;by_cases e:(i+k)%5=t
  ·rw [if_pos e];exact h2
  ·rw [if_neg e];exact Nat.zero_le _
theorem js{a b X1 X2:AB 64}(ha:C7 a)(hb:C7 b)(h1:X1.length=5)(h2:X2.length=5)(i:Nat)(hi:i<5)(hX:∀t,IK X1 X2 t≤i*3245185536584267267831560205762560):∀k,k≤5→
  ∀t,IK (CJ a b X1 X2 i k).1 (CJ a b X1 X2 i k).2 t=IK X1 X2 t+sI a b i t k:=by
 intro k
 induction k with
 |zero=>intro _ t;show IK X1 X2 t=IK X1 X2 t+0;rw [Nat.add_zero]
 |succ k ih=>
  intro hk t
  have hl:=LM a b X1 X2 i ha.1 hb.1 h1 h2 k
  have hx:=AB3 hb i k O_
  have hP:=gq ha hb i k hi O_
  have hS:=vh ha hb i ((i+k)%5) hi k O_
  have hA:=hX ((i+k)%5)
  have he:=ih O_ ((i+k)%5)
  rw [CJ,NS,sI,←Nat.add_assoc,←ih O_ t]
  unfold jt at hP
  rw [←hx] at hP
  have:=pF hl.1 hl.2 (nth a i) (if 5≤i+k then (nth b k)*19#64 else nth b k) (t:=(i+k)%5) O_ (by rw [he];omega) t
  rw [this]
  unfold jt
  rw [hx]
theorem lR{a b:AB 64}(ha:C7 a)(hb:C7 b):∀i,i≤5→(∀t,IK (At a b i).1 (At a b i).2 t=sO a b t i)∧ ∀t,sO a b t i≤i*3245185536584267267831560205762560:=by
 intro i
 induction i with
 |zero=>
  intro _
  refine ⟨fun t=>?_,fun t=>Nat.zero_le _⟩
  show (nth (Aj 5) t).toNat*18446744073709551616+(nth (Aj 5) t).toNat=0
  have:nth (Aj 5) t=0#64:=by
   unfold nth Aj
   rw [List.getD_eq_getElem?_getD,List.getElem?_replicate]
   split<;>rfl
  rw [this];rfl
 |succ i ih=>
  intro hi
  obtain ⟨h1,h2⟩:=ih O_
  have hl:=IV a b ha.1 hb.1 i
  have hin:=js ha hb hl.1 hl.2 i O_ (fun t=>by rw [h1];exact h2 t) 5 (Nat.le_refl _)
  refine ⟨fun t=>?_,fun t=>?_⟩
  ·rw [At,NO,sO,←h1 t];exact hin t
  ·rw [sO]
   have:=vh ha hb i t O_ 5 (Nat.le_refl _)
   have:=h2 t
   omega
theorem IR{hi lo c:BitVec 64}(h:hi.toNat*18446744073709551616+lo.toNat+c.toNat<41538374868278621028243970633760768):
  ((lo+c+0#64)&&&2251799813685247#64).toNat=(hi.toNat*18446744073709551616+lo.toNat+c.toNat)%2251799813685248∧
  (((hi+Cw lo c 0#64)<<<13) ||| ((lo+c+0#64)>>>51)).toNat=(hi.toNat*18446744073709551616+lo.toNat+c.toNat)/2251799813685248:=by
 have b0:=lo.isLt
 have b1:=c.isLt
 have e:=SG (x:=lo) (y:=c)
 have f:=B7 (x:=hi) (y:=Cw lo c 0#64) (by rw [e];omega)
 rw [e] at f
 have g:(lo+c+0#64).toNat=(lo.toNat+c.toNat)%18446744073709551616:=by rw [BitVec.add_zero,BitVec.toNat_add]
 generalize lo+c+0#64=l at*
 generalize hi+Cw lo c 0#64=q at*
 have s:=YR l
 refine ⟨by rw [D3,g];omega,?_⟩
 have o:=Mj (x:=l>>>51) (y:=q) 13 (by rw [s];show _<8192;omega)
 simp only [Nat.reducePow] at o
 rw [BitVec.or_comm,o,s,f,g]
 omega
def oU(h0 h1 h2 h3 h4 l0 l1 l2 l3 l4:BitVec 64):BitVec 64×AB 64:=
 let c0:=0#64
 let c1:=((h0+Cw l0 c0 0#64)<<<13) ||| ((l0+c0+0#64)>>>51)
 let c2:=((h1+Cw l1 c1 0#64)<<<13) ||| ((l1+c1+0#64)>>>51)
 let c3:=((h2+Cw l2 c2 0#64)<<<13) ||| ((l2+c2+0#64)>>>51)
 let c4:=((h3+Cw l3 c3 0#64)<<<13) ||| ((l3+c3+0#64)>>>51)
 let c5:=((h4+Cw l4 c4 0#64)<<<13) ||| ((l4+c4+0#64)>>>51)
 (c5,[(l0+c0+0#64)&&&2251799813685247#64,(l1+c1+0#64)&&&2251799813685247#64,(l2+c2+0#64)&&&2251799813685247#64,(l3+c3+0#64)&&&2251799813685247#64,(l4+c4+0#64)&&&2251799813685247#64])
theorem rO(h0 h1 h2 h3 h4 l0 l1 l2 l3 l4:BitVec 64):Be [h0,h1,h2,h3,h4] [l0,l1,l2,l3,l4] 5=oU h0 h1 h2 h3 h4 l0 l1 l2 l3 l4:=by kernel_rfl
theorem fR(h0 h1 h2 h3 h4 l0 l1 l2 l3 l4:BitVec 64)(b0:h0.toNat*18446744073709551616+l0.toNat≤16225927682921336339157801028812800)(b1:h1.toNat*18446744073709551616+l1.toNat≤16225927682921336339157801028812800)(b2:h2.toNat*18446744073709551616+l2.toNat≤16225927682921336339157801028812800)(b3:h3.toNat*18446744073709551616+l3.toNat≤16225927682921336339157801028812800)(b4:h4.toNat*18446744073709551616+l4.toNat≤16225927682921336339157801028812800):
  ∃c r0 r1 r2 r3 r4:BitVec 64,oU h0 h1 h2 h3 h4 l0 l1 l2 l3 l4=(c,[r0,r1,r2,r3,r4])∧r0.toNat<2251799813685248∧r1.toNat<2251799813685248∧r2.toNat<2251799813685248∧r3.toNat<2251799813685248∧r4.toNat<2251799813685248∧
   (h0.toNat*18446744073709551616+l0.toNat)+(h1.toNat*18446744073709551616+l1.toNat)*2251799813685248+(h2.toNat*18446744073709551616+l2.toNat)*5070602400912917605986812821504+(h3.toNat*18446744073709551616+l3.toNat)*11417981541647679048466287755595961091061972992+(h4.toNat*18446744073709551616+l4.toNat)*25711008708143844408671393477458601640355247900524685364822016=
   r0.toNat+r1.toNat*2251799813685248+r2.toNat*5070602400912917605986812821504+r3.toNat*11417981541647679048466287755595961091061972992+r4.toNat*25711008708143844408671393477458601640355247900524685364822016+c.toNat*57896044618658097711785492504343953926634992332820282019728792003956564819968:=by
 refine ⟨_,_,_,_,_,_,rfl,?_⟩
 have z:(0#64:BitVec 64).toNat=0:=rfl
 obtain ⟨m0,k0⟩:=IR (hi:=h0) (lo:=l0) (c:=0#64) (by rw [z];omega)
 generalize ((h0+Cw l0 0#64 0#64)<<<13) ||| ((l0+0#64+0#64)>>>51)=c1 at*
 have:=c1.isLt
 obtain ⟨m1,k1⟩:=IR (hi:=h1) (lo:=l1) (c:=c1) O_
 generalize ((h1+Cw l1 c1 0#64)<<<13) ||| ((l1+c1+0#64)>>>51)=c2 at*
 have:=c2.isLt
 obtain ⟨m2,k2⟩:=IR (hi:=h2) (lo:=l2) (c:=c2) O_
 generalize ((h2+Cw l2 c2 0#64)<<<13) ||| ((l2+c2+0#64)>>>51)=c3 at*
 have:=c3.isLt
 obtain ⟨m3,k3⟩:=IR (hi:=h3) (lo:=l3) (c:=c3) O_
 generalize ((h3+Cw l3 c3 0#64)<<<13) ||| ((l3+c3+0#64)>>>51)=c4 at*
 have:=c4.isLt
 obtain ⟨m4,k4⟩:=IR (hi:=h4) (lo:=l4) (c:=c4) O_
 rw [m0,m1,m2,m3,m4,k4,z]
 omega
theorem CL{a b:AB 64}(ha:C7 a)(hb:C7 b):C7 (AF a b)∧LF (AF a b)=LF a*LF b:=by
 obtain ⟨hac,hle⟩:=lR ha hb 5 (Nat.le_refl _)
 have hl:=IV a b ha.1 hb.1 5
 unfold AF
 generalize At a b 5=Y at*
 obtain ⟨hi,lo⟩:=Y
 dsimp only at hac hl ⊢
 obtain ⟨h0,h1,h2,h3,h4,rfl⟩:=Ub hl.1
 obtain ⟨l0,l1,l2,l3,l4,rfl⟩:=Ub hl.2
 have a0:=hac 0
 have a1:=hac 1
 have a2:=hac 2
 have a3:=hac 3
 have a4:=hac 4
 change h0.toNat*18446744073709551616+l0.toNat=_ at a0
 change h1.toNat*18446744073709551616+l1.toNat=_ at a1
 change h2.toNat*18446744073709551616+l2.toNat=_ at a2
 change h3.toNat*18446744073709551616+l3.toNat=_ at a3
 change h4.toNat*18446744073709551616+l4.toNat=_ at a4
 have d0:=hle 0
 have d1:=hle 1
 have d2:=hle 2
 have d3:=hle 3
 have d4:=hle 4
 rw [rO]
 obtain ⟨c,r0,r1,r2,r3,r4,he,g0,g1,g2,g3,g4,g5⟩:=fR h0 h1 h2 h3 h4 l0 l1 l2 l3 l4 O_ O_ O_ O_ O_
 rw [he]
 dsimp only
 have p0:=Qk c 19#64
 have p1:=Q3 c 19#64
 rw [show (19#64:BitVec 64).toNat=19 from rfl] at p0 p1
 have hc:=c.isLt
 obtain ⟨q0,q1⟩:=IR (hi:=EA c 19#64) (lo:=A3 c 19#64) (c:=r0) O_
 show C7 (BD [(A3 c 19#64+r0+0#64)&&&2251799813685247#64,r1+(((EA c 19#64+Cw (A3 c 19#64) r0 0#64)<<<13) ||| ((A3 c 19#64+r0+0#64)>>>51)),r2,r3,r4])∧LF (BD [(A3 c 19#64+r0+0#64)&&&2251799813685247#64,r1+(((EA c 19#64+Cw (A3 c 19#64) r0 0#64)<<<13) ||| ((A3 c 19#64+r0+0#64)>>>51)),r2,r3,r4])=_
 generalize ((EA c 19#64+Cw (A3 c 19#64) r0 0#64)<<<13) ||| ((A3 c 19#64+r0+0#64)>>>51)=u at*
 generalize (A3 c 19#64+r0+0#64)&&&2251799813685247#64=v at*
 have hu:=B7 (x:=r1) (y:=u) O_
 generalize r1+u=w at*
 obtain ⟨f1,f2⟩:=OB (a:=[v,w,r2,r3,r4]) ⟨rfl,by show v.toNat<_;omega,by show w.toNat<_;omega,by show r2.toNat<_;omega,by show r3.toNat<_;omega,by show r4.toNat<_;omega⟩
 refine ⟨f1,f2.trans ?_⟩
 unfold LF
 rw [←VW]
 have e1:lV a*lV b=(h0.toNat*18446744073709551616+l0.toNat)+(h1.toNat*18446744073709551616+l1.toNat)*2251799813685248+(h2.toNat*18446744073709551616+l2.toNat)*5070602400912917605986812821504+(h3.toNat*18446744073709551616+l3.toNat)*11417981541647679048466287755595961091061972992+(h4.toNat*18446744073709551616+l4.toNat)*25711008708143844408671393477458601640355247900524685364822016+57896044618658097711785492504343953926634992332820282019728792003956564819949*((nth a 1).toNat*(nth b 4).toNat*1+(nth a 2).toNat*(nth b 3).toNat*1+(nth a 2).toNat*(nth b 4).toNat*2251799813685248+(nth a 3).toNat*(nth b 2).toNat*1+(nth a 3).toNat*(nth b 3).toNat*2251799813685248+(nth a 3).toNat*(nth b 4).toNat*5070602400912917605986812821504+(nth a 4).toNat*(nth b 1).toNat*1+(nth a 4).toNat*(nth b 2).toNat*2251799813685248+(nth a 4).toNat*(nth b 3).toNat*5070602400912917605986812821504+(nth a 4).toNat*(nth b 4).toNat*11417981541647679048466287755595961091061972992):=by
  rw [a0,a1,a2,a3,a4]
  unfold lV
  rw [AAM]
  simp only [sO,sI,jt,Nat.reduceAdd,Nat.reduceMod,Nat.reduceLeDiff,Nat.zero_add,Nat.add_zero,if_true,if_false,Nat.reduceEqDiff]
 have e2:zf (lV a*lV b)=zf (r0.toNat+r1.toNat*2251799813685248+r2.toNat*5070602400912917605986812821504+r3.toNat*11417981541647679048466287755595961091061972992+r4.toNat*25711008708143844408671393477458601640355247900524685364822016+c.toNat*57896044618658097711785492504343953926634992332820282019728792003956564819968):=by
  rw [Wl,e1,Nat.add_mul_mod_self_left,g5]
 rw [e2,dq rfl]
 congr 1
 show v.toNat+w.toNat*_+r2.toNat*_+r3.toNat*_+r4.toNat*_=_
 omega
def Fl(a:AB 64):AB 64:=(if (!(decide (AO (AF (BB a (A0 2#8)) (BB a (A0 2#8)))=AO a)))=true then AF (BB a (A0 2#8)) (BB (AI 2#64) (EF 5#8)) else BB a (A0 2#8))
def Mq(a:AB 64):Bool:=decide (AO (AF (if (!(decide (AO (AF (BB a (A0 2#8)) (BB a (A0 2#8)))=AO a)))=true then AF (BB a (A0 2#8)) (BB (AI 2#64) (EF 5#8)) else BB a (A0 2#8)) (if (!(decide (AO (AF (BB a (A0 2#8)) (BB a (A0 2#8)))=AO a)))=true then AF (BB a (A0 2#8)) (BB (AI 2#64) (EF 5#8)) else BB a (A0 2#8)))=AO a)
theorem ID(k:r)(h:Hid r→g:=by intro h;refine G2 (BO PU AH) AM rfl ?_;exact h.out):g:=h ⟨k⟩
theorem kF(a:AB 64)(ha:a.length=5):Ev prog (.call 164 [EQ (a)] []) (.val (.tup [EQ (Fl a),.c (.val (.bool (Mq a)))]) []):=by
 have hP_lmRoot0:Hid (Fl a=(if (!(decide (AO (AF (BB a (A0 2#8)) (BB a (A0 2#8)))=AO a)))=true then AF (BB a (A0 2#8)) (BB (AI 2#64) (EF 5#8)) else BB a (A0 2#8))):=⟨rfl⟩
 have hP_lmRoot1:Hid (Mq a=decide (AO (AF (if (!(decide (AO (AF (BB a (A0 2#8)) (BB a (A0 2#8)))=AO a)))=true then AF (BB a (A0 2#8)) (BB (AI 2#64) (EF 5#8)) else BB a (A0 2#8)) (if (!(decide (AO (AF (BB a (A0 2#8)) (BB a (A0 2#8)))=AO a)))=true then AF (BB a (A0 2#8)) (BB (AI 2#64) (EF 5#8)) else BB a (A0 2#8)))=AO a)):=⟨rfl⟩
 refine AG func164 rfl ntmps164 rfl AH ?_;refine Bg ?_;refine C8 ?_;refine Bc ?_;have hQ1:(A0 2#8).length=32:=An
 have hQ2:(BB a (A0 2#8)).length=5:=An
 refine S_ ?_;refine KM ?_;refine Cu ?_;refine Am (lw 2#8) du ?_;refine Am (VP a (A0 2#8) AD AD) fM ?_;refine ID ?_;refine Bn ?_;refine EJ ?_;have hQ3:(AF (BB a (A0 2#8)) (BB a (A0 2#8))).length=5:=An
 refine S_ ?_;refine Qn ?_;refine Cc ?_;refine Am (Bp (BB a (A0 2#8)) (BB a (A0 2#8)) AD AD) Bb ?_;refine Cu ?_;refine Am (TR (AF (BB a (A0 2#8)) (BB a (A0 2#8))) a AD AD) aj ?_;refine OW ?_;refine Gw ?_;refine I1 [1,2,4] (fun (zz:AB 64)=>⟨25,AS [1,2,4] [Al 0,Al 1,Al 2],[CH (a),CH (Aj 5),CH (zz)]⟩) (if (!(decide (AO (AF (BB a (A0 2#8)) (BB a (A0 2#8)))=AO a)))=true then AF (BB a (A0 2#8)) (BB (AI 2#64) (EF 5#8)) else BB a (A0 2#8)) rfl (fun hb=>?_) (fun hb=>?_) ?_
 ·have hQ5:(AI 2#64).length=5:=An
  have hQ6:(EF 5#8).length=32:=An
  have hQ7:(BB (AI 2#64) (EF 5#8)).length=5:=An
  have hQ8:(AF (BB a (A0 2#8)) (BB (AI 2#64) (EF 5#8))).length=5:=An
  refine S_ ?_;refine Ez 5 mixed K_ rfl rfl rfl ?_;refine Cu ?_;refine Am (DN 2#64) Hs ?_;refine Am (kc 5#8) du ?_;refine Am (VP (AI 2#64) (EF 5#8) AD AD) fM ?_;refine Am (Bp (BB a (A0 2#8)) (BB (AI 2#64) (EF 5#8)) AD AD) Bb ?_;refine Gv ?_;refine A6 ?_;refine ⟨(AF (BB a (A0 2#8)) (BB (AI 2#64) (EF 5#8))),K_,?_⟩
  rw [if_pos (hb)]
 ·refine S_ ?_
  refine ⟨(BB a (A0 2#8)),K_,?_⟩
  rw [if_neg (by (rw [hb];decide))]
 have hJ4:(if (!(decide (AO (AF (BB a (A0 2#8)) (BB a (A0 2#8)))=AO a)))=true then AF (BB a (A0 2#8)) (BB (AI 2#64) (EF 5#8)) else BB a (A0 2#8)).length=5:=by split<;>simp [*]
 generalize (if (!(decide (AO (AF (BB a (A0 2#8)) (BB a (A0 2#8)))=AO a)))=true then AF (BB a (A0 2#8)) (BB (AI 2#64) (EF 5#8)) else BB a (A0 2#8))=J4 at*
 have hQ9:(AF J4 J4).length=5:=An
 refine S_ ?_;refine Qn ?_;refine Cc ?_;refine Cu ?_;refine Am (Bp J4 J4 AD AD) Bb ?_;refine Cu ?_;refine Am (TR (AF J4 J4) a AD AD) aj ?_;refine Gv ?_;refine Ay ?_;rw [hP_lmRoot0.out,hP_lmRoot1.out]
 exact sU (JR rfl rfl GM Fe C1 D_) (EG rfl) (by (kernel_rfl))
@[simp] theorem uV(a:AB 64)(ha:a.length=5):(Fl a).length=5:=by
 unfold Fl
 (split<;>(simp (maxDischargeDepth:=9) [*];done))
attribute [irreducible] Fl
attribute [irreducible] Mq
def F(u:Fp):AB 8:=XZ u.val
def Z(b:AB 8):Fp:=zf (D8 b 32)
@[simp] theorem bz(u:Fp):(F u).length=32:=Kr _
theorem Z_F(u:Fp):Z (F u)=u:=by
 unfold Z F
 rw [QB _ _ (Nat.le_refl _),Nat.mod_eq_of_lt (Nat.lt_trans u.isLt D_),Kj]
theorem je{u v:Fp}:F u=F v↔u=v:=⟨fun h=>by rw [←Z_F u,h,Z_F],fun h=>by rw [h]⟩
theorem wP(u:Fp):nth (F u) 0=BitVec.ofNat 8 u.val:=by
 unfold F
 rw [SV _ _ D_,Nat.pow_zero,Nat.div_one]
theorem xR:F 0=Ag 32:=by decide+kernel
theorem KH{a:AB 64}(h:C7 a):AO a=F (LF a):=eU h
theorem iH(x:BitVec 8):((x&&&1#8)==1#8)=decide (x.toNat%2=1):=by
 have e:(x&&&1#8).toNat=x.toNat%2:=by
  rw [BitVec.toNat_and]
  exact Nat.and_two_pow_sub_one_eq_mod x.toNat 1
 by_cases h:x.toNat%2=1
 ·rw [decide_eq_true h,beq_iff_eq]
  apply BitVec.eq_of_toNat_eq
  rw [e,h];rfl
 ·rw [decide_eq_false h,beq_eq_false_iff_ne]
  intro hx
  apply h
  rw [←e,hx];rfl
theorem Yb(e:AB 8)(i:Nat)(hi:i<256):((((nth e (i/8))>>>(i%8))&&&1#8)==1#8)=decide (D8 e 32/2^i%2=1):=by
 rw [iH]
 have h1:=MA e 32 (i/8) O_
 rw [BitVec.toNat_ushiftRight,Nat.shiftRight_eq_div_pow,←h1]
 have h2:(2:Nat)^i=256^(i/8)*2^(i%8):=by
  rw [show (256:Nat)=2^8 from rfl,←Nat.pow_mul,←Nat.pow_add,Nat.div_add_mod]
 rw [h2,←Nat.div_div_eq_div_mul]
 generalize D8 e 32/256^(i/8)=x
 congr 1
 rcases (by omega:i%8=0∨i%8=1∨i%8=2∨i%8=3∨i%8=4∨i%8=5∨i%8=6∨i%8=7) with h | h | h | h | h | h | h | h<;>rw [h]<;>simp only [Nat.reducePow]<;>apply propext<;>omega
theorem sr(x:Fp):x^2=x*x:=by grobner
theorem qX(x:Fp):x^1=x:=by grobner
theorem Rp(x:Fp):x*1=x:=by grobner
theorem Wr{a:AB 64}(ha:C7 a)(e:AB 8):C7 (BB a e)∧LF (BB a e)=LF a^D8 e 32:=by
 have run:∀j,j≤256→C7 (DE a e j)∧LF (DE a e j)=LF a^(D8 e 32/2^(256-j)):=by
  intro j
  induction j with
  |zero=>
   intro _
   have hz:D8 e 32/2^(256-0)=0:=Nat.div_eq_of_lt (O2 e 32)
   rw [hz,GF]
   exact Ds (x:=1#64) D_
  |succ j ih=>
   intro hj
   obtain ⟨h1,h2⟩:=ih O_
   obtain ⟨s1,s2⟩:=CL h1 h1
   have hb:=Yb e (255-j) O_
   have hq:D8 e 32/2^(256-(j+1))=2*(D8 e 32/2^(256-j))+D8 e 32/2^(255-j)%2:=by
    rw [show 256-(j+1)=255-j by omega,show 256-j=(255-j)+1 by omega,Nat.pow_succ,←Nat.div_div_eq_div_mul]
    omega
   rw [DE,My,hb,hq,R7,Nat.mul_comm 2,dB,←h2]
   have hsq:LF (DE a e j)^2=LF (AF (DE a e j) (DE a e j)):=by
    rw [s2,sr]
   rw [hsq]
   by_cases hc:D8 e 32/2^(255-j)%2=1
   ·rw [decide_eq_true hc,if_pos rfl,hc]
    obtain ⟨t1,t2⟩:=CL s1 ha
    exact ⟨t1,by rw [t2,qX]⟩
   ·rw [decide_eq_false hc,if_neg D_,show D8 e 32/2^(255-j)%2=0 by omega,GF]
    exact ⟨s1,by rw [Rp]⟩
 have:=run 256 (Nat.le_refl _)
 rw [Nat.sub_self,Nat.pow_zero,Nat.div_one] at this
 unfold BB
 exact this
theorem ABs:D8 (KX 21#8) 32=pA:=by decide+kernel
theorem ABi:D8 (A0 2#8) 32=K0:=by decide+kernel
theorem ACX:D8 (EF 5#8) 32=eI:=by decide+kernel
theorem W0{a:AB 64}(ha:C7 a):C7 (B3 a)∧LF (B3 a)=CE (LF a):=by
 unfold B3 CE
 have:=Wr ha (KX 21#8)
 rwa [ABs] at this
theorem Xs{a:AB 64}(ha:C7 a):(C7 (Fl a)∧LF (Fl a)=Fm (LF a))∧Mq a=decide (Fm (LF a)*Fm (LF a)=LF a):=by
 obtain ⟨p1,p2⟩:=Wr ha (A0 2#8)
 rw [ABi] at p2
 obtain ⟨q1,q2⟩:=CL p1 p1
 obtain ⟨t1,t2⟩:=Ds (x:=2#64) D_
 obtain ⟨i1,i2⟩:=Wr t1 (EF 5#8)
 rw [ACX,t2,show (2#64:BitVec 64).toNat=2 from rfl,wu] at i2
 obtain ⟨r1,r2⟩:=CL p1 i1
 have hc:(!(decide (AO (AF (BB a (A0 2#8)) (BB a (A0 2#8)))=AO a)))= !(decide (LF a^K0*LF a^K0=LF a)):=by
  rw [KH q1,KH ha,q2,p2]
  congr 1
  exact decide_eq_decide.2 je
 have h0:C7 (Fl a)∧LF (Fl a)=Fm (LF a):=by
  unfold Fl Fm
  rw [hc]
  by_cases h:LF a^K0*LF a^K0=LF a
  ·rw [decide_eq_true h,if_neg D_,if_pos h]
   exact ⟨p1,p2⟩
  ·rw [decide_eq_false h,if_pos D_,if_neg h]
   exact ⟨r1,by rw [r2,p2,i2]⟩
 refine ⟨h0,?_⟩
 obtain ⟨u1,u2⟩:=CL h0.1 h0.1
 have e1:Mq a=decide (AO (AF (Fl a) (Fl a))=AO a):=by unfold Mq Fl;rfl
 rw [e1,KH u1,KH ha,u2,h0.2]
 exact decide_eq_decide.2 je
theorem tZ(b:AB 8):C7 (N6 b)∧LF (N6 b)=Z b:=Us b
attribute [irreducible] F Z
end Go.Proofs.YtmbepikkgkcgkaaGreatDoor
namespace Go.Proofs.YtmbepikkgkcgkaaGreatDoor
variable {g r : Prop}
open Go.Proofs.Tryz
def dF:Fp:=zf 37095705934669439343138083508754565189542113879843219016388785533085940283555
theorem AAK:dF*zf 121666= -zf 121665:=by decide+kernel
theorem mH:QQ<2^255:=by decide+kernel
theorem iV:dF^QQ= -1:=by
 unfold dF
 rw [ay 37095705934669439343138083508754565189542113879843219016388785533085940283555 QQ 57896044618658097711785492504343953926634992332820282019728792003956564819948 255 mH (by decide+kernel)]
 decide+kernel
attribute [irreducible] dF
theorem Zw{u v:Fp}(hv:v≠0):¬u*u=dF*(v*v):=fun h=>by
 have hd:dF≠0:=fun e=>by
  have:=iV
  obtain ⟨k,hk⟩:=mL
  rw [e,hk,S9] at this
  revert this;decide+kernel
 have hw:(u*CE v)*(u*CE v)=dF:=by
  have:=Av hv
  have e:(u*CE v)*(u*CE v)=(u*u)*(CE v*CE v):=by grobner
  rw [e,h]
  have e2:dF*(v*v)*(CE v*CE v)=dF*((CE v*v)*(CE v*v)):=by grobner
  rw [e2,this]
  grobner
 have hn:u*CE v≠0:=fun e=>by rw [e,FY] at hw;exact hd hw.symm
 have h1:=jg hn
 rw [hw,iV] at h1
 revert h1;decide+kernel
structure Pt where
 x:Fp
 y:Fp
def On(p:Pt):Prop:=p.y*p.y-p.x*p.x=1+dF*(p.x*p.x*(p.y*p.y))
theorem KW:(2:Fp)≠0:=by decide+kernel
theorem qM{x1 y1 x2 y2 ε:Fp}(h1:y1*y1-x1*x1=1+dF*(x1*x1*(y1*y1)))(h2:y2*y2-x2*x2=1+dF*(x2*x2*(y2*y2)))(he:ε*ε=1)(h:dF*x1*x2*y1*y2=ε):False:=by
 have hε:ε≠0:=fun e=>by rw [e,FY] at he;exact P9 he.symm
 have hi:=rd
 have hx1:x1≠0:=fun e=>by rw [e] at h;exact hε (by rw [←h];grobner)
 have hy1:y1≠0:=fun e=>by rw [e] at h;exact hε (by rw [←h];grobner)
 have hy2:y2≠0:=fun e=>by rw [e] at h;exact hε (by rw [←h];grobner)
 have hxy:x1*y1≠0:=DW hx1 hy1
 generalize iF=j at hi
 generalize hd:dF=d at*
 have ka:(j*x1+ε*y1)*(j*x1+ε*y1)=d*((x1*y1*(j*x2+y2))*(x1*y1*(j*x2+y2))):=by
  clear hε hx1 hy1 hy2 hxy hd
  grobner
 have kb:(j*x1-ε*y1)*(j*x1-ε*y1)=d*((x1*y1*(j*x2-y2))*(x1*y1*(j*x2-y2))):=by
  clear hε hx1 hy1 hy2 hxy hd ka
  grobner
 subst hd
 by_cases c1:j*x2+y2=0
 ·by_cases c2:j*x2-y2=0
  ·have:2*y2=0:=by clear ka kb h h1 h2 he hi hε hx1 hy1 hy2 hxy;grobner
   rcases Ga this with g | g
   ·exact KW g
   ·exact hy2 g
  ·exact Zw (DW hxy c2) kb
 ·exact Zw (DW hxy c1) ka
theorem J1{p q:Pt}(hp:On p)(hq:On q):1+dF*p.x*q.x*p.y*q.y≠0:=fun h=>
 qM (ε:= -1) hp hq (by decide+kernel) (by generalize dF*p.x*q.x*p.y*q.y=t at*;grobner)
theorem GJ{p q:Pt}(hp:On p)(hq:On q):1-dF*p.x*q.x*p.y*q.y≠0:=fun h=>
 qM (ε:=1) hp hq (by decide+kernel) (by generalize dF*p.x*q.x*p.y*q.y=t at*;grobner)
def ED(p q:Pt):Pt:=⟨(p.x*q.y+q.x*p.y)*CE (1+dF*p.x*q.x*p.y*q.y),(p.y*q.y+p.x*q.x)*CE (1-dF*p.x*q.x*p.y*q.y)⟩
def H2:Pt:=⟨0,1⟩
def M7(p:Pt):Pt:=⟨-p.x,p.y⟩
theorem tk:On H2:=by unfold On H2;show (1:Fp)*1-0*0=1+dF*(0*0*(1*1));generalize dF=d;grobner
theorem oQ{p:Pt}(h:On p):On (M7 p):=by
 unfold On M7 at*
 show p.y*p.y-(-p.x)*(-p.x)=1+dF*((-p.x)*(-p.x)*(p.y*p.y))
 generalize dF=d at*
 grobner
theorem gU{a b u v:Fp}(hu:u≠0)(hv:v≠0):a*CE u=b*CE v↔a*v=b*u:=by
 have h1:=Av hu
 have h2:=Av hv
 constructor
 ·intro h
  have e1:a*v=(a*CE u)*(u*v):=by clear h h2;grobner
  rw [e1,h]
  clear h h1 e1
  grobner
 ·intro h
  refine Pg (DW hu hv) ?_;clear hu hv
  have e1:u*v*(a*CE u)=a*v:=by clear h h2;grobner
  have e2:u*v*(b*CE v)=b*u:=by clear h h1;grobner
  rw [e1,e2,h]
theorem Sj(p q:Pt):ED p q=ED q p:=by
 unfold ED
 have e:dF*p.x*q.x*p.y*q.y=dF*q.x*p.x*q.y*p.y:=by generalize dF=d;grobner
 rw [e,show p.x*q.y+q.x*p.y=q.x*p.y+p.x*q.y from by grobner,show p.y*q.y+p.x*q.x=q.y*p.y+q.x*p.x from by grobner]
theorem jo:CE 1=1:=(br (by decide+kernel)).symm
theorem P7(p:Pt):ED p H2=p:=by
 unfold ED H2
 show Pt.mk ((p.x*1+0*p.y)*CE (1+dF*p.x*0*p.y*1)) ((p.y*1+p.x*0)*CE (1-dF*p.x*0*p.y*1))=p
 rw [show 1+dF*p.x*0*p.y*1=1 from by generalize dF=d;grobner,show 1-dF*p.x*0*p.y*1=1 from by generalize dF=d;grobner,jo]
 cases p with
 |mk x y=>congr 1<;>(simp only;grobner)
theorem qq{p:Pt}(h:On p):ED p (M7 p)=H2:=by
 have h1:=GJ h (oQ h)
 unfold ED M7 H2 at*
 show Pt.mk ((p.x*p.y+(-p.x)*p.y)*CE (1+dF*p.x*(-p.x)*p.y*p.y)) ((p.y*p.y+p.x*(-p.x))*CE (1-dF*p.x*(-p.x)*p.y*p.y))=⟨0,1⟩
 have e1:p.x*p.y+(-p.x)*p.y=0:=by grobner
 have e2:p.y*p.y+p.x*(-p.x)=1-dF*p.x*(-p.x)*p.y*p.y:=by
  unfold On at h
  generalize dF=d at*
  clear h1 e1
  grobner
 rw [e1,FY,e2]
 have:=Av h1
 congr 1
 rw [Fin.mul_comm]
 exact this
theorem closure (d x1 y1 x2 y2 : Fp) (h1 : y1*y1 - x1*x1 = 1 + d*(x1*x1*(y1*y1))) (h2 : y2*y2 - x2*x2 = 1 + d*(x2*x2*(y2*y2))) :
    ((y1*y2+x1*x2)*(y1*y2+x1*x2))*((1+d*x1*x2*y1*y2)*(1+d*x1*x2*y1*y2)) - ((x1*y2+x2*y1)*(x1*y2+x2*y1))*((1-d*x1*x2*y1*y2)*(1-d*x1*x2*y1*y2)) = ((1+d*x1*x2*y1*y2)*(1+d*x1*x2*y1*y2))*((1-d*x1*x2*y1*y2)*(1-d*x1*x2*y1*y2)) + d*((x1*y2+x2*y1)*(x1*y2+x2*y1)*((y1*y2+x1*x2)*(y1*y2+x1*x2))) := by grobner
theorem nu(d A B u v i j:Fp)(hi:i*u=1)(hj:j*v=1)(h:B*B*(u*u)-A*A*(v*v)=u*u*(v*v)+d*(A*A*(B*B))):B*j*(B*j)-A*i*(A*i)=1+d*(A*i*(A*i)*(B*j*(B*j))):=by grobner
theorem TA{p q:Pt}(hp:On p)(hq:On q):On (ED p q):=by
 have h1:=Av (J1 hp hq)
 have h2:=Av (GJ hp hq)
 exact nu dF _ _ _ _ _ _ h1 h2 (closure dF _ _ _ _ hp hq)
theorem wi (d x1 y1 x2 y2 x3 y3 : Fp) (h1 : y1*y1 - x1*x1 = 1 + d*(x1*x1*(y1*y1))) (h2 : y2*y2 - x2*x2 = 1 + d*(x2*x2*(y2*y2))) (h3 : y3*y3 - x3*x3 = 1 + d*(x3*x3*(y3*y3))) :
    ((x1*y2+x2*y1)*(1-d*x1*x2*y1*y2)*y3 + x3*(y1*y2+x1*x2)*(1+d*x1*x2*y1*y2))*((1+d*x2*x3*y2*y3)*(1-d*x2*x3*y2*y3) + d*x1*y1*(x2*y3+x3*y2)*(y2*y3+x2*x3)) = (x1*(y2*y3+x2*x3)*(1+d*x2*x3*y2*y3) + (x2*y3+x3*y2)*(1-d*x2*x3*y2*y3)*y1)*((1+d*x1*x2*y1*y2)*(1-d*x1*x2*y1*y2) + d*x3*y3*(x1*y2+x2*y1)*(y1*y2+x1*x2)) := by grobner
theorem wa (d x1 y1 x2 y2 x3 y3 : Fp) (h1 : y1*y1 - x1*x1 = 1 + d*(x1*x1*(y1*y1))) (h2 : y2*y2 - x2*x2 = 1 + d*(x2*x2*(y2*y2))) (h3 : y3*y3 - x3*x3 = 1 + d*(x3*x3*(y3*y3))) :
    ((y1*y2+x1*x2)*(1+d*x1*x2*y1*y2)*y3 + (x1*y2+x2*y1)*(1-d*x1*x2*y1*y2)*x3)*((1+d*x2*x3*y2*y3)*(1-d*x2*x3*y2*y3) - d*x1*y1*(x2*y3+x3*y2)*(y2*y3+x2*x3)) = (y1*(y2*y3+x2*x3)*(1+d*x2*x3*y2*y3) + x1*(x2*y3+x3*y2)*(1-d*x2*x3*y2*y3))*((1+d*x1*x2*y1*y2)*(1-d*x1*x2*y1*y2) - d*x3*y3*(x1*y2+x2*y1)*(y1*y2+x1*x2)) := by grobner
theorem asx (d x1 y1 x3 y3 A B u v C D w z i j k l : Fp) (hi : i * u = 1) (hj : j * v = 1) (hk : k * w = 1) (hl : l * z = 1) :
    (u * v) * (w * z) * ((A * i * y3 + x3 * (B * j)) * (1 + d * x1 * (C * k) * y1 * (D * l))) = (A * v * y3 + x3 * B * u) * (w * z + d * x1 * y1 * C * D) := by grobner
theorem ACN (d x1 y1 x3 y3 A B u v C D w z i j k l : Fp) (hi : i * u = 1) (hj : j * v = 1) (hk : k * w = 1) (hl : l * z = 1) :
    (u * v) * (w * z) * ((x1 * (D * l) + C * k * y1) * (1 + d * (A * i) * x3 * (B * j) * y3)) = (x1 * D * w + C * z * y1) * (u * v + d * x3 * y3 * A * B) := by grobner
theorem asy (d x1 y1 x3 y3 A B u v C D w z i j k l : Fp) (hi : i * u = 1) (hj : j * v = 1) (hk : k * w = 1) (hl : l * z = 1) :
    (u * v) * (w * z) * ((B * j * y3 + A * i * x3) * (1 - d * x1 * (C * k) * y1 * (D * l))) = (B * u * y3 + A * v * x3) * (w * z - d * x1 * y1 * C * D) := by grobner
theorem ACB (d x1 y1 x3 y3 A B u v C D w z i j k l : Fp) (hi : i * u = 1) (hj : j * v = 1) (hk : k * w = 1) (hl : l * z = 1) :
    (u * v) * (w * z) * ((y1 * (D * l) + x1 * (C * k)) * (1 - d * (A * i) * x3 * (B * j) * y3)) = (y1 * D * w + x1 * C * z) * (u * v - d * x3 * y3 * A * B) := by grobner
theorem WQ{p q r:Pt}(hp:On p)(hq:On q)(hr:On r):ED (ED p q) r=ED p (ED q r):=by
 have u1:=J1 hp hq
 have v1:=GJ hp hq
 have w1:=J1 hq hr
 have z1:=GJ hq hr
 have nz:=DW (DW u1 v1) (DW w1 z1)
 have a1:=J1 (TA hp hq) hr
 have a2:=GJ (TA hp hq) hr
 have b1:=J1 hp (TA hq hr)
 have b2:=GJ hp (TA hq hr)
 have ex:(ED (ED p q) r).x=(ED p (ED q r)).x:=by
  refine (gU a1 b1).2 (Pg nz ?_)
  exact (asx dF p.x p.y r.x r.y _ _ _ _ _ _ _ _ _ _ _ _ (Av u1) (Av v1) (Av w1) (Av z1)).trans ((wi dF p.x p.y q.x q.y r.x r.y hp hq hr).trans (ACN dF p.x p.y r.x r.y _ _ _ _ _ _ _ _ _ _ _ _ (Av u1) (Av v1) (Av w1) (Av z1)).symm)
 have ey:(ED (ED p q) r).y=(ED p (ED q r)).y:=by
  refine (gU a2 b2).2 (Pg nz ?_)
  exact (asy dF p.x p.y r.x r.y _ _ _ _ _ _ _ _ _ _ _ _ (Av u1) (Av v1) (Av w1) (Av z1)).trans ((wa dF p.x p.y q.x q.y r.x r.y hp hq hr).trans (ACB dF p.x p.y r.x r.y _ _ _ _ _ _ _ _ _ _ _ _ (Av u1) (Av v1) (Av w1) (Av z1)).symm)
 cases h:ED (ED p q) r with
 |mk a b=>cases h':ED p (ED q r) with
  |mk c e=>rw [h,h'] at ex ey;simp only at ex ey;rw [ex,ey]
def F8(p:Pt):Nat→Pt
 |0=>H2
 |n+1=>ED (F8 p n) p
theorem JA{p:Pt}(h:On p)(n:Nat):On (F8 p n):=by
 induction n with
 |zero=>exact tk
 |succ n ih=>exact TA ih h
theorem Tr(p:Pt):ED H2 p=p:=by rw [Sj,P7]
theorem Fs{p:Pt}(h:On p)(m n:Nat):F8 p (m+n)=ED (F8 p m) (F8 p n):=by
 induction n with
 |zero=>rw [Nat.add_zero];exact (P7 _).symm
 |succ n ih=>rw [←Nat.add_assoc,F8,ih,F8,WQ (JA h m) (JA h n) h]
theorem Oi{p:Pt}(h:On p)(m n:Nat):F8 p (m*n)=F8 (F8 p m) n:=by
 induction n with
 |zero=>rfl
 |succ n ih=>rw [Nat.mul_succ,Fs h,ih,F8]
structure Qt where
 X:Fp
 Y:Fp
 Z:Fp
 T:Fp
def W5(P:Qt)(p:Pt):Prop:=P.Z≠0∧P.X=p.x*P.Z∧P.Y=p.y*P.Z∧P.T=p.x*p.y*P.Z
def cA(P Q:Qt):Qt:=
 let a:=(P.Y-P.X)*(Q.Y-Q.X)
 let b:=(P.Y+P.X)*(Q.Y+Q.X)
 let c:=(dF+dF)*P.T*Q.T
 let d:=(P.Z+P.Z)*Q.Z
 ⟨(b-a)*(d-c),(d+c)*(b+a),(d-c)*(d+c),(b-a)*(b+a)⟩
theorem SK{a u w:Fp}(hu:u≠0)(h:a=w*u):a*CE u=w:=by
 have:=Av hu
 clear hu
 rw [h]
 grobner
theorem aP{P Q:Qt}{p q:Pt}(hp:On p)(hq:On q)(h1:W5 P p)(h2:W5 Q q):W5 (cA P Q) (ED p q):=by
 have d1:=J1 hp hq
 have d2:=GJ hp hq
 have i1:=Av d1
 have i2:=Av d2
 obtain ⟨z1,x1,y1,t1⟩:=h1
 obtain ⟨z2,x2,y2,t2⟩:=h2
 obtain ⟨X1,Y1,Z1,T1⟩:=P
 obtain ⟨X2,Y2,Z2,T2⟩:=Q
 obtain ⟨px,py⟩:=p
 obtain ⟨qx,qy⟩:=q
 unfold W5 cA ED at*
 simp only at*
 subst x1 y1 t1 x2 y2 t2
 generalize dF=d at*
 have ef:(Z1+Z1)*Z2-(d+d)*(px*py*Z1)*(qx*qy*Z2)=2*(Z1*Z2)*(1-d*px*qx*py*qy):=by clear i1 i2 hp hq d1 d2 z1 z2;grobner
 have eg:(Z1+Z1)*Z2+(d+d)*(px*py*Z1)*(qx*qy*Z2)=2*(Z1*Z2)*(1+d*px*qx*py*qy):=by clear i1 i2 hp hq d1 d2 z1 z2 ef;grobner
 have ee:(py*Z1+px*Z1)*(qy*Z2+qx*Z2)-(py*Z1-px*Z1)*(qy*Z2-qx*Z2)=2*(Z1*Z2)*(px*qy+qx*py):=by clear i1 i2 hp hq d1 d2 z1 z2 ef eg;grobner
 have eh:(py*Z1+px*Z1)*(qy*Z2+qx*Z2)+(py*Z1-px*Z1)*(qy*Z2-qx*Z2)=2*(Z1*Z2)*(py*qy+px*qx):=by clear i1 i2 hp hq d1 d2 z1 z2 ef eg ee;grobner
 rw [ef,eg,ee,eh]
 have nz:2*(Z1*Z2)≠0:=DW KW (DW z1 z2)
 generalize 2*(Z1*Z2)=m at*
 generalize 1-d*px*qx*py*qy=v at*
 generalize 1+d*px*qx*py*qy=u at*
 generalize px*qy+qx*py=A at*
 generalize py*qy+px*qx=B at*
 clear ef eg ee eh
 refine ⟨DW (DW nz d2) (DW nz d1),?_,?_,?_⟩<;>(clear hp hq d1 d2 z1 z2 nz;grobner)
def aff(P:Qt):Pt:=⟨P.X*CE P.Z,P.Y*CE P.Z⟩
theorem tV{P:Qt}{p:Pt}(h:W5 P p):aff P=p:=by
 obtain ⟨z,x,y,_⟩:=h
 obtain ⟨px,py⟩:=p
 unfold aff
 rw [SK z x,SK z y]
def nh:Qt:=⟨0,1,1,0⟩
theorem rN:W5 nh H2:=⟨P9,by decide+kernel,by decide+kernel,by decide+kernel⟩
def Uf(P:Qt)(e:Nat):Nat→Qt
 |0=>nh
 |j+1=>if e/2^(255-j)%2=1 then cA (cA (Uf P e j) (Uf P e j)) P else cA (Uf P e j) (Uf P e j)
theorem rz{P:Qt}{p:Pt}(hp:On p)(h:W5 P p)(e:Nat)(he:e<2^256):∀j,j≤256→W5 (Uf P e j) (F8 p (e/2^(256-j))):=by
 intro j
 induction j with
 |zero=>
  intro _
  rw [show e/2^(256-0)=0 from Nat.div_eq_of_lt he]
  exact rN
 |succ j ih=>
  intro hj
  have h1:=ih O_
  have o1:=JA hp (e/2^(256-j))
  have h2:=aP o1 o1 h1 h1
  rw [←Fs hp] at h2
  have hq:e/2^(256-(j+1))=e/2^(256-j)+e/2^(256-j)+e/2^(255-j)%2:=by
   rw [show 256-(j+1)=255-j by omega,show 256-j=(255-j)+1 by omega,Nat.pow_succ,←Nat.div_div_eq_div_mul]
   omega
  rw [Uf,hq]
  by_cases hc:e/2^(255-j)%2=1
  ·rw [if_pos hc,hc]
   exact aP (JA hp _) hp h2 h
  ·rw [if_neg hc,show e/2^(255-j)%2=0 by omega]
   exact h2
theorem YG{P:Qt}{p:Pt}(hp:On p)(h:W5 P p)(e:Nat)(he:e<2^256):W5 (Uf P e 256) (F8 p e):=by
 have:=rz hp h e he 256 (Nat.le_refl _)
 rwa [Nat.sub_self,Nat.pow_zero,Nat.div_one] at this
theorem za(y:Fp):dF*(y*y)+1≠0:=fun h=>by
 by_cases hy:y=0
 ·rw [hy] at h
  have:(1:Fp)=0:=by rw [←h];generalize dF=d;grobner
  exact P9 this
 ·refine Zw (u:=iF) hy ?_
  rw [rd]
  generalize dF=d at*
  clear hy
  grobner
theorem rP(x y:Fp):On ⟨x,y⟩↔x*x=(y*y-1)*CE (dF*(y*y)+1):=by
 have h:=Av (za y)
 have hne:=za y
 unfold On
 simp only
 generalize dF=d at*
 constructor
 ·intro h1
  refine Pg hne ?_;clear hne
  grobner
 ·intro h1
  clear hne
  grobner
def bX:Fp:=zf 15112221349535400772501151409588531511454012693041857206046113283949847762202
def bY:Fp:=zf 46316835694926478169428394003475163141307993866256225615783033603165251855960
def TS:Pt:=⟨bX,bY⟩
theorem Gl:On TS:=by
 unfold On TS bX bY dF
 decide+kernel
def A2:Nat:=7237005577332262213973186563042994240857116359379907606001950938285454250989
def mB(P Q:Nat×Nat×Nat×Nat):Nat×Nat×Nat×Nat:=
 let a:=(P.2.1+PP-P.1)*(Q.2.1+PP-Q.1)%PP
 let b:=(P.2.1+P.1)*(Q.2.1+Q.1)%PP
 let c:=2*37095705934669439343138083508754565189542113879843219016388785533085940283555*P.2.2.2%PP*Q.2.2.2%PP
 let d:=2*P.2.2.1*Q.2.2.1%PP
 ((b+PP-a)*(d+PP-c)%PP,(d+c)*(b+a)%PP,(d+PP-c)*(d+c)%PP,(b+PP-a)*(b+a)%PP)
def nQ(P:Nat×Nat×Nat×Nat):Qt:=⟨zf P.1,zf P.2.1,zf P.2.2.1,zf P.2.2.2⟩
def vH(P:Nat×Nat×Nat×Nat):Prop:=P.1<PP∧P.2.1<PP∧P.2.2.1<PP∧P.2.2.2<PP
theorem Pq(a b:Nat)(h:b<PP):zf (a+PP-b)=zf a-zf b:=by
 rw [yI _ _ O_,RR,ABg]
 generalize zf a=x
 generalize zf b=y
 grobner
theorem gQ:0<PP:=by decide
theorem nX{P Q:Nat×Nat×Nat×Nat}(hP:vH P)(hQ:vH Q):nQ (mB P Q)=cA (nQ P) (nQ Q)∧vH (mB P Q):=by
 obtain ⟨x1,y1,z1,t1⟩:=P
 obtain ⟨x2,y2,z2,t2⟩:=Q
 obtain ⟨p1,p2,p3,p4⟩:=hP
 obtain ⟨q1,q2,q3,q4⟩:=hQ
 have ml:∀n,n%PP<PP:=fun n=>Nat.mod_lt _ gQ
 refine ⟨?_,ml _,ml _,ml _,ml _⟩
 unfold nQ mB cA
 simp only [rZ,VW,RR]
 rw [Pq _ _ p1,Pq _ _ q1,Pq _ _ (ml _),Pq _ _ (ml _)]
 simp only [rZ,VW,RR]
 rw [Pq _ _ p1,Pq _ _ q1]
 have h2:zf 2=1+1:=by decide+kernel
 have hd:zf 37095705934669439343138083508754565189542113879843219016388785533085940283555=dF:=by unfold dF;rfl
 rw [h2,hd]
 have e1:(1+1)*dF*zf t1*zf t2=(dF+dF)*zf t1*zf t2:=by generalize dF=d;generalize zf t1=u;generalize zf t2=v;grobner
 have e2:(1+1)*zf z1*zf z2=(zf z1+zf z1)*zf z2:=by generalize zf z1=u;generalize zf z2=v;grobner
 rw [e1,e2]
def Ug(P:Nat×Nat×Nat×Nat)(e:Nat):Nat→Nat×Nat×Nat×Nat
 |0=>(0,1,1,0)
 |j+1=>if e/2^(255-j)%2=1 then mB (mB (Ug P e j) (Ug P e j)) P else mB (Ug P e j) (Ug P e j)
theorem xv{P:Nat×Nat×Nat×Nat}(hP:vH P)(e j:Nat):nQ (Ug P e j)=Uf (nQ P) e j∧vH (Ug P e j):=by
 induction j with
 |zero=>exact ⟨rfl,by unfold vH Ug;decide⟩
 |succ j ih=>
  obtain ⟨a1,a2⟩:=nX ih.2 ih.2
  rw [Ug,Uf,←ih.1]
  by_cases hc:e/2^(255-j)%2=1
  ·obtain ⟨b1,b2⟩:=nX a2 hP
   rw [if_pos hc,if_pos hc,←a1]
   exact ⟨b1,b2⟩
  ·rw [if_neg hc,if_neg hc]
   exact ⟨a1,a2⟩
def nB:Nat×Nat×Nat×Nat:=(15112221349535400772501151409588531511454012693041857206046113283949847762202,46316835694926478169428394003475163141307993866256225615783033603165251855960,1,46827403850823179245072216630277197565144205554125654976674165829533817101731)
theorem AAr:vH nB:=by unfold vH nB;decide
theorem wj:W5 (nQ nB) TS:=by
 unfold W5 nQ nB TS bX bY
 decide+kernel
theorem nL:(Ug nB A2 256).1=0∧(Ug nB A2 256).2.1=(Ug nB A2 256).2.2.1:=by decide+kernel
attribute [irreducible] Ug
theorem rG:F8 TS A2=H2:=by
 have h:=YG Gl wj A2 (by unfold A2;decide)
 have e:=(xv AAr A2 256).1
 rw [←e] at h
 obtain ⟨n1,n2⟩:=nL
 rw [←tV h]
 obtain ⟨z,_⟩:=h
 unfold aff nQ H2
 unfold nQ at z
 simp only at z ⊢
 rw [n1,n2,jO,FY]
 have h1:=Av z
 rw [Fin.mul_comm] at h1
 rw [h1]
theorem RK(n:Nat):F8 H2 n=H2:=by
 induction n with
 |zero=>rfl
 |succ n ih=>rw [F8,ih,P7]
theorem rk(n:Nat):F8 TS (n%A2)=F8 TS n:=by
 have h:n=A2*(n/A2)+n%A2:=(Nat.div_add_mod n A2).symm
 have e:F8 TS n=ED (F8 TS (A2*(n/A2))) (F8 TS (n%A2)):=by
  rw [←Fs Gl,←h]
 rw [e,Oi Gl,rG,RK,Tr]
def aM:Fp:=zf 121665
theorem zN:dF*(aM+1)= -aM:=by
 have:=AAK
 have e:zf 121666=aM+1:=by unfold aM;rw [show (121666:Nat)=121665+1 from rfl,RR,ej]
 rw [e] at this
 exact this
theorem AA3:aM+1≠0:=by decide+kernel
def Mg(X Z:Fp)(p:Pt):Prop:= ∃c,c≠0∧X=c*(1+p.y)∧Z=c*(1-p.y)
def Tc(p:Pt):Fp:=(1+p.y)*CE (1-p.y)
theorem Mg.out{X Z:Fp}{p:Pt}(h:Mg X Z p):X*CE Z=Tc p:=by
 obtain ⟨c,hc,rfl,rfl⟩:=h
 unfold Tc
 rw [ct]
 have:=Av hc
 generalize CE c=i at*
 generalize CE (1-p.y)=j
 clear hc
 grobner
theorem tp:Mg 1 0 H2:=⟨CE 2,Zd KW,by have:=Av KW;show 1=CE 2*(1+1);generalize CE 2=i at*;grobner,by show 0=CE 2*(1-1);generalize CE 2=i;grobner⟩
theorem nS{p:Pt}(h:Tc p≠0):1-p.y≠0:=fun e=>by
 unfold Tc at h
 rw [e,L6,Pb] at h
 exact h rfl
theorem vv{p:Pt}(h:Tc p≠0):Mg (Tc p) 1 p:=by
 have h1:=nS h
 refine ⟨CE (1-p.y),Zd h1,?_,(Av h1).symm⟩
 unfold Tc
 exact Fin.mul_comm _ _
theorem tC(d a x y:Fp)(hd:d*(a+1)= -a)(h:y*y-x*x=1+d*(x*x*(y*y))):y*y=(1+a*(1-y*y))*(1+x*x):=by grobner
theorem tB(d x y i D:Fp)(hD:D=1-d*x*x*y*y)(hi:i*D=1)(h:y*y-x*x=1+d*(x*x*(y*y))):D*(1+(y*y+x*x)*i)=2*(1+x*x):=by grobner
theorem sf(d x y i D:Fp)(hD:D=1-d*x*x*y*y)(hi:i*D=1)(h:y*y-x*x=1+d*(x*x*(y*y))):D*(1-(y*y+x*x)*i)=2*(1-y*y):=by grobner
def ZX(X Z:Fp):Fp×Fp:=((X+Z)*(X+Z)*((X-Z)*(X-Z)),((X+Z)*(X+Z)-(X-Z)*(X-Z))*((X+Z)*(X+Z)+aM*((X+Z)*(X+Z)-(X-Z)*(X-Z))))
theorem jU{X Z:Fp}{p:Pt}(hp:On p)(h:Mg X Z p):Mg (ZX X Z).1 (ZX X Z).2 (ED p p):=by
 obtain ⟨c,hc,rfl,rfl⟩:=h
 obtain ⟨x,y⟩:=p
 have hD0:=GJ hp hp
 have hi:=Av hD0
 have hon:y*y-x*x=1+dF*(x*x*(y*y)):=hp
 have hk:=tC dF aM x y zN hon
 have hf:1+aM*(1-y*y)≠0:=fun e=>by
  rw [e,FY] at hk
  have:=AA3
  rw [hk] at e
  exact this (by rw [←e];generalize aM=a;grobner)
 unfold ZX ED
 simp only at*
 have k1:=tB dF x y _ _ rfl hi hon
 have k2:=sf dF x y _ _ rfl hi hon
 generalize 1-dF*x*x*y*y=D at*
 generalize CE D=i at*
 refine ⟨8*(c*c*(c*c))*D*(1+aM*(1-y*y)),DW (DW (DW (by decide+kernel) (DW (DW hc hc) (DW hc hc))) hD0) hf,?_,?_⟩
 ·have e:8*(c*c*(c*c))*D*(1+aM*(1-y*y))*(1+(y*y+x*x)*i)=8*(c*c*(c*c))*(1+aM*(1-y*y))*(D*(1+(y*y+x*x)*i)):=by
   clear k1 k2 hk hf hi hon hp hD0;grobner
  rw [e,k1]
  have e2:8*(c*c*(c*c))*(1+aM*(1-y*y))*(2*(1+x*x))=16*(c*c*(c*c))*((1+aM*(1-y*y))*(1+x*x)):=by
   clear k1 k2 hk hf hi hon hp hD0 e;grobner
  rw [e2,←hk]
  clear k1 k2 hk hf hi hon hp hD0 e e2
  grobner
 ·have e:8*(c*c*(c*c))*D*(1+aM*(1-y*y))*(1-(y*y+x*x)*i)=8*(c*c*(c*c))*(1+aM*(1-y*y))*(D*(1-(y*y+x*x)*i)):=by
   clear k1 k2 hk hf hi hon hp hD0;grobner
  rw [e,k2]
  clear k1 k2 hk hf hi hon hp hD0 e
  generalize aM=a
  grobner
theorem th (d x y z w : Fp) (h : y * y - x * x = 1 + d * (x * x * (y * y))) (k : w * w - z * z = 1 + d * (z * z * (w * w))) :
    (y + w) * (y + w) * ((1 - d * x * z * y * w - (y * w + x * z)) * (1 + d * x * z * y * w - (y * w - x * z))) = (w - y) * (w - y) * ((1 - d * x * z * y * w + (y * w + x * z)) * (1 + d * x * z * y * w + (y * w - x * z))) := by grobner
def UY(u X Z V W:Fp):Fp×Fp:=(((V-W)*(X+Z)+(V+W)*(X-Z))*((V-W)*(X+Z)+(V+W)*(X-Z)),u*(((V-W)*(X+Z)-(V+W)*(X-Z))*((V-W)*(X+Z)-(V+W)*(X-Z))))
theorem ms{u:Fp}(h:u+u=0):u=0:=by
 have:2*u=0:=by grobner
 rcases Ga this with g | g
 ·exact absurd g KW
 ·exact g
theorem iM{u X Z V W:Fp}{p q:Pt}(hp:On p)(hq:On q)(h:Mg X Z p)(k:Mg V W q)(hu:u≠0)(hd:u*(1-(ED q (M7 p)).y)=1+(ED q (M7 p)).y):Mg (UY u X Z V W).1 (UY u X Z V W).2 (ED p q):=by
 obtain ⟨c,hc,rfl,rfl⟩:=h
 obtain ⟨e,he,rfl,rfl⟩:=k
 obtain ⟨x,y⟩:=p
 obtain ⟨z,w⟩:=q
 have hm:=GJ hp hq
 have hpl:=J1 hp hq
 have hi:=Av hm
 have hj:=Av hpl
 have hon:y*y-x*x=1+dF*(x*x*(y*y)):=hp
 have hon':w*w-z*z=1+dF*(z*z*(w*w)):=hq
 have key:=th dF x y z w hon hon'
 have ey:(ED ⟨z,w⟩ (M7 ⟨x,y⟩)).y=(y*w-x*z)*CE (1+dF*x*z*y*w):=by
  unfold ED M7
  simp only
  have e1:w*y+z* -x=y*w-x*z:=by grobner
  have e2:1-dF*z* -x*w*y=1+dF*x*z*y*w:=by generalize dF=d;grobner
  rw [e1,e2]
 rw [ey] at hd
 clear ey
 simp only at*
 have hu2:u*(1+dF*x*z*y*w-(y*w-x*z))=1+dF*x*z*y*w+(y*w-x*z):=by
  generalize 1+dF*x*z*y*w=D at*
  generalize CE D=j at*
  have e1:u*(D-(y*w-x*z))=D*(u*(1-(y*w-x*z)*j))+u*(j*D-1)*(y*w-x*z):=by clear key hon hon' hd hj;grobner
  rw [e1,hd,hj]
  have e2:D*(1+(y*w-x*z)*j)=D+(y*w-x*z)*(j*D):=by clear key hon hon' hd hj e1;grobner
  rw [e2,hj]
  clear key hon hon' hd hj e1 e2
  grobner
 have hX:(UY u (c*(1+y)) (c*(1-y)) (e*(1+w)) (e*(1-w))).1=16*(c*c*(e*e))*((y+w)*(y+w)):=by
  unfold UY
  clear key hon hon' hd hi hj hu2 hp hq
  simp only
  grobner
 have hZ:(UY u (c*(1+y)) (c*(1-y)) (e*(1+w)) (e*(1-w))).2=u*(16*(c*c*(e*e))*((w-y)*(w-y))):=by
  unfold UY
  clear key hon hon' hd hi hj hu2 hp hq
  simp only
  grobner
 rw [hX,hZ]
 have cross:((y+w)*(y+w))*(1-dF*x*z*y*w-(y*w+x*z))*(1+dF*x*z*y*w-(y*w-x*z))=(u*((w-y)*(w-y)))*(1-dF*x*z*y*w+(y*w+x*z))*(1+dF*x*z*y*w-(y*w-x*z)):=by
  generalize 1-dF*x*z*y*w-(y*w+x*z)=A at*
  generalize 1-dF*x*z*y*w+(y*w+x*z)=B at*
  generalize 1+dF*x*z*y*w-(y*w-x*z)=G at*
  generalize 1+dF*x*z*y*w+(y*w-x*z)=H at*
  clear hi hj hon hon' hX hZ hd hp hq hm hpl
  grobner
 have hG:1+dF*x*z*y*w-(y*w-x*z)≠0:=fun g=>by
  rw [g,Pb] at hu2
  have h2:(1+dF*x*z*y*w)+(1+dF*x*z*y*w)=0:=by
   generalize 1+dF*x*z*y*w=D at*
   clear key cross hi hj hon hon' hX hZ hd hp hq hm hpl
   grobner
  exact hpl (ms h2)
 have cross2:((y+w)*(y+w))*(1-dF*x*z*y*w-(y*w+x*z))=(u*((w-y)*(w-y)))*(1-dF*x*z*y*w+(y*w+x*z)):=by
  refine Pg hG ?_;rw [Fin.mul_comm,cross,Fin.mul_comm]
 clear cross hG hd hX hZ key
 have hne:(y+w)*(y+w)+u*((w-y)*(w-y))≠0:=fun g=>by
  have g1:((y+w)*(y+w))*(1-dF*x*z*y*w)=0:=by
   generalize 1-dF*x*z*y*w=D at*
   have e1:((y+w)*(y+w))*(D-(y*w+x*z))= -((y+w)*(y+w))*(D+(y*w+x*z)):=by
    rw [cross2]
    clear cross2 hi hj hon hon' hp hq hm hpl hu2
    grobner
   have e2:2*((y+w)*(y+w)*D)=0:=by
    clear cross2 hi hj hon hon' hp hq hm hpl hu2 g
    grobner
   rcases Ga e2 with k | k
   ·exact absurd k KW
   ·exact k
  have g2:y+w=0:=by
   rcases Ga g1 with k | k
   ·rcases Ga k with k | k<;>exact k
   ·exact absurd k hm
  have g3:w-y=0:=by
   rw [g2] at g
   have:u*((w-y)*(w-y))=0:=by rw [←g];clear cross2 hi hj hon hon' hp hq hm hpl hu2 g g1 g2;grobner
   rcases Ga this with k | k
   ·exact absurd k hu
   ·rcases Ga k with k | k<;>exact k
  have hy:y=0:=ms (by clear cross2 hi hj hon hon' hp hq hm hpl hu2 g g1;grobner)
  have hw:w=0:=by rw [hy] at g2;clear cross2 hi hj hon hon' hp hq hm hpl hu2 g g1 g3 hy;grobner
  subst hy;subst hw
  have hxx:x*x= -1:=by clear cross2 hi hj hon' hp hq hm hpl hu2 g g1 g2 g3;generalize dF=d at*;grobner
  have hzz:z*z= -1:=by clear cross2 hi hj hon hp hq hm hpl hu2 g g1 g2 g3 hxx;generalize dF=d at*;grobner
  have hs:(x*z)*(x*z)=1:=by
   have:(x*z)*(x*z)=(x*x)*(z*z):=by clear cross2 hi hj hon hon' hp hq hm hpl hu2 g g1 g2 g3 hxx hzz;grobner
   rw [this,hxx,hzz];decide+kernel
  have hu3:u*(1+x*z)=1-x*z:=by clear cross2 hi hj hon hon' hp hq hm hpl g g1 g2 g3 hxx hzz hs;generalize dF=d at*;grobner
  rcases yT hs with k | k
  ·rw [k] at hu3
   have:2*u=0:=by clear cross2 hi hj hon hon' hp hq hm hpl hu2 g g1 g2 g3 hxx hzz hs k;grobner
   rcases Ga this with k | k
   ·exact KW k
   ·exact hu k
  ·rw [k] at hu3
   have:(2:Fp)=0:=by clear cross2 hi hj hon hon' hp hq hm hpl hu2 g g1 g2 g3 hxx hzz hs k;grobner
   exact KW this
 refine ⟨CE 2*(16*(c*c*(e*e)))*((y+w)*(y+w)+u*((w-y)*(w-y))),DW (DW (Zd KW) (DW (by decide+kernel) (DW (DW hc hc) (DW he he)))) hne,?_,?_⟩
 ·show _=_*(1+(y*w+x*z)*CE (1-dF*x*z*y*w))
  have h2:=Av KW
  clear hne hu2 hon hon' hp hq hj hpl
  generalize 1-dF*x*z*y*w=D at*
  generalize CE D=i at*
  generalize CE 2=t at*
  generalize (y+w)*(y+w)=s at*
  generalize u*((w-y)*(w-y))=r at*
  generalize y*w+x*z=v at*
  have e1:(s+r)*(1+v*i)=2*s:=by
   have e2:(s+r)*(1+v*i)=(s+r)*(i*D+v*i):=by rw [hi]
   rw [e2]
   clear h2 hm hu hc he e2
   grobner
  have e3:t*(16*(c*c*(e*e)))*(s+r)*(1+v*i)=t*(16*(c*c*(e*e)))*((s+r)*(1+v*i)):=by clear e1 h2 hi cross2;grobner
  rw [e3,e1]
  clear e1 e3 hi cross2
  grobner
 ·show _=_*(1-(y*w+x*z)*CE (1-dF*x*z*y*w))
  have h2:=Av KW
  clear hne hu2 hon hon' hp hq hj hpl
  generalize 1-dF*x*z*y*w=D at*
  generalize CE D=i at*
  generalize CE 2=t at*
  generalize (y+w)*(y+w)=s at*
  have e0:u*(16*(c*c*(e*e))*((w-y)*(w-y)))=16*(c*c*(e*e))*(u*((w-y)*(w-y))):=by clear cross2 hi h2;grobner
  rw [e0]
  generalize u*((w-y)*(w-y))=r at*
  generalize y*w+x*z=v at*
  have e1:(s+r)*(1-v*i)=2*r:=by
   have e2:(s+r)*(1-v*i)=(s+r)*(i*D-v*i):=by rw [hi]
   rw [e2]
   clear h2 hm hu hc he e2 e0
   grobner
  have e3:t*(16*(c*c*(e*e)))*(s+r)*(1-v*i)=t*(16*(c*c*(e*e)))*((s+r)*(1-v*i)):=by clear e1 h2 hi cross2 e0;grobner
  rw [e3,e1]
  clear e1 e3 hi cross2 e0
  grobner
abbrev M4:=Fp×Fp×Fp×Fp
def QS(u:Fp)(b:Bool)(s:M4):M4:=
 match b with
 |false=>((ZX s.1 s.2.1).1,(ZX s.1 s.2.1).2,(UY u s.1 s.2.1 s.2.2.1 s.2.2.2).1,(UY u s.1 s.2.1 s.2.2.1 s.2.2.2).2)
 |true=>((UY u s.2.2.1 s.2.2.2 s.1 s.2.1).1,(UY u s.2.2.1 s.2.2.2 s.1 s.2.1).2,(ZX s.2.2.1 s.2.2.2).1,(ZX s.2.2.1 s.2.2.2).2)
def Vs(u:Fp)(k:Nat):Nat→M4
 |0=>(1,0,u,1)
 |j+1=>QS u (k.testBit (254-j)) (Vs u k j)
def ABI(u:Fp)(k:Nat):Fp:=(Vs u k 255).1*CE (Vs u k 255).2.1
theorem VU(p:Pt):F8 p 1=p:=Tr p
theorem Xy{p:Pt}(h:On p)(m:Nat):ED (F8 p (m+1)) (M7 (F8 p m))=p:=by
 rw [Nat.add_comm m 1,Fs h,VU,WQ h (JA h m) (oQ (JA h m)),qq (JA h m),P7]
theorem lI{p q:Pt}:M7 (ED p q)=ED (M7 p) (M7 q):=by
 obtain ⟨x,y⟩:=p
 obtain ⟨z,w⟩:=q
 unfold ED M7
 simp only
 have e1:dF* -x* -z*y*w=dF*x*z*y*w:=by generalize dF=d;grobner
 rw [e1]
 congr 1
 ·generalize CE (1+dF*x*z*y*w)=i;grobner
 ·generalize CE (1-dF*x*z*y*w)=i;grobner
theorem lP(p:Pt):M7 (M7 p)=p:=by
 obtain ⟨x,y⟩:=p
 unfold M7
 simp only
 congr 1
 grobner
theorem eq{p:Pt}(h:On p)(m:Nat):ED (F8 p m) (M7 (F8 p (m+1)))=M7 p:=by
 have:=congrArg M7 (Xy h m)
 rw [lI,lP,Sj] at this
 exact this
theorem vz{p:Pt}(h:Tc p≠0):Tc p*(1-p.y)=1+p.y:=by
 have h1:=Av (nS h)
 unfold Tc
 generalize 1-p.y=D at*
 generalize CE D=i at*
 clear h
 grobner
theorem eM(k j:Nat)(hj:j<255):k>>>(254-j)=2*(k>>>(255-j))+(if k.testBit (254-j)=true then 1 else 0):=by
 have e:255-j=(254-j)+1:=by omega
 rw [e,Nat.shiftRight_add,Nat.testBit_eq_decide_div_mod_eq,Nat.shiftRight_eq_div_pow,Nat.shiftRight_eq_div_pow]
 generalize k/2^(254-j)=n
 by_cases h:n%2=1<;>simp [h]<;>omega
theorem tM{p:Pt}(hp:On p)(hu:Tc p≠0){k:Nat}(hk:k<2^255)(j:Nat)(hj:j≤255):
  Mg (Vs (Tc p) k j).1 (Vs (Tc p) k j).2.1 (F8 p (k>>>(255-j)))∧Mg (Vs (Tc p) k j).2.2.1 (Vs (Tc p) k j).2.2.2 (F8 p (k>>>(255-j)+1)):=by
 induction j with
 |zero=>
  have e:k>>>255=0:=by rw [Nat.shiftRight_eq_div_pow,Nat.div_eq_of_lt hk]
  rw [Nat.sub_zero,e]
  refine ⟨tp,?_⟩
  rw [Nat.zero_add,VU]
  exact vv hu
 |succ j ih=>
  obtain ⟨h1,h2⟩:=ih O_
  have e:255-(j+1)=254-j:=by omega
  rw [e,eM k j O_]
  generalize k>>>(255-j)=m at h1 h2
  have o1:=JA hp m
  have o2:=JA hp (m+1)
  have hd:=vz hu
  show Mg (QS _ _ _).1 (QS _ _ _).2.1 _∧Mg (QS _ _ _).2.2.1 (QS _ _ _).2.2.2 _
  generalize Vs (Tc p) k j=s at h1 h2
  cases k.testBit (254-j) with
  |false=>
   simp only [QS,Bool.false_eq_true,if_false]
   refine ⟨?_,?_⟩
   ·have:=jU o1 h1
    rwa [←Fs hp,show m+m=2*m+0 by omega] at this
   ·have:=iM o1 o2 h1 h2 hu (by rw [Xy hp];exact hd)
    rwa [←Fs hp,show m+(m+1)=2*m+0+1 by omega] at this
  |true=>
   simp only [QS,if_true]
   refine ⟨?_,?_⟩
   ·have:=iM o2 o1 h2 h1 hu (by rw [eq hp];exact hd)
    rwa [←Fs hp,show m+1+m=2*m+1 by omega] at this
   ·have:=jU o2 h2
    rwa [←Fs hp,show m+1+(m+1)=2*m+1+1 by omega] at this
theorem bp{p:Pt}(hp:On p)(hu:Tc p≠0){k:Nat}(hk:k<2^255):ABI (Tc p) k=Tc (F8 p k):=by
 have:=(tM hp hu hk 255 (Nat.le_refl _)).1
 rw [Nat.sub_self,Nat.shiftRight_zero] at this
 exact this.out
theorem Zt{p:Pt}(hp:On p)(h:Tc p=0):ED p p=H2:=by
 have hy:p.y=1∨p.y= -1:=by
  unfold Tc at h
  rcases Ga h with g | g
  ·right;clear h;grobner
  ·left
   by_cases e:1-p.y=0
   ·clear h g;grobner
   ·exact absurd g (Zd e)
 have hyy:p.y*p.y=1:=by rcases hy with e | e<;>rw [e]<;>decide+kernel
 obtain ⟨x,y⟩:=p
 have hon:y*y-x*x=1+dF*(x*x*(y*y)):=hp
 simp only at hyy
 rw [hyy] at hon
 have hx:x*x*(1+dF)=0:=by clear hp h hy;generalize dF=d at*;grobner
 have hx0:x=0:=by
  rcases Ga hx with g | g
  ·rcases Ga g with g | g<;>exact g
  ·exact absurd g (by unfold dF;decide+kernel)
 subst hx0
 unfold ED H2
 simp only
 rw [show (1:Fp)-dF*0*0*y*y=1 by generalize dF=d;grobner,jo,hyy]
 congr 1
 ·grobner
theorem cd:Tc TS=zf 9:=by
 unfold Tc
 have h:zf 9*(1-TS.y)=1+TS.y:=by unfold TS bY;decide+kernel
 have hn:1-TS.y≠0:=by unfold TS bY;decide+kernel
 have hi:=Av hn
 generalize 1-TS.y=D at*
 generalize 1+TS.y=E at*
 generalize CE D=i at*
 subst h
 generalize zf 9=n
 clear hn
 grobner
end Go.Proofs.YtmbepikkgkcgkaaGreatDoor
namespace Go.Proofs.YtmbepikkgkcgkaaGreatDoor
open Go.RowKit
variable {g r : Prop}
open Go.Proofs.Tryz
def TL(x:AB 64)(v:Fp):Prop:=C7 x∧LF x=v
theorem TL.add{a b:AB 64}{u v:Fp}(h:TL a u)(k:TL b v):TL (Aw a b) (u+v):=by
 obtain ⟨h1,rfl⟩:=h;obtain ⟨k1,rfl⟩:=k;rw [gk _ _ h1.1 k1.1];exact Ij h1 k1
theorem TL.sub{a b:AB 64}{u v:Fp}(h:TL a u)(k:TL b v):TL (Ax a b) (u-v):=by
 obtain ⟨h1,rfl⟩:=h;obtain ⟨k1,rfl⟩:=k;rw [iY _ _ h1.1 k1.1];exact KO h1 k1
theorem TL.mul{a b:AB 64}{u v:Fp}(h:TL a u)(k:TL b v):TL (Au a b) (u*v):=by
 obtain ⟨h1,rfl⟩:=h;obtain ⟨k1,rfl⟩:=k;rw [jV _ _ h1.1 k1.1];exact CL h1 k1
theorem TL.aM:TL (Lt 121665#64) aM:=by rw [Ul];exact Ds (x:=121665#64) D_
theorem TL.one:TL (Lt 1#64) 1:=by rw [Ul];exact Ds (x:=1#64) D_
theorem TL.of(b:AB 8)(hb:b.length=32):TL (gu b) (Z b):=by rw [nC b hb];exact tZ b
theorem TL.zero:TL (Lt 0#64) 0:=by rw [Ul];exact Ds (x:=0#64) D_
def TL4(x:AB 64×AB 64×AB 64×AB 64)(s:M4):Prop:=TL x.1 s.1∧TL x.2.1 s.2.1∧TL x.2.2.1 s.2.2.1∧TL x.2.2.2 s.2.2.2
def uP(place:AB 8):Fp:=Z (put place 31 ((nth place 31)&&&127#8))
def kN(key:AB 8):Nat:=D8 (GP key) 32
theorem wy(key place:AB 8)(hkey:key.length=32)(hplace:place.length=32):∀j,j≤255→TL4 (A4 key place j) (Vs (uP place) (kN key) j):=by
 intro j
 induction j with
 |zero=>exact fun _=>⟨.one,.zero,.of _ (by simpa using hplace),.one⟩
 |succ j ih=>
  intro hj
  have h:=ih O_
  have hu:TL (gu (put place 31 ((nth place 31)&&&127#8))) (uP place):= .of _ (by simpa using hplace)
  rw [A4.eq_2,Kq,iL key hkey]
  show TL4 _ (QS _ _ _)
  rw [Nat.testBit_eq_decide_div_mod_eq,Yb _ _ O_]
  generalize A4 key place j=x at h
  generalize Vs (uP place) (kN key) j=s at h
  obtain ⟨h1,h2,h3,h4⟩:=h
  unfold kN
  by_cases hb:D8 (GP key) 32/2^(254-j)%2=1
  ·rw [decide_eq_true hb]
   simp only [if_true,QS,UY,ZX,E8,ER,E7,EU]
   exact ⟨.mul (.add (.mul (.sub h1 h2) (.add h3 h4)) (.mul (.add h1 h2) (.sub h3 h4))) (.add (.mul (.sub h1 h2) (.add h3 h4)) (.mul (.add h1 h2) (.sub h3 h4))),
    .mul hu (.mul (.sub (.mul (.sub h1 h2) (.add h3 h4)) (.mul (.add h1 h2) (.sub h3 h4))) (.sub (.mul (.sub h1 h2) (.add h3 h4)) (.mul (.add h1 h2) (.sub h3 h4)))),
    .mul (.mul (.add h3 h4) (.add h3 h4)) (.mul (.sub h3 h4) (.sub h3 h4)),
    .mul (.sub (.mul (.add h3 h4) (.add h3 h4)) (.mul (.sub h3 h4) (.sub h3 h4))) (.add (.mul (.add h3 h4) (.add h3 h4)) (.mul .aM (.sub (.mul (.add h3 h4) (.add h3 h4)) (.mul (.sub h3 h4) (.sub h3 h4)))))⟩
  ·rw [decide_eq_false hb]
   simp only [Bool.false_eq_true,if_false,QS,UY,ZX,E8,ER,E7,EU]
   exact ⟨.mul (.mul (.add h1 h2) (.add h1 h2)) (.mul (.sub h1 h2) (.sub h1 h2)),
    .mul (.sub (.mul (.add h1 h2) (.add h1 h2)) (.mul (.sub h1 h2) (.sub h1 h2))) (.add (.mul (.add h1 h2) (.add h1 h2)) (.mul .aM (.sub (.mul (.add h1 h2) (.add h1 h2)) (.mul (.sub h1 h2) (.sub h1 h2))))),
    .mul (.add (.mul (.sub h3 h4) (.add h1 h2)) (.mul (.add h3 h4) (.sub h1 h2))) (.add (.mul (.sub h3 h4) (.add h1 h2)) (.mul (.add h3 h4) (.sub h1 h2))),
    .mul hu (.mul (.sub (.mul (.sub h3 h4) (.add h1 h2)) (.mul (.add h3 h4) (.sub h1 h2))) (.sub (.mul (.sub h3 h4) (.add h1 h2)) (.mul (.add h3 h4) (.sub h1 h2))))⟩
def QL(key place:AB 8):AB 8:=F (ABI (uP place) (kN key))
@[simp] theorem IZ(key place:AB 8):(QL key place).length=32:=bz _
theorem mo(key place:AB 8)(hkey:key.length=32)(hplace:place.length=32):Vu key place=QL key place:=by
 unfold Vu QL
 obtain ⟨h1,h2,-,-⟩:=wy key place hkey hplace 255 (Nat.le_refl _)
 obtain ⟨i1,i2⟩:=W0 h2.1
 rw [h2.2] at i2
 have hq:TL (W9 (A4 key place 255).2.1) (CE (Vs (uP place) (kN key) 255).2.1):=by rw [iS _ h2.1.1];exact ⟨i1,i2⟩
 have:=TL.mul h1 hq
 rw [pg _ this.1.1,KH this.1,this.2]
 rfl
theorem nE(key place:AB 8)(hkey:key.length=32)(hplace:place.length=32):Ev prog (.call 115 [B4 key,B4 place] []) (.val (B4 (QL key place)) []):=by
 rw [←mo key place hkey hplace];exact lA key place hkey hplace
theorem xy(n j:Nat):nth (Ag n) j=0#8:=by
 unfold nth Ag
 rw [List.getD_eq_getElem?_getD,List.getElem?_replicate]
 split<;>rfl
theorem tJ{n:Nat}(l:AB n)(i:Nat)(h:l.length≤i):nth l i=0:=by
 unfold nth;rw [List.getD_eq_getElem?_getD,List.getElem?_eq_none h];rfl
theorem uK{n:Nat}{a b:AB n}(hl:a.length=b.length)(h:∀i,i<a.length→nth a i=nth b i):a=b:=by
 refine List.ext_getElem hl fun i h1 h2=>?_
 have:=h i h1
 rwa [Qj a i h1,Qj b i h2] at this
def fZ(k:AB 8)(c:BitVec 8):AB 8:=(List.range 64).map fun i=>nth k i^^^c
theorem dV(k:AB 8)(c:BitVec 8):(fZ k c).length=64:=by simp [fZ]
theorem qm(k:AB 8)(c:BitVec 8)(i:Nat)(h:i<64):nth (fZ k c) i=nth k i^^^c:=by
 rw [Qj _ _ (by rw [dV];exact h)]
 simp [fZ]
def sh(k b:AB 8):AB 8:=AJ (fZ k 92#8++AJ (fZ k 54#8++b))
def PT(c:BitVec 8)(l:AB 8):Nat→AB 8
 |0=>l
 |j+1=>put (PT c l j) j (nth (PT c l j) j^^^c)
theorem S3(c:BitVec 8)(l:AB 8)(j:Nat):(PT c l j).length=l.length:=by
 induction j with
 |zero=>rfl
 |succ j ih=>rw [PT,B1,ih]
theorem kR(c:BitVec 8)(l:AB 8)(i:Nat):∀j,j≤l.length→nth (PT c l j) i=if i<j then nth l i^^^c else nth l i:=by
 intro j
 induction j with
 |zero=>intro _;rw [if_neg O_];rfl
 |succ j ih=>
  intro hj
  rw [PT,DH _ _ _ _ (by rw [S3];omega)]
  by_cases e:j=i
  ·subst e;rw [if_pos rfl,if_pos O_,ih O_,if_neg O_]
  ·rw [if_neg e,ih O_]
   by_cases h:i<j
   ·rw [if_pos h,if_pos O_]
   ·rw [if_neg h,if_neg O_]
theorem lH(k:AB 8)(i:Nat)(h:k.length≤64):nth (over (Ag 64) 0 k) i=nth k i:=by
 unfold nth
 rw [Ii _ _ _ _ _ (by simp;exact h)]
 by_cases hi:i<k.length
 ·rw [if_pos O_];rfl
 ·rw [if_neg O_]
  have h1:=xy 64 i
  have h2:=tJ k i O_
  unfold nth at h1 h2
  rw [h1,h2];rfl
theorem Un(c:BitVec 8)(k:AB 8)(h:k.length≤64):PT c (over (Ag 64) 0 k) 64=fZ k c:=by
 have hl:(over (Ag 64) 0 k).length=64:=by rw [pN];simp;omega
 refine uK (by rw [S3,dV,hl]) fun i hi=>?_
 rw [S3,hl] at hi
 rw [kR _ _ _ 64 (by rw [hl];omega),if_pos hi,qm _ _ _ hi,lH k i h]
theorem s8(key:AB 8)(j:Nat):Ba key j=(PT 54#8 (over (Ag 64) 0 (cut key 0 (min key.length 64))) j,PT 92#8 (over (Ag 64) 0 (cut key 0 (min key.length 64))) j):=by
 induction j with
 |zero=>rfl
 |succ j ih=>rw [Ba.eq_2,ih];rfl
theorem l8(key:AB 8)(j:Nat):Bd key j=(PT 54#8 (over (Ag 64) 0 (AJ key)) j,PT 92#8 (over (Ag 64) 0 (AJ key)) j):=by
 induction j with
 |zero=>rfl
 |succ j ih=>rw [Bd.eq_2,ih];rfl
def keyOf(key:AB 8):AB 8:=if 64<key.length then AJ key else key
theorem cr(key b:AB 8):HV key b=sh (keyOf key) b:=by
 unfold HV keyOf
 split
 ·unfold NE sh
  rw [l8,Un _ _ (by simp),Un _ _ (by simp)]
 ·unfold MS sh
  rename_i h
  rw [s8,show min key.length 64=key.length by omega,HL rfl,Un _ _ O_,Un _ _ O_]
theorem mE(key:AB 8)(kn kcap:Nat)(b:AB 8)(n cap:Nat)(hkey:key.length=kn)(hkn:kn≤1099511627776)(hb:b.length=n)(hn:n≤1099511627776):Ev prog (.call 80 [.c (.sl 0 0 kn kcap 1),.c (.sl 1 0 n cap 1)] [Bw (key),Bw (b)]) (.val (B4 (HV key b)) [Bw (key),Bw (b)]):=by
 subst hkey
 subst hb
 refine AG func80 rfl ntmps80 rfl AH ?_;refine KP ?_;refine Df ?_;refine VZ (Xv key key.length kcap b b.length cap AD AD AD AD) nP ?_;refine F5 ?_;refine AN ?_;have hQ1:(HV key b).length=32:=An
 refine S_ ?_;exact FC
def M6(X1:AB 8):AB 8:=X1++[0#8]
def Do(tx:AB 8):Nat→AB 8
 |0=>tx++[128#8]
 |j3+1=>M6 (Do tx j3)
@[simp] theorem KV(tx:AB 8)(j3:Nat):(Do tx j3).length=(tx.length+1)+j3:=by
 induction j3 with
 |zero=>(simp [Do, *];done)
 |succ j3 ih=>rw [Do.eq_2,M6];(simp [ih];omega)
def Gt(tx:AB 8):AB 8:=Dg (Dg (Do tx ((240-(tx.length+1)%128)%128)) ((BitVec.ofNat 64 tx.length)>>>61)) ((BitVec.ofNat 64 tx.length)<<<3)
theorem eb(b:AB 8)(o n cap:Nat)(hb:o+n≤b.length)(hn:n≤4398046511104):Ev prog (.call 61 [.c (.sl 0 o n cap 1),Ae ((128:Nat):Int),Ae ((16:Nat):Int)] [Bw (b)]) (.val (.c (.sl 1 0 ((((n+1)+(240-(n+1)%128)%128)+8)+8) ((((n+1)+(240-(n+1)%128)%128)+8)+8) 1)) [Bw (b),CM (Gt (cut b o n))]):=by
 have hP:=Hid.mk (Gt.eq_1 (cut b o n))
 have htx:(cut b o n).length=n:=by rw [Ck];omega
 try simp only [htx] at hP
 refine AG func61 rfl ntmps61 rfl AH ?_;refine QM ?_;refine JK ?_;refine AR ?_;refine Tw ?_;refine Ab ?_;refine BE (Xz (l:=[128#8]) underlying23 Gb rfl rfl D_ D_ AH) AM rfl ?_;refine Cr ?_;refine Ay ?_;refine AU [0,1,2,7] (fun (zz:Nat×AB 8)=>⟨41,AS [0,1,2,7] [.c (.sl 0 o n cap 1),Ae (((128:Nat):Int)),Ae (((16:Nat):Int)),.c (.sl 1 0 ((n+1)+zz.1) ((n+1)+zz.1) 1)],[Bw (b),CM (zz.2)]⟩) (fun j3=>(j3,Do (cut b o n) j3)) ((240-(n+1)%128)%128) K_ ?_ ?_
 ·intro j3 hj3
  try dsimp only
  have hX1:(Do (cut b o n) j3).length=(n+1)+j3:=by rw [KV (cut b o n) _];try omega
  rw [Do.eq_2,M6]
  try simp only [htx]
  generalize Do (cut b o n) j3=X1 at*
  refine GV ?_;refine AR ?_;refine AA (HM (b:=128) rfl rfl O_ O_) rfl ?_;refine FZ ?_;refine AA (Fg (a:=128) (b:=16) rfl rfl O_ O_) rfl ?_;refine AA (EE (b:=112) rfl rfl) rfl ?_;refine AZ ?_;refine V8 ?_;refine Cr ?_;refine Bc ?_;exact ⟨(j3+1,_),K_,rfl⟩
 ·try dsimp only
  have hY2:(Do (cut b o n) ((240-(n+1)%128)%128)).length=(n+1)+(240-(n+1)%128)%128:=by rw [KV (cut b o n) _];try omega
  generalize Do (cut b o n) ((240-(n+1)%128)%128)=Y2 at*
  refine GV ?_;refine AR ?_;refine AA (HM (b:=128) rfl rfl O_ O_) rfl ?_;refine FZ ?_;refine AA (Fg (a:=128) (b:=16) rfl rfl O_ O_) rfl ?_;refine AA (EE (b:=112) rfl rfl) rfl ?_;refine AZ ?_;refine CV ?_;refine cW ?_;refine Ab ?_;refine AQ ?_;refine AA (Cm (a:=16) (b:=16) rfl rfl) rfl ?_;refine Bc ?_;have hQ3:(Dg Y2 ((BitVec.ofNat 64 n)>>>61)).length=((n+1)+(240-(n+1)%128)%128)+8:=An
  refine Ar ?_;refine AA (CY (j:=61) rfl rfl) rfl ?_;refine Cs (DG (bs:=[1]) (NT Y2 ((n+1)+(240-(n+1)%128)%128) ((n+1)+(240-(n+1)%128)%128) ((BitVec.ofNat 64 n)>>>61) AD AD) fy K_ rfl rfl BT AM) rfl ?_;refine Bc ?_;have hQ4:(Dg (Dg Y2 ((BitVec.ofNat 64 n)>>>61)) ((BitVec.ofNat 64 n)<<<3)).length=(((n+1)+(240-(n+1)%128)%128)+8)+8:=An
  refine Ar ?_;refine AA (CA (j:=3) rfl rfl) rfl ?_;refine Ym (NT (Dg Y2 ((BitVec.ofNat 64 n)>>>61)) (((n+1)+(240-(n+1)%128)%128)+8) (((n+1)+(240-(n+1)%128)%128)+8) ((BitVec.ofNat 64 n)<<<3) AD AD) fy ?_;refine Ab ?_;refine Ay ?_;rw [hP.out]
  exact EZ
@[simp] theorem vI(tx:AB 8):(Gt tx).length=(((tx.length+1)+(240-(tx.length+1)%128)%128)+8)+8:=by
 unfold Gt
 (simp [KV, *];done)
attribute [irreducible] Gt
def O0(tx:AB 8)(j4:Nat)(X4:AB 64)(j8:Nat):AB 64:=if j8<16 then put X4 j8 (Ri (Gt tx) ((128*j4)+(8*j8)) (((8*j8)+8)-(8*j8))) else put X4 j8 ((((nth X4 (j8-16))+(((GS (nth X4 (j8-15)) (-1))^^^(GS (nth X4 (j8-15)) (-8)))^^^((nth X4 (j8-15))>>>7)))+(nth X4 (j8-7)))+(((GS (nth X4 (j8-2)) (-19))^^^(GS (nth X4 (j8-2)) (-61)))^^^((nth X4 (j8-2))>>>6)))
def Eh(tx:AB 8)(j4:Nat):Nat→AB 64
 |0=>Aj 80
 |j8+1=>O0 tx j4 (Eh tx j4 j8) j8
@[simp] theorem IT(tx:AB 8)(j4 j8:Nat):(Eh tx j4 j8).length=80:=by
 induction j8 with
 |zero=>(simp [Eh, *];done)
 |succ j8 ih=>rw [Eh.eq_2,O0];(split<;>first | (simp [ih];done) | (simp [ih];omega) | (simp [*];done))
def Nc(Y5 X6:AB 64)(j19:Nat):AB 64:=[(((((nth X6 7)+(((GS (nth X6 4) (-14))^^^(GS (nth X6 4) (-18)))^^^(GS (nth X6 4) (-41))))+(((nth X6 4)&&&(nth X6 5))^^^((~~~(nth X6 4))&&&(nth X6 6))))+(nth Gr j19))+(nth Y5 j19))+((((GS (nth X6 0) (-28))^^^(GS (nth X6 0) (-34)))^^^(GS (nth X6 0) (-39)))+((((nth X6 0)&&&(nth X6 1))^^^((nth X6 0)&&&(nth X6 2)))^^^((nth X6 1)&&&(nth X6 2)))),nth X6 0,nth X6 1,nth X6 2,(nth X6 3)+(((((nth X6 7)+(((GS (nth X6 4) (-14))^^^(GS (nth X6 4) (-18)))^^^(GS (nth X6 4) (-41))))+(((nth X6 4)&&&(nth X6 5))^^^((~~~(nth X6 4))&&&(nth X6 6))))+(nth Gr j19))+(nth Y5 j19)),nth X6 4,nth X6 5,nth X6 6]
def Dy(X3 Y5:AB 64):Nat→AB 64
 |0=>X3
 |j19+1=>Nc Y5 (Dy X3 Y5 j19) j19
theorem Ho(X3 Y5:AB 64)(hX3:X3.length=8)(_hY5:Y5.length=80)(j19:Nat):(Dy X3 Y5 j19).length=8:=by
 induction j19 with
 |zero=>(simp [Dy, *];done)
 |succ j19 ih=>rw [Dy.eq_2,Nc];(simp;done)
def MW(Y7 X8:AB 64)(j29:Nat):AB 64:=put X8 j29 ((nth X8 j29)+(nth Y7 j29))
def D1(X3 Y7:AB 64):Nat→AB 64
 |0=>X3
 |j29+1=>MW Y7 (D1 X3 Y7 j29) j29
theorem HZ(X3 Y7:AB 64)(hX3:X3.length=8)(j29:Nat):(D1 X3 Y7 j29).length=8:=by
 induction j29 with
 |zero=>(simp [D1, *];done)
 |succ j29 ih=>rw [D1.eq_2,MW];(simp [ih];done)
def O3(tx:AB 8)(X3:AB 64)(j4:Nat):AB 64:=(D1 X3 (Dy X3 (Eh tx j4 80) 80) 8)
def E1(tx:AB 8):Nat→AB 64
 |0=>[7640891576956012808#64,13503953896175478587#64,4354685564936845355#64,11912009170470909681#64,5840696475078001361#64,11170449401992604703#64,2270897969802886507#64,6620516959819538809#64]
 |j4+1=>O3 tx (E1 tx j4) j4
@[simp] theorem LH(tx:AB 8)(j4:Nat):(E1 tx j4).length=8:=by
 induction j4 with
 |zero=>(simp [E1, *];done)
 |succ j4 ih=>rw [E1.eq_2,O3];(simp [HZ, *];done)
def Nf(Y11:AB 64)(X12:AB 8)(j35:Nat):AB 8:=put X12 j35 (((nth Y11 (j35/8))>>>(56-(8*(j35%8)))).setWidth 8)
def Dp(Y11:AB 64):Nat→AB 8
 |0=>Ag 64
 |j35+1=>Nf Y11 (Dp Y11 j35) j35
@[simp] theorem KZ(Y11:AB 64)(j35:Nat):(Dp Y11 j35).length=64:=by
 induction j35 with
 |zero=>(simp [Dp, *];done)
 |succ j35 ih=>rw [Dp.eq_2,Nf];(simp [ih];done)
def D9(tx:AB 8):AB 8:=(Dp (E1 tx ((tx.length+144)/128)) 64)
theorem TE(k:r)(h:Hid r→g:=by intro h;refine AE (AT rfl rfl underlying201 BX O_) rfl ?_;exact h.out):g:=h ⟨k⟩
theorem Lg(k:r)(h:Hid r→g:=by intro h;refine AA (jX rfl rfl) rfl ?_;exact h.out):g:=h ⟨k⟩
theorem fv(k:r)(h:Hid r→g:=by intro h;refine AA (AT (j:=1) rfl rfl underlying153 BX O_) rfl ?_;exact h.out):g:=h ⟨k⟩
theorem eV(k:r)(h:Hid r→g:=by intro h;refine AA (AT (j:=2) rfl rfl underlying153 BX O_) rfl ?_;exact h.out):g:=h ⟨k⟩
theorem gL(k:r)(h:Hid r→g:=by intro h;refine AE (AT rfl rfl underlying153 BX O_) rfl ?_;exact h.out):g:=h ⟨k⟩
theorem kL(b:AB 8)(o n cap:Nat)(hb:o+n≤b.length)(hn:n≤2199023255552):Ev prog (.call 129 [.c (.sl 0 o n cap 1)] [Bw (b)]) (.val (B4 (D9 (cut b o n))) [Bw (b)]):=by
 have hP:=Hid.mk (D9.eq_1 (cut b o n))
 have htx:(cut b o n).length=n:=by rw [Ck];omega
 try simp only [htx] at hP
 refine AG func129 rfl ntmps129 rfl AH ?_;refine AK ?_;refine J0 ?_;refine AQ ?_;refine AA (P8 (l:=[7640891576956012808#64,13503953896175478587#64,4354685564936845355#64,11912009170470909681#64,5840696475078001361#64,11170449401992604703#64,2270897969802886507#64,6620516959819538809#64]) nU underlying153 BX rfl rfl D_) rfl ?_;refine BE (BO pQ AH) AM rfl ?_;refine Bm rfl rfl rfl rfl Zs C1 C1 AM ?_;refine AN ?_;have hQ1:(Gr).length=80:=An
 refine AK ?_;refine A7 (gP) xG ?_;refine Bc ?_;have hQ2:(Gt (cut b o n)).length=(((n+1)+(240-(n+1)%128)%128)+8)+8:=An
 refine A9 ?_;refine TD (eb b o n cap AD AD) vL ?_;refine Ay ?_;refine AU [2,3,4,5] (fun (zz:Nat×AB 64)=>⟨200,AS [2,3,4,5] [Al 1,Al 2,.c (.sl 3 0 80 80 1),.c (.sl 4 (128*zz.1) (((((n+1)+(240-(n+1)%128)%128)+8)+8)-128*zz.1) (((((n+1)+(240-(n+1)%128)%128)+8)+8)-128*zz.1) 1)],[Bw (b),CM (Ag 64),CH (zz.2),CH (Gr),CM (Gt (cut b o n))]⟩) (fun j4=>(j4,E1 (cut b o n) j4)) ((n+144)/128) K_ ?_ ?_
 ·intro j4 hj4
  try dsimp only
  have hX3:(E1 (cut b o n) j4).length=8:=by rw [LH (cut b o n) _];try omega
  rw [E1.eq_2,O3]
  try simp only [htx]
  generalize E1 (cut b o n) j4=X3 at*
  refine GV ?_;refine NC ?_;refine AQ ?_;refine BE (BO wc AH) AM rfl ?_;refine Dd ?_;refine AU [2,3,4,5,6,32] (fun (zz:Nat×AB 64)=>⟨200,AS [2,3,4,5,6,32] [Al 1,Al 2,.c (.sl 3 0 80 80 1),.c (.sl 4 (128*j4) (((((n+1)+(240-(n+1)%128)%128)+8)+8)-128*j4) (((((n+1)+(240-(n+1)%128)%128)+8)+8)-128*j4) 1),Al 5,Ae (((zz.1:Nat):Int))],[Bw (b),CM (Ag 64),CH (X3),CH (Gr),CM (Gt (cut b o n)),CH (zz.2)]⟩) (fun j8=>(j8,Eh (cut b o n) j4 j8)) (80) K_ ?_ ?_
  ·intro j8 hj8
   try dsimp only
   have hX4:(Eh (cut b o n) j4 j8).length=80:=by rw [IT (cut b o n) j4 _];try omega
   rw [Eh.eq_2,O0]
   try simp only [htx]
   generalize Eh (cut b o n) j4 j8=X4 at*
   refine AK ?_;refine AA (BA (b:=80) rfl rfl) rfl ?_;refine AZ ?_;refine Ab ?_;refine AA (BA (b:=16) rfl rfl) rfl ?_;refine FA ?_;by_cases hc5:j8<16
   ·try simp only [if_pos hc5] at*
    refine Ef rfl (decide_eq_true hc5) ?_;refine Ar ?_;refine QZ ?_;refine QZ ?_;refine AA (EH (b:=8) rfl rfl O_) rfl ?_;refine AA (Yf rfl underlying23 Bz rfl rfl O_ O_) rfl ?_;refine Bh (AY (bs:=[4]) (VI (Gt (cut b o n)) ((128*j4)+(8*j8)) (((8*j8)+8)-(8*j8)) ((((((n+1)+(240-(n+1)%128)%128)+8)+8)-128*j4)-(8*j8)) AD AD) uZ K_ K_ rfl BT) AM rfl ?_;refine AA (AT rfl rfl underlying201 BX O_) rfl ?_;refine Fz ?_;exact ⟨(j8+1,_),K_,rfl⟩
   ·try simp only [if_neg hc5] at*
    refine Bu rfl (decide_eq_false hc5) ?_;refine S_ ?_;refine Qe ?_;refine Ah ?_;refine AE (Fg (b:=15) rfl rfl O_ O_) rfl ?_;refine TE ?_;refine IL ?_;refine AE (Fg (b:=2) rfl rfl O_ O_) rfl ?_;refine TE ?_;refine Hl ?_;refine G1 ?_;refine AZ ?_;refine A7 (FX (nth X4 (j8-15)) (-1)) Lb ?_;refine AR ?_;refine A7 (FX (nth X4 (j8-15)) (-8)) Lb ?_;refine Lg ?_;refine AR ?_;refine AA (CY (j:=7) rfl rfl) rfl ?_;refine Lg ?_;refine Ab ?_;refine A7 (FX (nth X4 (j8-2)) (-19)) Lb ?_;refine AR ?_;refine A7 (FX (nth X4 (j8-2)) (-61)) Lb ?_;refine Lg ?_;refine AR ?_;refine AA (CY (j:=6) rfl rfl) rfl ?_;refine Lg ?_;refine Ay ?_;refine Ez 15 mixed K_ rfl rfl rfl ?_;refine Bt ?_;refine AE (Fg (b:=16) rfl rfl O_ O_) rfl ?_;refine TE ?_;refine IL ?_;refine Kd ?_;refine Ah ?_;refine AE (Fg (b:=7) rfl rfl O_ O_) rfl ?_;refine TE ?_;refine Hl ?_;refine Kd ?_;refine Ah ?_;refine Kd ?_;refine TE ?_;refine Bn ?_;refine Fz ?_;exact ⟨(j8+1,_),K_,rfl⟩
  ·try dsimp only
   have hY6:(Eh (cut b o n) j4 80).length=80:=by rw [IT (cut b o n) j4 _];try omega
   generalize Eh (cut b o n) j4 80=Y6 at*
   refine AK ?_;refine AA (BA (a:=80) (b:=80) rfl rfl) rfl ?_;refine AQ ?_;refine AA (Bj rfl rfl tW Zs C1 D_) rfl ?_;refine BE (BO pQ AH) AM rfl ?_;refine Bm rfl rfl rfl rfl Zs C1 C1 AM ?_;refine Dd ?_;refine AU [2,3,4,5,6,12,88] (fun (zz:Nat×AB 64)=>⟨200,AS [2,3,4,5,6,12,88] [Al 1,Al 2,.c (.sl 3 0 80 80 1),.c (.sl 4 (128*j4) (((((n+1)+(240-(n+1)%128)%128)+8)+8)-128*j4) (((((n+1)+(240-(n+1)%128)%128)+8)+8)-128*j4) 1),Al 5,Al 6,Ae (((zz.1:Nat):Int))],[Bw (b),CM (Ag 64),CH (X3),CH (Gr),CM (Gt (cut b o n)),CH (Y6),CH (zz.2)]⟩) (fun j19=>(j19,Dy X3 Y6 j19)) (80) K_ ?_ ?_
   ·intro j19 hj19
    try dsimp only
    have hX7:(Dy X3 Y6 j19).length=8:=by rw [Ho X3 Y6 hX3 hY6 _];try omega
    rw [Dy.eq_2,Nc]
    try simp only [htx]
    generalize Dy X3 Y6 j19=X7 at*
    refine AK ?_;refine AA (BA (b:=80) rfl rfl) rfl ?_;refine CT ?_;refine Qn ?_;refine AE (AT (j:=4) rfl rfl underlying153 BX O_) rfl ?_;refine Hl ?_;refine AE (AT (j:=0) rfl rfl underlying153 BX O_) rfl ?_;refine Hl ?_;refine G1 ?_;refine AZ ?_;refine A7 (FX (nth X7 4) (-14)) Lb ?_;refine AR ?_;refine A7 (FX (nth X7 4) (-18)) Lb ?_;refine Lg ?_;refine AR ?_;refine A7 (FX (nth X7 4) (-41)) Lb ?_;refine Lg ?_;refine Ay ?_;refine Ez 25 mixed K_ rfl rfl rfl ?_;refine AE (AT (j:=7) rfl rfl underlying153 BX O_) rfl ?_;refine IL ?_;refine Kd ?_;refine Ah ?_;refine AE (AT (j:=5) rfl rfl underlying153 BX O_) rfl ?_;refine Hl ?_;refine AE (Fo rfl rfl) rfl ?_;refine Ah ?_;refine AE (kU rfl) rfl ?_;refine AE (AT (j:=6) rfl rfl underlying153 BX O_) rfl ?_;refine Hl ?_;refine AE (Fo rfl rfl) rfl ?_;refine AE (jX rfl rfl) rfl ?_;refine Kd ?_;refine Bt ?_;refine AE (DI rfl rfl underlying199 BX O_) rfl ?_;refine Hl ?_;refine Kd ?_;refine Ah ?_;refine TE ?_;refine Hl ?_;refine Kd ?_;refine H6 ?_;refine AZ ?_;refine A7 (FX (nth X7 0) (-28)) Lb ?_;refine AR ?_;refine A7 (FX (nth X7 0) (-34)) Lb ?_;refine Lg ?_;refine AR ?_;refine A7 (FX (nth X7 0) (-39)) Lb ?_;refine Lg ?_;refine BH ?_;refine fv ?_;refine BV ?_;refine AA (Fo rfl rfl) rfl ?_;refine AR ?_;refine eV ?_;refine BV ?_;refine AA (Fo rfl rfl) rfl ?_;refine Lg ?_;refine fv ?_;refine BV ?_;refine eV ?_;refine BV ?_;refine AA (Fo rfl rfl) rfl ?_;refine Lg ?_;refine D0 ?_;refine BH ?_;refine D0 ?_;refine AR ?_;refine fv ?_;refine BV ?_;refine eV ?_;refine BV ?_;refine AA (AT (j:=3) rfl rfl underlying153 BX O_) rfl ?_;refine D2 ?_;refine D0 ?_;refine AR ?_;refine AA (AT (j:=5) rfl rfl underlying153 BX O_) rfl ?_;refine BV ?_;refine AA (AT (j:=6) rfl rfl underlying153 BX O_) rfl ?_;refine BV ?_;refine AA (P8 (l:=[_,_,_,_,_,_,_,_]) nU underlying153 BX rfl rfl D_) rfl ?_;refine Bm rfl rfl rfl rfl Zs C1 C1 AM ?_;refine D7 ?_;exact ⟨(j19+1,_),K_,rfl⟩
   ·try dsimp only
    have hY8:(Dy X3 Y6 80).length=8:=by rw [Ho X3 Y6 hX3 hY6 _];try omega
    generalize Dy X3 Y6 80=Y8 at*
    refine AK ?_;refine AA (BA (a:=80) (b:=80) rfl rfl) rfl ?_;refine Dd ?_;refine AU [2,3,4,5,12,171] (fun (zz:Nat×AB 64)=>⟨200,AS [2,3,4,5,12,171] [Al 1,Al 2,.c (.sl 3 0 80 80 1),.c (.sl 4 (128*j4) (((((n+1)+(240-(n+1)%128)%128)+8)+8)-128*j4) (((((n+1)+(240-(n+1)%128)%128)+8)+8)-128*j4) 1),Al 5,Ae (((zz.1:Nat):Int))],[Bw (b),CM (Ag 64),CH (zz.2),CH (Gr),CM (Gt (cut b o n)),CH (Y8)]⟩) (fun j29=>(j29,D1 X3 Y8 j29)) (8) K_ ?_ ?_
    ·intro j29 hj29
     try dsimp only
     have hX9:(D1 X3 Y8 j29).length=8:=by rw [HZ X3 Y8 hX3 _];try omega
     rw [D1.eq_2,MW]
     try simp only [htx]
     generalize D1 X3 Y8 j29=X9 at*
     refine AK ?_;refine Qm ?_;refine CT ?_;refine I7 ?_;refine Ah ?_;refine gL ?_;refine IL ?_;refine gL ?_;refine Hl ?_;refine Kd ?_;refine gL ?_;refine Bn ?_;refine Fz ?_;exact ⟨(j29+1,_),K_,rfl⟩
    ·try dsimp only
     have hY10:(D1 X3 Y8 8).length=8:=by rw [HZ X3 Y8 hX3 _];try omega
     generalize D1 X3 Y8 8=Y10 at*
     refine AK ?_;refine VR ?_;refine AZ ?_;refine AA (Yf (l:=128) rfl underlying23 Bz rfl rfl O_ O_) rfl ?_;refine Bc ?_;exact ⟨(j4+1,_),K_,rfl⟩
 ·try dsimp only
  have hY11:(E1 (cut b o n) ((n+144)/128)).length=8:=by rw [LH (cut b o n) _];try omega
  generalize E1 (cut b o n) ((n+144)/128)=Y11 at*
  refine GV ?_;refine NC ?_;refine AQ ?_;refine J0 ?_;refine Dd ?_;refine AU [2,3,21,183] (fun (zz:Nat×AB 8)=>⟨200,AS [2,3,21,183] [Al 1,Al 2,Al 3,Ae (((zz.1:Nat):Int))],[Bw (b),CM (Ag 64),CH (Y11),CM (zz.2)]⟩) (fun j35=>(j35,Dp Y11 j35)) (64) K_ ?_ ?_
  ·intro j35 hj35
   try dsimp only
   have hX12:(Dp Y11 j35).length=64:=by rw [KZ Y11 _];try omega
   rw [Dp.eq_2,Nf]
   try simp only [htx]
   generalize Dp Y11 j35=X12 at*
   refine AK ?_;refine NI ?_;refine AZ ?_;refine BH ?_;refine Nh ?_;refine AA (AT rfl rfl underlying153 BX O_) rfl ?_;refine D2 ?_;refine Oe ?_;refine TY ?_;refine AA (Fg (a:=56) rfl rfl O_ O_) rfl ?_;refine SA ?_;refine Rz ?_;refine AA (AT rfl rfl underlying105 Bz O_) rfl ?_;refine C3 ?_;refine D7 ?_;exact ⟨(j35+1,_),K_,rfl⟩
  ·try dsimp only
   have hY13:(Dp Y11 64).length=64:=by rw [KZ Y11 _];try omega
   generalize Dp Y11 64=Y13 at*
   refine AK ?_;refine Ts ?_;refine AQ ?_;refine fQ ?_;refine Md ?_;refine A6 ?_;rw [hP.out]
   exact gw (JR rfl rfl QC Qu C1 D_) (by (kernel_rfl))
theorem RU(b:AB 8)(n cap:Nat)(hb:b.length=n)(hn:n≤2199023255552):Ev prog (.call 129 [.c (.sl 0 0 n cap 1)] [Bw (b)]) (.val (B4 (D9 b)) [Bw (b)]):=by
 have h_:=kL b 0 n cap O_ hn
 rw [HL hb] at h_
 exact h_
@[simp] theorem yu(tx:AB 8):(D9 tx).length=64:=by
 unfold D9
 (simp [KZ, *];done)
attribute [irreducible] D9
def Ca(seed:AB 8):AB 8:=GP (cut (D9 seed) 0 32)
def CD(seed:AB 8):AB 8:=D9 seed
theorem K6(h:g:=by exact sU (JR rfl rfl Ld J9 C1 D_) (EG rfl) (by (kernel_rfl))):g:=h
theorem XY(seed:AB 8)(hseed:seed.length=32):Ev prog (.call 144 [B4 (seed)] []) (.val (.tup [B4 (Ca seed),.c (.sl 0 32 32 32 1)]) [CM (CD seed)]):=by
 have hP_sgHalf0:Hid (Ca seed=GP (cut (D9 seed) 0 32)):=⟨rfl⟩
 have hP_sgHalf1:Hid (CD seed=D9 seed):=⟨rfl⟩
 refine AG func144 rfl ntmps144 rfl AH ?_;refine Bg ?_;refine EB ?_;refine Bc ?_;have hQ1:(D9 seed).length=64:=An
 refine AK ?_;refine LP ?_;refine TD (RU seed 32 32 AD AD) fD ?_;refine J0 ?_;refine Md ?_;refine AN ?_;have hQ2:(cut (D9 seed) 0 32).length=32:=An
 have hQ3:(GP (cut (D9 seed) 0 32)).length=32:=An
 refine S_ ?_;refine Pm [1] mixed K_ ?_;refine E3 (Gz (l:=0) (h:=32) (len:=32) (cp:=64) rfl underlying105 Bz rfl rfl rfl O_ O_ Q2 rfl rfl) rfl ?_;refine E3 (TT rfl underlying37 O_ D_) rfl ?_;(refine E3 (PO rfl rfl Ld J9 UD D_) rfl ?_)
 refine xt K_ (AY (bs:=[]) (cU (cut (D9 seed) 0 32) AD) qJ K_ K_ rfl BT) rfl ?_;refine E3 (Gz (l:=32) (h:=64) (len:=32) (cp:=32) rfl underlying105 Bz rfl rfl rfl O_ O_ Q2 rfl rfl) rfl ?_;refine nW rfl rfl rfl rfl rfl J9 C1 C1 AM ?_;refine E3 (Ac rfl) rfl ?_;refine ib ?_;refine S_ ?_;rw [hP_sgHalf0.out,hP_sgHalf1.out]
 exact K6
@[simp] theorem vB(seed:AB 8)(_hseed:seed.length=32):(Ca seed).length=32:=by
 unfold Ca
 (simp [*];done)
attribute [irreducible] Ca
@[simp] theorem uj(seed:AB 8)(_hseed:seed.length=32):(CD seed).length=64:=by
 unfold CD
 (simp [*];done)
attribute [irreducible] CD
def Wn(a b:AB 64)(X1:BitVec 64)(X2:AB 64)(j4:Nat):BitVec 64×AB 64:=(IN (nth a j4) (nth b j4) X1,put X2 j4 ((nth a j4)-(nth b j4)-X1))
def Lv(a b:AB 64):Nat→BitVec 64×AB 64
 |0=>(0#64,Aj 4)
 |j4+1=>Wn a b (Lv a b j4).1 (Lv a b j4).2 j4
def Ml(a b:AB 64):AB 64:=((Lv a b 4).2)
def MR(a b:AB 64):BitVec 64:=((Lv a b 4).1)
attribute [irreducible] Ml
attribute [irreducible] MR
def Km(a b:AB 64)(j3:Nat)(X2:BitVec 64)(X3:AB 64)(j7:Nat):BitVec 64×AB 64:=(((EA (nth a j3) (nth b j7))+(Cw (nth X3 (j3+j7)) (A3 (nth a j3) (nth b j7)) 0#64))+(Cw (nth (put X3 (j3+j7) ((nth X3 (j3+j7))+(A3 (nth a j3) (nth b j7))+0#64)) (j3+j7)) X2 0#64),put (put X3 (j3+j7) ((nth X3 (j3+j7))+(A3 (nth a j3) (nth b j7))+0#64)) (j3+j7) ((nth (put X3 (j3+j7) ((nth X3 (j3+j7))+(A3 (nth a j3) (nth b j7))+0#64)) (j3+j7))+X2+0#64))
def Bx(a b X1:AB 64)(j3:Nat):Nat→BitVec 64×AB 64
 |0=>(0#64,X1)
 |j7+1=>Km a b j3 (Bx a b X1 j3 j7).1 (Bx a b X1 j3 j7).2 j7
theorem Hi(a b X1:AB 64)(j3:Nat)(_ha:a.length=4)(_hb:b.length=4)(hX1:X1.length=9)(j7:Nat):(Bx a b X1 j3 j7).2.length=9:=by
 induction j7 with
 |zero=>(simp (maxDischargeDepth:=9) [Bx, *];done)
 |succ j7 ih=>rw [Bx.eq_2,Km];(simp (maxDischargeDepth:=9) [ih];done)
def Ks(a b X1:AB 64)(j3:Nat):AB 64:=put ((Bx a b X1 j3 4).2) (j3+4) ((Bx a b X1 j3 4).1)
def By(a b:AB 64):Nat→AB 64
 |0=>Aj 9
 |j3+1=>Ks a b (By a b j3) j3
theorem K7(a b:AB 64)(ha:a.length=4)(hb:b.length=4)(j3:Nat):(By a b j3).length=9:=by
 induction j3 with
 |zero=>(simp (maxDischargeDepth:=9) [By, *];done)
 |succ j3 ih=>rw [By.eq_2,Ks];(simp (maxDischargeDepth:=9) [Hi, *];done)
def Ha(c:AB 64)(X9:BitVec 64)(X10:AB 64)(j19:Nat):BitVec 64×AB 64:=(Cw (nth X10 j19) (if j19<4 then nth c j19 else 0#64) X9,put X10 j19 ((nth X10 j19)+(if j19<4 then nth c j19 else 0#64)+X9))
def BN(c Y8:AB 64):Nat→BitVec 64×AB 64
 |0=>(0#64,Y8)
 |j19+1=>Ha c (BN c Y8 j19).1 (BN c Y8 j19).2 j19
theorem JM(c Y8:AB 64)(_hc:c.length=4)(hY8:Y8.length=9)(j19:Nat):(BN c Y8 j19).2.length=9:=by
 induction j19 with
 |zero=>(simp (maxDischargeDepth:=9) [BN, *];done)
 |succ j19 ih=>rw [BN.eq_2,Ha];(simp (maxDischargeDepth:=9) [ih];done)
def Jb(Y14:AB 64)(X16:AB 8)(j28:Nat):AB 8:=X16++[((nth Y14 (j28/8))>>>(8*(j28%8))).setWidth 8]
def CR(Y14:AB 64):Nat→AB 8
 |0=>[]
 |j28+1=>Jb Y14 (CR Y14 j28) j28
theorem Fy(Y14:AB 64)(_hY14:Y14.length=9)(j28:Nat):(CR Y14 j28).length=j28:=by
 induction j28 with
 |zero=>(simp (maxDischargeDepth:=9) [CR, *];done)
 |succ j28 ih=>rw [CR.eq_2,Jb];(simp (maxDischargeDepth:=9) [ih];done)
def Hm(a b c:AB 64):AB 8:=(CR ((BN c (By a b 4) 9).2) 72)
theorem Vw(c Y:AB 64)(j:Nat):(BN c Y j).1.toNat≤1:=by
 induction j with
 |zero=>show (0#64).toNat≤1;decide
 |succ j ih=>rw [BN.eq_2,Ha];exact tL _ _ _ ih
theorem Tu(k:r)(h:Hid r→g:=by intro h;refine AE (AT rfl rfl underlying155 BX O_) rfl ?_;exact h.out):g:=h ⟨k⟩
theorem Oo(k:r)(h:Hid r→g:=by intro h;refine AA (AT rfl rfl underlying226 BX O_) rfl ?_;exact h.out):g:=h ⟨k⟩
theorem Zi(k:r)(h:Hid r→g:=by intro h;refine AA (AT rfl rfl underlying155 BX O_) rfl ?_;exact h.out):g:=h ⟨k⟩
theorem km(a b c:AB 64)(ha:a.length=4)(hb:b.length=4)(hc:c.length=4):Ev prog (.call 183 [EQ (a),EQ (b),EQ (c)] []) (.val (.c (.sl 0 0 72 72 1)) [CM (Hm a b c)]):=by
 have hP:=Hid.mk (Hm.eq_1 a b c)
 refine AG func183 rfl ntmps183 rfl AH ?_;refine BY ?_;refine dz ?_;refine Ad ?_;refine BE (BO yH AH) AM rfl ?_;refine Dd ?_;refine AU [3,4,5,7,20] (fun (zz:Nat×AB 64)=>⟨112,AS [3,4,5,7,20] [Al 0,Al 1,Al 2,Al 3,Ae (((zz.1:Nat):Int))],[CH (a),CH (b),CH (c),CH (zz.2)]⟩) (fun j3=>(j3,By a b j3)) (4) K_ ?_ ?_
 ·intro j3 hj3
  try dsimp only
  have hX1:(By a b j3).length=9:=by rw [K7 a b ha hb _];try omega
  rw [By.eq_2,Ks]
  generalize By a b j3=X1 at*
  refine AK ?_;refine Lu ?_;refine AZ ?_;refine Ad ?_;refine Ab ?_;refine A6 ?_;refine AU [3,4,5,7,8,9,20,23] (fun (zz:Nat×BitVec 64×AB 64)=>⟨112,AS [3,4,5,7,8,9,20,23] [Al 0,Al 1,Al 2,Al 3,Ae (((j3:Nat):Int)),.c (.val (BW (zz.2.1))),Ae (((j3:Nat):Int)),Ae (((zz.1:Nat):Int))],[CH (a),CH (b),CH (c),CH (zz.2.2)]⟩) (fun j7=>(j7,Bx a b X1 j3 j7)) (4) K_ ?_ ?_
  ·intro j7 hj7
   try dsimp only
   have hX3:(Bx a b X1 j3 j7).2.length=9:=by rw [Hi a b X1 j3 ha hb hX1 _];try omega
   rw [Bx.eq_2,Km]
   generalize Bx a b X1 j3 j7=Z4 at*
   obtain ⟨X2,X3⟩:=Z4
   try dsimp only at*
   refine AK ?_;refine Lu ?_;refine CT ?_;refine KL ?_;refine Ah ?_;refine Tu ?_;refine IL ?_;refine Tu ?_;refine Hl ?_;refine Am (VJ (nth a j3) (nth b j7)) dm ?_;refine Fi ?_;refine G1 ?_;refine AQ ?_;refine G4 ?_;refine BH ?_;refine I5 ?_;refine FZ ?_;refine I5 ?_;refine Oo ?_;refine D2 ?_;refine Vr ?_;refine Cx ?_;refine Oo ?_;refine Fw ?_;refine BH ?_;refine I5 ?_;refine FZ ?_;refine I5 ?_;refine Oo ?_;refine D2 ?_;refine Vr ?_;refine Cx ?_;refine Oo ?_;refine Fw ?_;refine BH ?_;refine D0 ?_;refine AR ?_;refine D0 ?_;refine Ad ?_;refine F9 ?_;exact ⟨(j7+1,_),K_,rfl⟩
  ·try dsimp only
   have hY6:(Bx a b X1 j3 4).2.length=9:=by rw [Hi a b X1 j3 ha hb hX1 _];try omega
   generalize Bx a b X1 j3 4=Z7 at*
   obtain ⟨Y5,Y6⟩:=Z7
   try dsimp only at*
   refine AK ?_;refine PV ?_;refine AZ ?_;refine Ql ?_;refine AR ?_;refine Oo ?_;refine Fz ?_;exact ⟨(j3+1,_),K_,rfl⟩
 ·try dsimp only
  have hY8:(By a b 4).length=9:=by rw [K7 a b ha hb _];try omega
  generalize By a b 4=Y8 at*
  refine AK ?_;refine PV ?_;refine AQ ?_;refine Ab ?_;refine A6 ?_;refine AU [5,7,15,75] (fun (zz:Nat×BitVec 64×AB 64)=>⟨112,AS [5,7,15,75] [Al 0,Al 1,.c (.val (BW (zz.2.1))),Ae (((zz.1:Nat):Int))],[CH (c),CH (zz.2.2)]⟩) (fun j19=>(j19,BN c Y8 j19)) (9) K_ ?_ ?_
  ·intro j19 hj19
   try dsimp only
   have hX10:(BN c Y8 j19).2.length=9:=by rw [JM c Y8 hc hY8 _];try omega
   have hcc:=Vw c Y8 j19
   rw [BN.eq_2,Ha]
   generalize BN c Y8 j19=Z11 at*
   obtain ⟨X9,X10⟩:=Z11
   try dsimp only at*
   refine AK ?_;refine AA (BA (b:=9) rfl rfl) rfl ?_;refine AZ ?_;refine Ad ?_;refine Ab ?_;refine Lu ?_;refine FA ?_;refine I1 [5,7,15,16,17,75] (fun (zz:BitVec 64)=>⟨112,AS [5,7,15,16,17,75] [Al 0,Al 1,.c (.val (BW (X9))),Ae (((j19:Nat):Int)),.c (.val (BW (zz))),Ae (((j19:Nat):Int))],[CH (c),CH (X10)]⟩) (if j19<4 then nth c j19 else 0#64) rfl (fun hb=>?_) (fun hb=>?_) ?_
   ·have hb_:=of_decide_eq_true hb
    refine A9 ?_;refine Zi ?_;refine BV ?_;refine Ay ?_;refine ⟨(nth c j19),K_,?_⟩
    rw [if_pos (of_decide_eq_true hb)]
   ·have hb_:=of_decide_eq_false hb
    refine S_ ?_;refine ⟨0#64,K_,?_⟩
    rw [if_neg (of_decide_eq_false hb)]
   generalize (if j19<4 then nth c j19 else 0#64)=J12 at*
   refine Ar ?_;refine Oo ?_;refine D2 ?_;refine AR ?_;refine Bh (jG U2 rfl rfl rfl (rfl:_=BW (X9)) (by repeat ((assumption)))) AM rfl ?_
   refine Cx ?_;refine Oo ?_;refine Fw ?_;refine Ad ?_;refine F9 ?_;exact ⟨(j19+1,_),K_,rfl⟩
  ·try dsimp only
   have hY14:(BN c Y8 9).2.length=9:=by rw [JM c Y8 hc hY8 _];try omega
   have hcc:=Vw c Y8 9
   generalize BN c Y8 9=Z15 at*
   obtain ⟨Y13,Y14⟩:=Z15
   try dsimp only at*
   refine AK ?_;refine AA (BA (a:=9) (b:=9) rfl rfl) rfl ?_;refine AQ ?_;refine Ab ?_;refine A6 ?_;refine FP 18 1 (.a8 ([])) rfl rfl AH rfl ?_;refine S_ ?_;refine AU [7,18,95] (fun (zz:Nat×AB 8)=>⟨112,AS [7,18,95] [Al 0,.c (.sl 1 0 zz.1 zz.1 1),Ae (((zz.1:Nat):Int))],[CH (Y14),CM (zz.2)]⟩) (fun j28=>(j28,CR Y14 j28)) (72) K_ ?_ ?_
   ·intro j28 hj28
    try dsimp only
    have hX16:(CR Y14 j28).length=j28:=by rw [Fy Y14 hY14 _];try omega
    rw [CR.eq_2,Jb]
    generalize CR Y14 j28=X16 at*
    refine AK ?_;refine AA (BA (b:=72) rfl rfl) rfl ?_;refine AZ ?_;refine BH ?_;refine Nh ?_;refine Oo ?_;refine D2 ?_;refine Oe ?_;refine TY ?_;refine SA ?_;refine Rz ?_;refine Wz ?_;refine Cr ?_;refine Ad ?_;refine F9 ?_;exact ⟨(j28+1,_),K_,rfl⟩
   ·try dsimp only
    have hY17:(CR Y14 72).length=72:=by rw [Fy Y14 hY14 _];try omega
    generalize CR Y14 72=Y17 at*
    refine AK ?_;refine AA (BA (a:=72) (b:=72) rfl rfl) rfl ?_;refine CT ?_;rw [hP.out]
    exact EZ
@[simp] theorem vo(a b c:AB 64)(ha:a.length=4)(hb:b.length=4)(hc:c.length=4):(Hm a b c).length=72:=by
 unfold Hm
 (simp (maxDischargeDepth:=9) [K7,JM,Fy, *];done)
attribute [irreducible] Hm
def Bq:AB 64:=[6346243789798364141#64,1503914060200516822#64,0#64,1152921504606846976#64]
theorem RQ(k:r)(h:Hid r→g:=by intro h;refine BE (BO xz AH) AM rfl ?_;exact h.out):g:=h ⟨k⟩
theorem Tg(k:r)(h:Hid r→g:=by intro h;refine Bm rfl rfl rfl rfl Ya C1 C1 AM ?_;exact h.out):g:=h ⟨k⟩
theorem Vz(h:g:=by exact gw (JR rfl rfl Zz Ya C1 D_) (by (kernel_rfl))):g:=h
theorem NX:Ev prog (.call 125 [] []) (.val (EQ (Bq)) []):=by
 have hP:=Hid.mk (Bq.eq_1)
 refine AG func125 rfl ntmps125 rfl AH ?_;refine AK ?_;refine RQ ?_;refine AQ ?_;refine AA (P8 (l:=[6346243789798364141#64,1503914060200516822#64,0#64,1152921504606846976#64]) xY underlying155 BX rfl rfl D_) rfl ?_;refine Tg ?_;refine A6 ?_;rw [hP.out]
 exact Vz
@[simp] theorem vX:(Bq).length=4:=by
 unfold Bq
 (simp [*];done)
attribute [irreducible] Bq
def Ky(a b:AB 64)(X1:BitVec 64)(j3:Nat):BitVec 64:=IN (nth a j3) (nth b j3) X1
def CF(a b:AB 64):Nat→BitVec 64
 |0=>0#64
 |j3+1=>Ky a b (CF a b j3) j3
theorem bR(a b:AB 64)(j:Nat):(CF a b j).toNat≤1:=by
 induction j with
 |zero=>show (0#64).toNat≤1;decide
 |succ j ih=>rw [CF.eq_2,Ky];exact ik _ _ _
theorem Tq(a b:AB 64)(ha:a.length=4)(hb:b.length=4):Ev prog (.call 124 [EQ (a),EQ (b)] []) (.val (.c (.val (.bool (((CF a b 4)==1#64))))) []):=by
 refine AG func124 rfl ntmps124 rfl AH ?_;refine BY ?_;refine Ad ?_;refine Ab ?_;refine A6 ?_;refine AU [2,3,5,7] (fun (zz:Nat×BitVec 64)=>⟨24,AS [2,3,5,7] [Al 0,Al 1,.c (.val (BW (zz.2))),Ae (((zz.1:Nat):Int))],[CH (a),CH (b)]⟩) (fun j3=>(j3,CF a b j3)) (4) K_ ?_ ?_
 ·intro j3 hj3
  try dsimp only
  have hc:=bR a b j3
  rw [CF.eq_2,Ky]
  generalize CF a b j3=X1 at*
  refine AK ?_;refine Lu ?_;refine CT ?_;refine KL ?_;refine Ah ?_;refine Tu ?_;refine IL ?_;refine Tu ?_;refine IL ?_;refine Io (vJ jm rfl rfl rfl (rfl:_=BW (X1)) (by repeat ((assumption)))) AM rfl ?_
  refine Fi ?_;refine H6 ?_;refine D7 ?_;exact ⟨(j3+1,_),K_,rfl⟩
 ·try dsimp only
  have hc:=bR a b 4
  generalize CF a b 4=Y2 at*
  refine AK ?_;refine PV ?_;refine AZ ?_;refine AA (sp (b:=1#64) rfl rfl) rfl ?_;exact B6
def Jh(a:AB 64)(X1:AB 8)(j3:Nat):AB 8:=put X1 j3 (((nth a (j3/8))>>>(8*(j3%8))).setWidth 8)
def C4(a:AB 64):Nat→AB 8
 |0=>Ag 32
 |j3+1=>Jh a (C4 a j3) j3
@[simp] theorem KR(a:AB 64)(j3:Nat):(C4 a j3).length=32:=by
 induction j3 with
 |zero=>(simp [C4, *];done)
 |succ j3 ih=>rw [C4.eq_2,Jh];(simp [ih];done)
def Gn(a:AB 64):AB 8:=(C4 a 32)
theorem VT(a:AB 64)(ha:a.length=4):Ev prog (.call 173 [EQ (a)] []) (.val (B4 (Gn a)) []):=by
 have hP:=Hid.mk (Gn.eq_1 a)
 refine AG func173 rfl ntmps173 rfl AH ?_;refine Bg ?_;refine EB ?_;refine AQ ?_;refine EB ?_;refine Dd ?_;refine AU [1,2,3,5] (fun (zz:Nat×AB 8)=>⟨21,AS [1,2,3,5] [Al 0,Al 1,Al 2,Ae (((zz.1:Nat):Int))],[CH (a),CM (Ag 32),CM (zz.2)]⟩) (fun j3=>(j3,C4 a j3)) (32) K_ ?_ ?_
 ·intro j3 hj3
  try dsimp only
  have hX1:(C4 a j3).length=32:=by rw [KR a _];try omega
  rw [C4.eq_2,Jh]
  generalize C4 a j3=X1 at*
  refine AK ?_;refine Tz ?_;refine AZ ?_;refine BH ?_;refine Nh ?_;refine Zi ?_;refine D2 ?_;refine Oe ?_;refine TY ?_;refine SA ?_;refine Rz ?_;refine Q5 ?_;refine C3 ?_;refine D7 ?_;exact ⟨(j3+1,_),K_,rfl⟩
 ·try dsimp only
  have hY2:(C4 a 32).length=32:=by rw [KR a _];try omega
  generalize C4 a 32=Y2 at*
  refine AK ?_;refine Sr ?_;refine H5 ?_;refine Em ?_;rw [hP.out]
  exact FC
@[simp] theorem vS(a:AB 64)(_ha:a.length=4):(Gn a).length=32:=by
 unfold Gn
 (simp [KR, *];done)
attribute [irreducible] Gn
def P0(b:AB 8)(X1:AB 64)(j3:Nat):AB 64:=put X1 (j3/8) ((nth X1 (j3/8)) ||| (((nth b j3).setWidth 64)<<<(8*(j3%8))))
def Fn(b:AB 8):Nat→AB 64
 |0=>Aj 4
 |j3+1=>P0 b (Fn b j3) j3
@[simp] theorem OY(b:AB 8)(j3:Nat):(Fn b j3).length=4:=by
 induction j3 with
 |zero=>(simp [Fn, *];done)
 |succ j3 ih=>rw [Fn.eq_2,P0];(simp [ih];done)
def FU(b:AB 8):AB 64:=(Fn b 32)
theorem aE(k:r)(h:Hid r→g:=by intro h;refine AA (Bj rfl rfl Zz Ya C1 D_) rfl ?_;exact h.out):g:=h ⟨k⟩
theorem Ur(b:AB 8)(hb:b.length=32):Ev prog (.call 123 [B4 (b)] []) (.val (EQ (FU b)) []):=by
 have hP:=Hid.mk (FU.eq_1 b)
 refine AG func123 rfl ntmps123 rfl AH ?_;refine Bg ?_;refine RQ ?_;refine AQ ?_;refine RQ ?_;refine Dd ?_;refine AU [1,2,3,5] (fun (zz:Nat×AB 64)=>⟨24,AS [1,2,3,5] [Al 0,Al 1,Al 2,Ae (((zz.1:Nat):Int))],[CM (b),CH (Aj 4),CH (zz.2)]⟩) (fun j3=>(j3,Fn b j3)) (32) K_ ?_ ?_
 ·intro j3 hj3
  try dsimp only
  have hX1:(Fn b j3).length=4:=by rw [OY b _];try omega
  rw [Fn.eq_2,P0]
  generalize Fn b j3=X1 at*
  refine AK ?_;refine Tz ?_;refine CT ?_;refine Ez 14 mixed K_ rfl rfl rfl ?_;refine Ah ?_;refine Tf ?_;refine Tu ?_;refine IL ?_;refine Oq ?_;refine LD ?_;refine ed ?_;refine Ah ?_;refine TK ?_;refine AE (K4 (a:=8) rfl rfl O_) rfl ?_;refine AE (CA rfl rfl) rfl ?_;refine AE (Vp rfl rfl) rfl ?_;refine Tu ?_;refine Bn ?_;refine Fz ?_;exact ⟨(j3+1,_),K_,rfl⟩
 ·try dsimp only
  have hY2:(Fn b 32).length=4:=by rw [OY b _];try omega
  generalize Fn b 32=Y2 at*
  refine AK ?_;refine Sr ?_;refine AQ ?_;refine aE ?_;refine Tg ?_;refine A6 ?_;rw [hP.out]
  exact Vz
@[simp] theorem qR(b:AB 8)(_hb:b.length=32):(FU b).length=4:=by
 unfold FU
 (simp [OY, *];done)
attribute [irreducible] FU
def Sp(X1:BitVec 64)(X2:AB 64)(j2:Nat):BitVec 64×AB 64:=((nth X2 j2)>>>63,put X2 j2 (((nth X2 j2)<<<1) ||| X1))
def D6(a:AB 64)(bit:BitVec 64):Nat→BitVec 64×AB 64
 |0=>(bit,a)
 |j2+1=>Sp (D6 a bit j2).1 (D6 a bit j2).2 j2
theorem NF(a:AB 64)(bit:BitVec 64)(ha:a.length=4)(j2:Nat):(D6 a bit j2).2.length=4:=by
 induction j2 with
 |zero=>(simp (maxDischargeDepth:=9) [D6, *];done)
 |succ j2 ih=>rw [D6.eq_2,Sp];(simp (maxDischargeDepth:=9) [ih];done)
def fV(a:AB 64)(bit:BitVec 64):AB 64:=((D6 a bit 4).2)
theorem Sy(k:r)(h:Hid r→g:=by intro h;refine E3 (AT rfl rfl underlying155 BX O_) rfl ?_;exact h.out):g:=h ⟨k⟩
theorem fG(k:r)(h:Hid r→g:=by intro h;refine AE (Bj rfl rfl Zz Ya C1 D_) rfl ?_;exact h.out):g:=h ⟨k⟩
theorem sA(a:AB 64)(bit:BitVec 64)(ha:a.length=4)(hl:(CF (D6 a bit 4).2 Bq 4==1#64)=true):Ev prog (.call 190 [EQ (a),.c (.val (BW bit))] []) (.val (EQ (fV a bit)) []):=by
 have hP:=Hid.mk (fV.eq_1 a bit)
 refine AG func190 rfl ntmps190 rfl AH ?_;refine Bg ?_;refine RQ ?_;refine Dd ?_;refine AU [1,2,4,9] (fun (zz:Nat×BitVec 64×AB 64)=>⟨47,AS [1,2,4,9] [.c (.val (BW (zz.2.1))),Al 0,Al 1,Ae (((zz.1:Nat):Int))],[CH (zz.2.2),CH (Aj 4)]⟩) (fun j2=>(j2,D6 a bit j2)) (4) K_ ?_ ?_
 ·intro j2 hj2
  try dsimp only
  have hX2:(D6 a bit j2).2.length=4:=by rw [NF a bit ha _];try omega
  rw [D6.eq_2,Sp]
  generalize D6 a bit j2=Z3 at*
  obtain ⟨X1,X2⟩:=Z3
  try dsimp only at*
  refine AK ?_;refine Lu ?_;refine CT ?_;refine Pm [0] mixed K_ ?_;refine JO ?_;refine JO ?_;refine Sy ?_;(refine Fq K_ (Iw rfl rfl NR Dw) rfl ?_)
  refine E3 (CA (j:=1) rfl rfl) rfl ?_;refine JO ?_;refine E3 (Vp rfl rfl) rfl ?_;refine JO ?_;refine Sy ?_;(refine Fq K_ (Iw rfl rfl NR Dw) rfl ?_)
  refine E3 (CY (j:=63) rfl rfl) rfl ?_;refine Sy ?_;refine Xm rfl rfl rfl rfl BX Dw AM ?_;refine E3 (Ac rfl) rfl ?_;refine ib ?_;refine AK ?_;refine F9 ?_;exact ⟨(j2+1,_),K_,rfl⟩
 ·try dsimp only
  have hY5:(D6 a bit 4).2.length=4:=by rw [NF a bit ha _];try omega
  generalize D6 a bit 4=Z6 at*
  obtain ⟨Y4,Y5⟩:=Z6
  try dsimp only at*
  refine AK ?_;refine PV ?_;refine AN ?_;have hQ7:(Bq).length=4:=An
  refine S_ ?_;refine RF ?_;refine fG ?_;refine Am (NX) ZA ?_;refine Am (Tq Y5 Bq AD AD) fl ?_;refine Gw ?_;refine Ef rfl (hl) ?_;refine AK ?_;refine aE ?_;refine Tg ?_;refine A6 ?_;rw [hP.out]
  exact Vz
@[simp] theorem qP(a:AB 64)(bit:BitVec 64)(ha:a.length=4):(fV a bit).length=4:=by
 unfold fV
 (simp (maxDischargeDepth:=9) [NF, *];done)
attribute [irreducible] fV
end Go.Proofs.YtmbepikkgkcgkaaGreatDoor
