/- Merged and shortened by a program: part 9. -/
import Derived.Test.YtmbepikkgkcgkaaGreatDoorUL8
set_option maxRecDepth 100000
set_option maxHeartbeats 8000000
namespace Go.Proofs.YtmbepikkgkcgkaaGreatDoor
open Go.RowKit
variable {g r : Prop}
open Go.Proofs.Tryz
theorem Vs(w:AB 64)(f:Nat→AB 8)(h0:(f 0).length=32)(hs:∀j,f (j+1)=put (f j) j ((nth w (j/8)>>>(8*(j%8))).setWidth 8)):f 32=Yy (wV w):=by
 obtain ⟨hl,hn⟩:=qQ f (fun j=>(nth w (j/8)>>>(8*(j%8))).setWidth 8) h0 hs 32
 refine VQ (by rw [hl,KJ]) fun i hi=>?_
 rw [hl] at hi
 rw [hn i hi hi,Qp _ _ hi,byte_at w i hi]
abbrev jj(a:AB 64):Prop:=sL 2251799813685248 a
theorem iq{a:AB 64}(h:Ct a):jj (A4 (A4 a))∧LF (A4 (A4 a))=LF a:=by
 have hf:=N3 (a:=a) ⟨h.1,by have:=h.2.1;omega,by have:=h.2.2.1;omega,by have:=h.2.2.2.1;omega,by have:=h.2.2.2.2.1;omega,by have:=h.2.2.2.2.2;omega⟩
 have hf2:=N3 (a:=A4 a) ⟨hf.1.1,by have:=hf.1.2.1;omega,by have:=hf.1.2.2.1;omega,by have:=hf.1.2.2.2.1;omega,by have:=hf.1.2.2.2.2.1;omega,by have:=hf.1.2.2.2.2.2;omega⟩
 refine ⟨?_,hf2.2.trans hf.2⟩
 obtain ⟨hl,h0,h1,h2,h3,h4⟩:=h
 obtain ⟨r0,r1,r2,r3,r4,c,gl,e0,e1,e2,e3,e4,g0,g1,g2,g3,g4,g5⟩:=PB (a:=a) ⟨hl,by omega,by omega,by omega,by omega,by omega⟩
 have hc:c≤2:=by unfold lV at g5;omega
 obtain ⟨q0,q1,q2,q3,q4,d,kl,f0,f1,f2,f3,f4,k0,k1,k2,k3,k4,k5⟩:=PB (a:=A4 a) ⟨gl,by omega,by omega,by omega,by omega,by omega⟩
 unfold lV at k5
 rw [e0,e1,e2,e3,e4] at k5
 refine ⟨kl,?_,?_,?_,?_,?_⟩<;>omega
theorem nK{a:AB 64}(h:jj a):A4 a=a:=by
 have hl:=h.1
 have h0:=h.2.1
 have h1:=h.2.2.1
 have h2:=h.2.2.2.1
 have h3:=h.2.2.2.2.1
 have h4:=h.2.2.2.2.2
 obtain ⟨r0,r1,r2,r3,r4,c,gl,e0,e1,e2,e3,e4,g0,g1,g2,g3,g4,g5⟩:=PB (a:=a) ⟨hl,by omega,by omega,by omega,by omega,by omega⟩
 unfold lV at g5
 refine VQ (by rw [gl,hl]) fun i hi=>?_
 rw [gl] at hi
 apply BitVec.eq_of_toNat_eq
 rcases (by omega:i=0∨i=1∨i=2∨i=3∨i=4) with h | h | h | h | h<;>subst h<;>omega
theorem li(a:AB 64)(j:Nat):CN a j=C0 (put (A4 (A4 (A4 a))) 0 ((nth (A4 (A4 (A4 a))) 0)+19#64)) j:=by
 induction j with
 |zero=>rfl
 |succ j ih=>rw [CN,C0,ih];rfl
def w4(a:AB 64):AB 64:=[(nth a 0) ||| ((nth a 1)<<<51),((nth a 1)>>>13) ||| ((nth a 2)<<<38),((nth a 2)>>>26) ||| ((nth a 3)<<<25),((nth a 3)>>>39) ||| ((nth a 4)<<<12)]
theorem mH{a:AB 64}(h:jj a):wV (w4 a)=lV a:=by
 obtain ⟨hl,h0,h1,h2,h3,h4⟩:=h
 have e1:=Ek (nth a 1) 13
 have e2:=Ek (nth a 2) 26
 have e3:=Ek (nth a 3) 39
 simp only [Nat.reducePow] at e1 e2 e3
 have k0:=Md (x:=nth a 0) (y:=nth a 1) 51 h0
 have k1:=Md (x:=nth a 1>>>13) (y:=nth a 2) 38 (by rw [e1];show _<274877906944;omega)
 have k2:=Md (x:=nth a 2>>>26) (y:=nth a 3) 25 (by rw [e2];show _<33554432;omega)
 have k3:=Md (x:=nth a 3>>>39) (y:=nth a 4) 12 (by rw [e3];show _<4096;omega)
 simp only [Nat.reducePow] at k0 k1 k2 k3
 show ((nth a 0) ||| ((nth a 1)<<<51)).toNat+(((nth a 1)>>>13) ||| ((nth a 2)<<<38)).toNat*_+(((nth a 2)>>>26) ||| ((nth a 3)<<<25)).toNat*_+(((nth a 3)>>>39) ||| ((nth a 4)<<<12)).toNat*_=_
 rw [k0,k1,k2,k3,e1,e2,e3]
 unfold lV
 omega
theorem bz{a:AB 64}(h:Ct a):AL a=Yy (LF a).val:=by
 obtain ⟨h1,h2⟩:=iq h
 have hs:=nK h1
 unfold AL
 rw [hs]
 rw [li,hs]
 generalize A4 (A4 a)=t at*
 have run:∀J,CO J 32=Yy (wV (w4 J)):=fun J=>Vs (w4 J) (CO J) rfl fun j=>rfl
 rw [run]
 congr 1
 rw [←h2]
 unfold LF
 rw [HZ]
 have ht:=h1
 obtain ⟨hl,g0,g1,g2,g3,g4⟩:=h1
 obtain ⟨t0,t1,t2,t3,t4,rfl⟩:=S6 hl
 change t0.toNat<_ at g0;change t1.toNat<_ at g1;change t2.toNat<_ at g2;change t3.toNat<_ at g3;change t4.toNat<_ at g4
 rw [show put [t0,t1,t2,t3,t4] 0 (nth [t0,t1,t2,t3,t4] 0+19#64)=[t0+19#64,t1,t2,t3,t4] from rfl,gF]
 have e19:(19#64:BitVec 64).toNat=19:=rfl
 have ea:=Bx (x:=t0) (y:=19#64) O_
 obtain ⟨r0,r1,r2,r3,r4,c,he,k0,k1,k2,k3,k4,k5⟩:=V2 (t0+19#64) t1 t2 t3 t4 O_ O_ O_ O_ O_
 rw [he]
 show wV (w4 (if (0#64).toNat<c.toNat then [r0,r1,r2,r3,r4] else [t0,t1,t2,t3,t4]))=_
 have hv:lV [t0,t1,t2,t3,t4]=t0.toNat+t1.toNat*2251799813685248+t2.toNat*5070602400912917605986812821504+t3.toNat*11417981541647679048466287755595961091061972992+t4.toNat*25711008708143844408671393477458601640355247900524685364822016:=rfl
 have hr:lV [r0,r1,r2,r3,r4]=r0.toNat+r1.toNat*2251799813685248+r2.toNat*5070602400912917605986812821504+r3.toNat*11417981541647679048466287755595961091061972992+r4.toNat*25711008708143844408671393477458601640355247900524685364822016:=rfl
 have z:(0#64:BitVec 64).toNat=0:=rfl
 show _=_%57896044618658097711785492504343953926634992332820282019728792003956564819949
 split
 ·rename_i hc
  have hc1:c.toNat=1:=by omega
  rw [hc1] at k5
  rw [mH (a:=[r0,r1,r2,r3,r4]) ⟨rfl,k0,k1,k2,k3,k4⟩,hr,hv]
  rw [Nat.mod_eq_sub_mod O_,Nat.mod_eq_of_lt O_]
  omega
 ·rename_i hc
  have hc1:c.toNat=0:=by omega
  rw [hc1] at k5
  rw [mH ht,hv]
  rw [Nat.mod_eq_of_lt O_]
theorem WI(b:AB 8)(f:Nat→AB 64)(h0:f 0=Af 4)(hs:∀j,f (j+1)=put (f j) (j/8) ((nth (f j) (j/8)) ||| (((nth b j).setWidth 64)<<<(8*(j%8))))):
  ∀j,j≤32→(f j).length=4∧ ∀t,t<4→(nth (f j) t).toNat=jF b t (min 8 (j-8*t)):=by
 intro j
 induction j with
 |zero=>
  intro _
  rw [h0]
  refine ⟨rfl,fun t ht=>?_⟩
  rw [show min 8 (0-8*t)=0 by omega,jF]
  rcases (by omega:t=0∨t=1∨t=2∨t=3) with h | h | h | h<;>subst h<;>rfl
 |succ j ih=>
  intro hj
  obtain ⟨hl,hn⟩:=ih O_
  refine ⟨by rw [hs,Bp,hl],fun t ht=>?_⟩
  rw [hs,C3 _ _ _ _ (by rw [hl];omega)]
  by_cases e:j/8=t
  ·rw [if_pos e,e]
   have h1:=hn t ht
   have e1:min 8 (j-8*t)=j%8:=by omega
   have e2:min 8 (j+1-8*t)=j%8+1:=by omega
   rw [e1] at h1
   rw [rB _ _ _ O_ (by rw [h1];exact vc b t _),h1,e2,jF,show 8*t+j%8=j by omega]
  ·rw [if_neg e,hn t ht]
   congr 1
   omega
theorem Qm(b:AB 8)(t:Nat)(ht:t<4):(nth (Bg b 32) t).toNat=jF b t 8:=by
 have:=(WI b (Bg b) rfl (fun j=>rfl) 32 (Nat.le_refl _)).2 t ht
 rwa [show min 8 (32-8*t)=8 by omega] at this
theorem TQ(b:AB 8):Ct (NL b)∧LF (NL b)=zf (EI b 32):=by
 have v:=gN b
 have v0:=Qm b 0 D_
 have v1:=Qm b 1 D_
 have v2:=Qm b 2 D_
 have v3:=Qm b 3 D_
 unfold NL
 generalize Bg b 32=W at*
 generalize hw0:nth W 0=w0 at*
 generalize hw1:nth W 1=w1 at*
 generalize hw2:nth W 2=w2 at*
 generalize hw3:nth W 3=w3 at*
 have b0:=w0.isLt
 have b1:=w1.isLt
 have b2:=w2.isLt
 have b3:=w3.isLt
 have s0:=Ek w0 51
 have s1:=Ek w1 38
 have s2:=Ek w2 25
 have s3:=Ek w3 12
 have s4:=Ek w3 63
 simp only [Nat.reducePow] at s0 s1 s2 s3 s4
 have o1:=Md (x:=w0>>>51) (y:=w1) 13 (by rw [s0];show _<8192;omega)
 have o2:=Md (x:=w1>>>38) (y:=w2) 26 (by rw [s1];show _<67108864;omega)
 have o3:=Md (x:=w2>>>25) (y:=w3) 39 (by rw [s2];show _<549755813888;omega)
 simp only [Nat.reducePow] at o1 o2 o3
 have m0:=DS w0
 have m1:=DS (w0>>>51 ||| w1<<<13)
 have m2:=DS (w1>>>38 ||| w2<<<26)
 have m3:=DS (w2>>>25 ||| w3<<<39)
 have m4:=DS (w3>>>12)
 rw [o1,s0] at m1
 rw [o2,s1] at m2
 rw [o3,s2] at m3
 rw [s3] at m4
 have t4:(19#64*w3>>>63).toNat=19*(w3.toNat/9223372036854775808):=by
  rw [BitVec.toNat_mul,s4]
  show 19*_%_=_
  rw [Nat.mod_eq_of_lt O_]
 have a0:=Bx (x:=w0&&&2251799813685247#64) (y:=19#64*w3>>>63) O_
 show Ct [(w0&&&2251799813685247#64)+19#64*w3>>>63,(w0>>>51 ||| w1<<<13)&&&2251799813685247#64,(w1>>>38 ||| w2<<<26)&&&2251799813685247#64,(w2>>>25 ||| w3<<<39)&&&2251799813685247#64,w3>>>12&&&2251799813685247#64]∧LF [(w0&&&2251799813685247#64)+19#64*w3>>>63,(w0>>>51 ||| w1<<<13)&&&2251799813685247#64,(w1>>>38 ||| w2<<<26)&&&2251799813685247#64,(w2>>>25 ||| w3<<<39)&&&2251799813685247#64,w3>>>12&&&2251799813685247#64]=_
 generalize (w0&&&2251799813685247#64)+19#64*w3>>>63=x0 at*
 generalize (w0>>>51 ||| w1<<<13)&&&2251799813685247#64=x1 at*
 generalize (w1>>>38 ||| w2<<<26)&&&2251799813685247#64=x2 at*
 generalize (w2>>>25 ||| w3<<<39)&&&2251799813685247#64=x3 at*
 generalize w3>>>12&&&2251799813685247#64=x4 at*
 refine ⟨⟨rfl,?_,?_,?_,?_,?_⟩,?_⟩
 ·show x0.toNat<_;omega
 ·show x1.toNat<_;omega
 ·show x2.toNat<_;omega
 ·show x3.toNat<_;omega
 ·show x4.toNat<_;omega
 have y1:x1.toNat=w0.toNat/2251799813685248+8192*(w1.toNat%274877906944):=by omega
 have y2:x2.toNat=w1.toNat/274877906944+67108864*(w2.toNat%33554432):=by omega
 have y3:x3.toNat=w2.toNat/33554432+549755813888*(w3.toNat%4096):=by omega
 have y4:x4.toNat=w3.toNat/4096%2251799813685248:=by omega
 clear m1 m2 m3 m4 o1 o2 o3 s0 s1 s2 s3 s4
 unfold LF
 have e:EI b 32=(w0.toNat%2251799813685248+x1.toNat*2251799813685248+x2.toNat*5070602400912917605986812821504+x3.toNat*11417981541647679048466287755595961091061972992+x4.toNat*25711008708143844408671393477458601640355247900524685364822016)+(w3.toNat/9223372036854775808)*57896044618658097711785492504343953926634992332820282019728792003956564819968:=by omega
 rw [bj e]
 congr 1
 show x0.toNat+x1.toNat*_+x2.toNat*_+x3.toNat*_+x4.toNat*_=_
 omega
theorem xJ(a0 a1 a2 a3 a4 b0 b1 b2 b3 b4:Nat):(a0+a1*2251799813685248+a2*5070602400912917605986812821504+a3*11417981541647679048466287755595961091061972992+a4*25711008708143844408671393477458601640355247900524685364822016)*(b0+b1*2251799813685248+b2*5070602400912917605986812821504+b3*11417981541647679048466287755595961091061972992+b4*25711008708143844408671393477458601640355247900524685364822016)=(a0*b0+a1*(19*b4)+a2*(19*b3)+a3*(19*b2)+a4*(19*b1))+(a0*b1+a1*b0+a2*(19*b4)+a3*(19*b3)+a4*(19*b2))*2251799813685248+(a0*b2+a1*b1+a2*b0+a3*(19*b4)+a4*(19*b3))*5070602400912917605986812821504+(a0*b3+a1*b2+a2*b1+a3*b0+a4*(19*b4))*11417981541647679048466287755595961091061972992+(a0*b4+a1*b3+a2*b2+a3*b1+a4*b0)*25711008708143844408671393477458601640355247900524685364822016+57896044618658097711785492504343953926634992332820282019728792003956564819949*(a1*b4*1+a2*b3*1+a2*b4*2251799813685248+a3*b2*1+a3*b3*2251799813685248+a3*b4*5070602400912917605986812821504+a4*b1*1+a4*b2*2251799813685248+a4*b3*5070602400912917605986812821504+a4*b4*11417981541647679048466287755595961091061972992):=by grind
theorem nI(x:BitVec 64):(x&&&4294967295#64).toNat=x.toNat%4294967296:=by
 rw [BitVec.toNat_and]
 exact Nat.and_two_pow_sub_one_eq_mod x.toNat 32
theorem Qz{x y:BitVec 64}(h:x.toNat*y.toNat<18446744073709551616):(x*y).toNat=x.toNat*y.toNat:=by
 rw [BitVec.toNat_mul,Nat.mod_eq_of_lt h]
theorem Pc(x y:BitVec 64):(Ay x y).toNat=x.toNat*y.toNat%18446744073709551616:=by
 unfold Ay;rw [BitVec.toNat_mul]
theorem Pa(x y:BitVec 64):(Dq x y).toNat=x.toNat*y.toNat/18446744073709551616:=by
 obtain ⟨g1,g2,g3,g4⟩:=Go.Lib.mul64_hi x.toNat y.toNat x.isLt y.isLt
 have hx:=x.isLt
 have hy:=y.isLt
 have hxy:x.toNat*y.toNat/18446744073709551616<18446744073709551616:=by
  rw [Nat.div_lt_iff_lt_mul D_]
  exact Nat.mul_lt_mul'' hx hy
 have x1:=Ek x 32
 have y1:=Ek y 32
 simp only [Nat.reducePow] at x1 y1
 have x0:=nI x
 have y0:=nI y
 have a1:=Go.Lib.half_mul_le (a:=x.toNat/4294967296) (b:=y.toNat/4294967296) O_ O_
 have a2:=Go.Lib.half_mul_le (a:=x.toNat/4294967296) (b:=y.toNat%4294967296) O_ O_
 have a3:=Go.Lib.half_mul_le (a:=x.toNat%4294967296) (b:=y.toNat/4294967296) O_ O_
 have p00:=Qz (x:=x&&&4294967295#64) (y:=y&&&4294967295#64) (by rw [x0,y0];exact g1)
 have p10:=Qz (x:=x>>>32) (y:=y&&&4294967295#64) (by rw [x1,y0];omega)
 have p01:=Qz (x:=x&&&4294967295#64) (y:=y>>>32) (by rw [x0,y1];omega)
 have p11:=Qz (x:=x>>>32) (y:=y>>>32) (by rw [x1,y1];omega)
 rw [x0,y0] at p00
 rw [x1,y0] at p10
 rw [x0,y1] at p01
 rw [x1,y1] at p11
 have s00:=Ek ((x&&&4294967295#64)*(y&&&4294967295#64)) 32
 simp only [Nat.reducePow] at s00
 rw [p00] at s00
 have t:=Bx (x:=(x>>>32)*(y&&&4294967295#64)) (y:=((x&&&4294967295#64)*(y&&&4294967295#64))>>>32) (by rw [p10,s00];exact g2)
 rw [p10,s00] at t
 unfold Dq
 generalize (x>>>32)*(y&&&4294967295#64)+((x&&&4294967295#64)*(y&&&4294967295#64))>>>32=T at*
 have tl:=nI T
 have ts:=Ek T 32
 simp only [Nat.reducePow] at ts
 rw [t] at tl ts
 have u:=Bx (x:=T&&&4294967295#64) (y:=(x&&&4294967295#64)*(y>>>32)) (by rw [tl,p01];exact g3)
 rw [tl,p01] at u
 generalize (T&&&4294967295#64)+(x&&&4294967295#64)*(y>>>32)=U at*
 have us:=Ek U 32
 simp only [Nat.reducePow] at us
 rw [u] at us
 have v:=Bx (x:=(x>>>32)*(y>>>32)) (y:=T>>>32) (by rw [p11,ts];omega)
 rw [p11,ts] at v
 have w:=Bx (x:=(x>>>32)*(y>>>32)+T>>>32) (y:=U>>>32) (by rw [v,us];omega)
 rw [w,v,us]
 exact g4
theorem Qg{x y:BitVec 64}:(Cj x y 0#64).toNat=(x.toNat+y.toNat)/18446744073709551616:=by
 have:=x.isLt
 have:=y.isLt
 unfold Cj
 rw [BitVec.toNat_ofNat,show (0#64:BitVec 64).toNat=0 from rfl,Nat.add_zero]
 omega
def Ht(hi lo:AB 64)(t:Nat):Nat:=(nth hi t).toNat*18446744073709551616+(nth lo t).toNat
theorem lW{hi lo:AB 64}(hh:hi.length=5)(hl:lo.length=5)(x y:BitVec 64){t:Nat}(ht:t<5)(hb:Ht hi lo t+x.toNat*y.toNat<340282366920938463463374607431768211456)(s:Nat):
  Ht (put hi t (nth hi t+(Dq x y+Cj (nth lo t) (Ay x y) 0#64))) (put lo t (nth lo t+Ay x y+0#64)) s=Ht hi lo s+(if t=s then x.toNat*y.toNat else 0):=by
 unfold Ht at*
 rw [C3 _ _ _ _ O_,C3 _ _ _ _ O_]
 by_cases e:t=s
 ·subst e
  rw [if_pos rfl,if_pos rfl,if_pos rfl,BitVec.add_zero]
  have e0:=Pa x y
  have e1:=Pc x y
  have e2:=Qg (x:=nth lo t) (y:=Ay x y)
  generalize x.toNat*y.toNat=q at*
  have b0:=(nth lo t).isLt
  have b1:=(Ay x y).isLt
  have f1:=Bx (x:=Dq x y) (y:=Cj (nth lo t) (Ay x y) 0#64) (by rw [e0,e2];omega)
  have f2:=Bx (x:=nth hi t) (y:=Dq x y+Cj (nth lo t) (Ay x y) 0#64) (by rw [f1,e0,e2];omega)
  rw [f2,f1,e0,e2,BitVec.toNat_add]
  omega
 ·rw [if_neg e,if_neg e,if_neg e,Nat.add_zero]
def jG(a b:AB 64)(i k:Nat):Nat:=(nth a i).toNat*(if 5≤i+k then 19*(nth b k).toNat else (nth b k).toNat)
def sI(a b:AB 64)(i t:Nat):Nat→Nat
 |0=>0
 |k+1=>sI a b i t k+(if (i+k)%5=t then jG a b i k else 0)
def sO(a b:AB 64)(t:Nat):Nat→Nat
 |0=>0
 |i+1=>sO a b t i+sI a b i t 5
theorem Yv{n:Nat}{a:AB 64}(h:sL n a)(i:Nat)(hi:i<5):(nth a i).toNat<n:=by
 obtain ⟨_,h0,h1,h2,h3,h4⟩:=h
 rcases (by omega:i=0∨i=1∨i=2∨i=3∨i=4) with e | e | e | e | e<;>subst e<;>assumption
theorem fO{a b:AB 64}(ha:Ct a)(hb:Ct b)(i k:Nat)(hi:i<5)(hk:k<5):jG a b i k≤649037107316853453566312041152512:=by
 have h1:=Yv ha i hi
 have h2:=Yv hb k hk
 unfold jG
 refine Nat.le_trans (Nat.mul_le_mul (Nat.le_of_lt h1) (show _≤144115188075855872 from ?_)) D_
 split<;>omega
theorem zk{b:AB 64}(hb:Ct b)(i k:Nat)(hk:k<5):(if 5≤i+k then (nth b k)*19#64 else nth b k).toNat=(if 5≤i+k then 19*(nth b k).toNat else (nth b k).toNat):=by
 have h2:=Yv hb k hk
 split
 ·rw [Qz (by show (nth b k).toNat*19<_;omega)]
  show (nth b k).toNat*19=_
  omega
 ·rfl
theorem rC{a b:AB 64}(ha:Ct a)(hb:Ct b)(i t:Nat)(hi:i<5):∀k,k≤5→sI a b i t k≤k*649037107316853453566312041152512:=by
 intro k
 induction k with
 |zero=>intro _;exact Nat.zero_le _
 |succ k ih=>
  intro hk
  have h1:=ih O_
  have h2:=fO ha hb i k hi O_
  rw [sI,Nat.succ_mul]
  refine Nat.add_le_add h1 ?_;by_cases e:(i+k)%5=t
  ·rw [if_pos e];exact h2
  ·rw [if_neg e];exact Nat.zero_le _
theorem jT{a b X1 X2:AB 64}(ha:Ct a)(hb:Ct b)(h1:X1.length=5)(h2:X2.length=5)(i:Nat)(hi:i<5)(hX:∀t,Ht X1 X2 t≤i*3245185536584267267831560205762560):∀k,k≤5→
  ∀t,Ht (CH a b X1 X2 i k).1 (CH a b X1 X2 i k).2 t=Ht X1 X2 t+sI a b i t k:=by
 intro k
 induction k with
 |zero=>intro _ t;show Ht X1 X2 t=Ht X1 X2 t+0;rw [Nat.add_zero]
 |succ k ih=>
  intro hk t
  have hl:=Ki a b X1 X2 i ha.1 hb.1 h1 h2 k
  have hx:=zk hb i k O_
  have hP:=fO ha hb i k hi O_
  have hS:=rC ha hb i ((i+k)%5) hi k O_
  have hA:=hX ((i+k)%5)
  have he:=ih O_ ((i+k)%5)
  rw [CH,Mn,sI,←Nat.add_assoc,←ih O_ t]
  unfold jG at hP
  rw [←hx] at hP
  have:=lW hl.1 hl.2 (nth a i) (if 5≤i+k then (nth b k)*19#64 else nth b k) (t:=(i+k)%5) O_ (by rw [he];omega) t
  rw [this]
  unfold jG
  rw [hx]
theorem iV{a b:AB 64}(ha:Ct a)(hb:Ct b):∀i,i≤5→(∀t,Ht (Ao a b i).1 (Ao a b i).2 t=sO a b t i)∧ ∀t,sO a b t i≤i*3245185536584267267831560205762560:=by
 intro i
 induction i with
 |zero=>
  intro _
  refine ⟨fun t=>?_,fun t=>Nat.zero_le _⟩
  show (nth (Af 5) t).toNat*18446744073709551616+(nth (Af 5) t).toNat=0
  have:nth (Af 5) t=0#64:=by
   unfold nth Af
   rw [List.getD_eq_getElem?_getD,List.getElem?_replicate]
   split<;>rfl
  rw [this];rfl
 |succ i ih=>
  intro hi
  obtain ⟨h1,h2⟩:=ih O_
  have hl:=H2 a b ha.1 hb.1 i
  have hin:=jT ha hb hl.1 hl.2 i O_ (fun t=>by rw [h1];exact h2 t) 5 (Nat.le_refl _)
  refine ⟨fun t=>?_,fun t=>?_⟩
  ·rw [Ao,L9,sO,←h1 t];exact hin t
  ·rw [sO]
   have:=rC ha hb i t O_ 5 (Nat.le_refl _)
   have:=h2 t
   omega
theorem Ha{hi lo c:BitVec 64}(h:hi.toNat*18446744073709551616+lo.toNat+c.toNat<41538374868278621028243970633760768):
  ((lo+c+0#64)&&&2251799813685247#64).toNat=(hi.toNat*18446744073709551616+lo.toNat+c.toNat)%2251799813685248∧
  (((hi+Cj lo c 0#64)<<<13) ||| ((lo+c+0#64)>>>51)).toNat=(hi.toNat*18446744073709551616+lo.toNat+c.toNat)/2251799813685248:=by
 have b0:=lo.isLt
 have b1:=c.isLt
 have e:=Qg (x:=lo) (y:=c)
 have f:=Bx (x:=hi) (y:=Cj lo c 0#64) (by rw [e];omega)
 rw [e] at f
 have g:(lo+c+0#64).toNat=(lo.toNat+c.toNat)%18446744073709551616:=by rw [BitVec.add_zero,BitVec.toNat_add]
 generalize lo+c+0#64=l at*
 generalize hi+Cj lo c 0#64=q at*
 have s:=Wa l
 refine ⟨by rw [DS,g];omega,?_⟩
 have o:=Md (x:=l>>>51) (y:=q) 13 (by rw [s];show _<8192;omega)
 simp only [Nat.reducePow] at o
 rw [BitVec.or_comm,o,s,f,g]
 omega
def nV(h0 h1 h2 h3 h4 l0 l1 l2 l3 l4:BitVec 64):BitVec 64×AB 64:=
 let c0:=0#64
 let c1:=((h0+Cj l0 c0 0#64)<<<13) ||| ((l0+c0+0#64)>>>51)
 let c2:=((h1+Cj l1 c1 0#64)<<<13) ||| ((l1+c1+0#64)>>>51)
 let c3:=((h2+Cj l2 c2 0#64)<<<13) ||| ((l2+c2+0#64)>>>51)
 let c4:=((h3+Cj l3 c3 0#64)<<<13) ||| ((l3+c3+0#64)>>>51)
 let c5:=((h4+Cj l4 c4 0#64)<<<13) ||| ((l4+c4+0#64)>>>51)
 (c5,[(l0+c0+0#64)&&&2251799813685247#64,(l1+c1+0#64)&&&2251799813685247#64,(l2+c2+0#64)&&&2251799813685247#64,(l3+c3+0#64)&&&2251799813685247#64,(l4+c4+0#64)&&&2251799813685247#64])
theorem mE(h0 h1 h2 h3 h4 l0 l1 l2 l3 l4:BitVec 64):BU [h0,h1,h2,h3,h4] [l0,l1,l2,l3,l4] 5=nV h0 h1 h2 h3 h4 l0 l1 l2 l3 l4:=by kernel_rfl
theorem cl(h0 h1 h2 h3 h4 l0 l1 l2 l3 l4:BitVec 64)(b0:h0.toNat*18446744073709551616+l0.toNat≤16225927682921336339157801028812800)(b1:h1.toNat*18446744073709551616+l1.toNat≤16225927682921336339157801028812800)(b2:h2.toNat*18446744073709551616+l2.toNat≤16225927682921336339157801028812800)(b3:h3.toNat*18446744073709551616+l3.toNat≤16225927682921336339157801028812800)(b4:h4.toNat*18446744073709551616+l4.toNat≤16225927682921336339157801028812800):
  ∃c r0 r1 r2 r3 r4:BitVec 64,nV h0 h1 h2 h3 h4 l0 l1 l2 l3 l4=(c,[r0,r1,r2,r3,r4])∧r0.toNat<2251799813685248∧r1.toNat<2251799813685248∧r2.toNat<2251799813685248∧r3.toNat<2251799813685248∧r4.toNat<2251799813685248∧
   (h0.toNat*18446744073709551616+l0.toNat)+(h1.toNat*18446744073709551616+l1.toNat)*2251799813685248+(h2.toNat*18446744073709551616+l2.toNat)*5070602400912917605986812821504+(h3.toNat*18446744073709551616+l3.toNat)*11417981541647679048466287755595961091061972992+(h4.toNat*18446744073709551616+l4.toNat)*25711008708143844408671393477458601640355247900524685364822016=
   r0.toNat+r1.toNat*2251799813685248+r2.toNat*5070602400912917605986812821504+r3.toNat*11417981541647679048466287755595961091061972992+r4.toNat*25711008708143844408671393477458601640355247900524685364822016+c.toNat*57896044618658097711785492504343953926634992332820282019728792003956564819968:=by
 refine ⟨_,_,_,_,_,_,rfl,?_⟩
 have z:(0#64:BitVec 64).toNat=0:=rfl
 obtain ⟨m0,k0⟩:=Ha (hi:=h0) (lo:=l0) (c:=0#64) (by rw [z];omega)
 generalize ((h0+Cj l0 0#64 0#64)<<<13) ||| ((l0+0#64+0#64)>>>51)=c1 at*
 have:=c1.isLt
 obtain ⟨m1,k1⟩:=Ha (hi:=h1) (lo:=l1) (c:=c1) O_
 generalize ((h1+Cj l1 c1 0#64)<<<13) ||| ((l1+c1+0#64)>>>51)=c2 at*
 have:=c2.isLt
 obtain ⟨m2,k2⟩:=Ha (hi:=h2) (lo:=l2) (c:=c2) O_
 generalize ((h2+Cj l2 c2 0#64)<<<13) ||| ((l2+c2+0#64)>>>51)=c3 at*
 have:=c3.isLt
 obtain ⟨m3,k3⟩:=Ha (hi:=h3) (lo:=l3) (c:=c3) O_
 generalize ((h3+Cj l3 c3 0#64)<<<13) ||| ((l3+c3+0#64)>>>51)=c4 at*
 have:=c4.isLt
 obtain ⟨m4,k4⟩:=Ha (hi:=h4) (lo:=l4) (c:=c4) O_
 rw [m0,m1,m2,m3,m4,k4,z]
 omega
theorem CG{a b:AB 64}(ha:Ct a)(hb:Ct b):Ct (AF a b)∧LF (AF a b)=LF a*LF b:=by
 obtain ⟨hac,hle⟩:=iV ha hb 5 (Nat.le_refl _)
 have hl:=H2 a b ha.1 hb.1 5
 unfold AF
 generalize Ao a b 5=Y at*
 obtain ⟨hi,lo⟩:=Y
 dsimp only at hac hl ⊢
 obtain ⟨h0,h1,h2,h3,h4,rfl⟩:=S6 hl.1
 obtain ⟨l0,l1,l2,l3,l4,rfl⟩:=S6 hl.2
 have a0:=hac 0
 have a1:=hac 1
 have a2:=hac 2
 have a3:=hac 3
 have a4:=hac 4
 change h0.toNat*18446744073709551616+l0.toNat=_ at a0
 change h1.toNat*18446744073709551616+l1.toNat=_ at a1
 change h2.toNat*18446744073709551616+l2.toNat=_ at a2
 change h3.toNat*18446744073709551616+l3.toNat=_ at a3
 change h4.toNat*18446744073709551616+l4.toNat=_ at a4
 have d0:=hle 0
 have d1:=hle 1
 have d2:=hle 2
 have d3:=hle 3
 have d4:=hle 4
 rw [mE]
 obtain ⟨c,r0,r1,r2,r3,r4,he,g0,g1,g2,g3,g4,g5⟩:=cl h0 h1 h2 h3 h4 l0 l1 l2 l3 l4 O_ O_ O_ O_ O_
 rw [he]
 dsimp only
 have p0:=Pa c 19#64
 have p1:=Pc c 19#64
 rw [show (19#64:BitVec 64).toNat=19 from rfl] at p0 p1
 have hc:=c.isLt
 obtain ⟨q0,q1⟩:=Ha (hi:=Dq c 19#64) (lo:=Ay c 19#64) (c:=r0) O_
 show Ct (A4 [(Ay c 19#64+r0+0#64)&&&2251799813685247#64,r1+(((Dq c 19#64+Cj (Ay c 19#64) r0 0#64)<<<13) ||| ((Ay c 19#64+r0+0#64)>>>51)),r2,r3,r4])∧LF (A4 [(Ay c 19#64+r0+0#64)&&&2251799813685247#64,r1+(((Dq c 19#64+Cj (Ay c 19#64) r0 0#64)<<<13) ||| ((Ay c 19#64+r0+0#64)>>>51)),r2,r3,r4])=_
 generalize ((Dq c 19#64+Cj (Ay c 19#64) r0 0#64)<<<13) ||| ((Ay c 19#64+r0+0#64)>>>51)=u at*
 generalize (Ay c 19#64+r0+0#64)&&&2251799813685247#64=v at*
 have hu:=Bx (x:=r1) (y:=u) O_
 generalize r1+u=w at*
 obtain ⟨f1,f2⟩:=N3 (a:=[v,w,r2,r3,r4]) ⟨rfl,by show v.toNat<_;omega,by show w.toNat<_;omega,by show r2.toNat<_;omega,by show r3.toNat<_;omega,by show r4.toNat<_;omega⟩
 refine ⟨f1,f2.trans ?_⟩
 unfold LF
 rw [←T4]
 have e1:lV a*lV b=(h0.toNat*18446744073709551616+l0.toNat)+(h1.toNat*18446744073709551616+l1.toNat)*2251799813685248+(h2.toNat*18446744073709551616+l2.toNat)*5070602400912917605986812821504+(h3.toNat*18446744073709551616+l3.toNat)*11417981541647679048466287755595961091061972992+(h4.toNat*18446744073709551616+l4.toNat)*25711008708143844408671393477458601640355247900524685364822016+57896044618658097711785492504343953926634992332820282019728792003956564819949*((nth a 1).toNat*(nth b 4).toNat*1+(nth a 2).toNat*(nth b 3).toNat*1+(nth a 2).toNat*(nth b 4).toNat*2251799813685248+(nth a 3).toNat*(nth b 2).toNat*1+(nth a 3).toNat*(nth b 3).toNat*2251799813685248+(nth a 3).toNat*(nth b 4).toNat*5070602400912917605986812821504+(nth a 4).toNat*(nth b 1).toNat*1+(nth a 4).toNat*(nth b 2).toNat*2251799813685248+(nth a 4).toNat*(nth b 3).toNat*5070602400912917605986812821504+(nth a 4).toNat*(nth b 4).toNat*11417981541647679048466287755595961091061972992):=by
  rw [a0,a1,a2,a3,a4]
  unfold lV
  rw [xJ]
  simp only [sO,sI,jG,Nat.reduceAdd,Nat.reduceMod,Nat.reduceLeDiff,Nat.zero_add,Nat.add_zero,if_true,if_false,Nat.reduceEqDiff]
 have e2:zf (lV a*lV b)=zf (r0.toNat+r1.toNat*2251799813685248+r2.toNat*5070602400912917605986812821504+r3.toNat*11417981541647679048466287755595961091061972992+r4.toNat*25711008708143844408671393477458601640355247900524685364822016+c.toNat*57896044618658097711785492504343953926634992332820282019728792003956564819968):=by
  rw [T9,e1,Nat.add_mul_mod_self_left,g5]
 rw [e2,bj rfl]
 congr 1
 show v.toNat+w.toNat*_+r2.toNat*_+r3.toNat*_+r4.toNat*_=_
 omega
def FF(a:AB 64):AB 64:=(if (!(decide (AL (AF (A3 a (Ax 2#8)) (A3 a (Ax 2#8)))=AL a)))=true then AF (A3 a (Ax 2#8)) (A3 (AH 2#64) (Ds 5#8)) else A3 a (Ax 2#8))
def Mt(a:AB 64):Bool:=decide (AL (AF (if (!(decide (AL (AF (A3 a (Ax 2#8)) (A3 a (Ax 2#8)))=AL a)))=true then AF (A3 a (Ax 2#8)) (A3 (AH 2#64) (Ds 5#8)) else A3 a (Ax 2#8)) (if (!(decide (AL (AF (A3 a (Ax 2#8)) (A3 a (Ax 2#8)))=AL a)))=true then AF (A3 a (Ax 2#8)) (A3 (AH 2#64) (Ds 5#8)) else A3 a (Ax 2#8)))=AL a)
theorem Hj(k:r)(h:Hid r→g:=by intro h;refine Jz (BR N5 AN) AK rfl ?_;exact h.out):g:=h ⟨k⟩
theorem gv(a:AB 64)(ha:a.length=5):Ev prog (.call 164 [EE (a)] []) (.val (.tup [EE (FF a),.c (.val (.bool (Mt a)))]) []):=by
 have hP_lmRoot0:Hid (FF a=(if (!(decide (AL (AF (A3 a (Ax 2#8)) (A3 a (Ax 2#8)))=AL a)))=true then AF (A3 a (Ax 2#8)) (A3 (AH 2#64) (Ds 5#8)) else A3 a (Ax 2#8))):=⟨rfl⟩
 have hP_lmRoot1:Hid (Mt a=decide (AL (AF (if (!(decide (AL (AF (A3 a (Ax 2#8)) (A3 a (Ax 2#8)))=AL a)))=true then AF (A3 a (Ax 2#8)) (A3 (AH 2#64) (Ds 5#8)) else A3 a (Ax 2#8)) (if (!(decide (AL (AF (A3 a (Ax 2#8)) (A3 a (Ax 2#8)))=AL a)))=true then AF (A3 a (Ax 2#8)) (A3 (AH 2#64) (Ds 5#8)) else A3 a (Ax 2#8)))=AL a)):=⟨rfl⟩
 refine AJ func164 rfl ntmps164 rfl AN ?_;refine Bk ?_;refine C2 ?_;refine Bv ?_;have hQ1:(Ax 2#8).length=32:=Au
 have hQ2:(A3 a (Ax 2#8)).length=5:=Au
 refine S_ ?_;refine Jk ?_;refine Ck ?_;refine At (jH 2#8) bV ?_;refine At (UO a (Ax 2#8) AD AD) db ?_;refine Hj ?_;refine Bc ?_;refine Du ?_;have hQ3:(AF (A3 a (Ax 2#8)) (A3 a (Ax 2#8))).length=5:=Au
 refine S_ ?_;refine R9 ?_;refine CV ?_;refine At (Bd (A3 a (Ax 2#8)) (A3 a (Ax 2#8)) AD AD) BW ?_;refine Ck ?_;refine At (RM (AF (A3 a (Ax 2#8)) (A3 a (Ax 2#8))) a AD AD) XB ?_;refine AE (Jl rfl) rfl ?_;refine GN ?_;refine Id [1,2,4] (fun (zz:AB 64)=>⟨25,AQ [1,2,4] [Ai 0,Ai 1,Ai 2],[CA (a),CA (Af 5),CA (zz)]⟩) (if (!(decide (AL (AF (A3 a (Ax 2#8)) (A3 a (Ax 2#8)))=AL a)))=true then AF (A3 a (Ax 2#8)) (A3 (AH 2#64) (Ds 5#8)) else A3 a (Ax 2#8)) rfl (fun hb=>?_) (fun hb=>?_) ?_
 ·have hQ5:(AH 2#64).length=5:=Au
  have hQ6:(Ds 5#8).length=32:=Au
  have hQ7:(A3 (AH 2#64) (Ds 5#8)).length=5:=Au
  have hQ8:(AF (A3 a (Ax 2#8)) (A3 (AH 2#64) (Ds 5#8))).length=5:=Au
  refine S_ ?_;refine EQ 5 mixed K_ rfl rfl rfl ?_;refine Ck ?_;refine At (DA 2#64) Gt ?_;refine At (iU 5#8) bV ?_;refine At (UO (AH 2#64) (Ds 5#8) AD AD) db ?_;refine At (Bd (A3 a (Ax 2#8)) (A3 (AH 2#64) (Ds 5#8)) AD AD) BW ?_;refine GI ?_;refine A1 ?_;refine ⟨(AF (A3 a (Ax 2#8)) (A3 (AH 2#64) (Ds 5#8))),K_,?_⟩
  rw [if_pos (hb)]
 ·refine S_ ?_
  refine ⟨(A3 a (Ax 2#8)),K_,?_⟩
  rw [if_neg (by (rw [hb];decide))]
 have hJ4:(if (!(decide (AL (AF (A3 a (Ax 2#8)) (A3 a (Ax 2#8)))=AL a)))=true then AF (A3 a (Ax 2#8)) (A3 (AH 2#64) (Ds 5#8)) else A3 a (Ax 2#8)).length=5:=by split<;>simp [*]
 generalize (if (!(decide (AL (AF (A3 a (Ax 2#8)) (A3 a (Ax 2#8)))=AL a)))=true then AF (A3 a (Ax 2#8)) (A3 (AH 2#64) (Ds 5#8)) else A3 a (Ax 2#8))=J4 at*
 have hQ9:(AF J4 J4).length=5:=Au
 refine S_ ?_;refine R9 ?_;refine CV ?_;refine Ck ?_;refine At (Bd J4 J4 AD AD) BW ?_;refine Ck ?_;refine At (RM (AF J4 J4) a AD AD) XB ?_;refine GI ?_;refine A7 ?_;rw [hP_lmRoot0.out,hP_lmRoot1.out]
 exact qB (Iy rfl rfl Fd E9 C7 D_) (Dt rfl) (by (kernel_rfl))
@[simp] theorem rY(a:AB 64)(ha:a.length=5):(FF a).length=5:=by
 unfold FF
 (split<;>(simp (maxDischargeDepth:=9) [*];done))
attribute [irreducible] FF
attribute [irreducible] Mt
def F(u:Fp):AB 8:=Yy u.val
def Z(b:AB 8):Fp:=zf (EI b 32)
@[simp] theorem ap(u:Fp):(F u).length=32:=KJ _
theorem zC(u:Fp):Z (F u)=u:=by
 unfold Z F
 rw [Qq _ _ (Nat.le_refl _),Nat.mod_eq_of_lt (Nat.lt_trans u.isLt D_),KX]
theorem ed{u v:Fp}:F u=F v↔u=v:=⟨fun h=>by rw [←zC u,h,zC],fun h=>by rw [h]⟩
theorem tM(u:Fp):nth (F u) 0=BitVec.ofNat 8 u.val:=by
 unfold F
 rw [Qp _ _ D_,Nat.pow_zero,Nat.div_one]
theorem ut:F 0=Am 32:=by decide+kernel
theorem Je{a:AB 64}(h:Ct a):AL a=F (LF a):=bz h
theorem eR(x:BitVec 8):((x&&&1#8)==1#8)=decide (x.toNat%2=1):=by
 have e:(x&&&1#8).toNat=x.toNat%2:=by
  rw [BitVec.toNat_and]
  exact Nat.and_two_pow_sub_one_eq_mod x.toNat 1
 by_cases h:x.toNat%2=1
 ·rw [decide_eq_true h,beq_iff_eq]
  apply BitVec.eq_of_toNat_eq
  rw [e,h];rfl
 ·rw [decide_eq_false h,beq_eq_false_iff_ne]
  intro hx
  apply h
  rw [←e,hx];rfl
theorem Xt(e:AB 8)(i:Nat)(hi:i<256):((((nth e (i/8))>>>(i%8))&&&1#8)==1#8)=decide (EI e 32/2^i%2=1):=by
 rw [eR]
 have h1:=Lb e 32 (i/8) O_
 rw [BitVec.toNat_ushiftRight,Nat.shiftRight_eq_div_pow,←h1]
 have h2:(2:Nat)^i=256^(i/8)*2^(i%8):=by
  rw [show (256:Nat)=2^8 from rfl,←Nat.pow_mul,←Nat.pow_add,Nat.div_add_mod]
 rw [h2,←Nat.div_div_eq_div_mul]
 generalize EI e 32/256^(i/8)=x
 congr 1
 rcases (by omega:i%8=0∨i%8=1∨i%8=2∨i%8=3∨i%8=4∨i%8=5∨i%8=6∨i%8=7) with h | h | h | h | h | h | h | h<;>rw [h]<;>simp only [Nat.reducePow]<;>apply propext<;>omega
theorem pX(x:Fp):x^2=x*x:=by grobner
theorem ku(x:Fp):x^1=x:=by grobner
theorem Qx(x:Fp):x*1=x:=by grobner
theorem T3{a:AB 64}(ha:Ct a)(e:AB 8):Ct (A3 a e)∧LF (A3 a e)=LF a^EI e 32:=by
 have run:∀j,j≤256→Ct (Cw a e j)∧LF (Cw a e j)=LF a^(EI e 32/2^(256-j)):=by
  intro j
  induction j with
  |zero=>
   intro _
   have hz:EI e 32/2^(256-0)=0:=Nat.div_eq_of_lt (OK e 32)
   rw [hz,Fg]
   exact Di (x:=1#64) D_
  |succ j ih=>
   intro hj
   obtain ⟨h1,h2⟩:=ih O_
   obtain ⟨s1,s2⟩:=CG h1 h1
   have hb:=Xt e (255-j) O_
   have hq:EI e 32/2^(256-(j+1))=2*(EI e 32/2^(256-j))+EI e 32/2^(255-j)%2:=by
    rw [show 256-(j+1)=255-j by omega,show 256-j=(255-j)+1 by omega,Nat.pow_succ,←Nat.div_div_eq_div_mul]
    omega
   rw [Cw,Lz,hb,hq,Q4,Nat.mul_comm 2,bT,←h2]
   have hsq:LF (Cw a e j)^2=LF (AF (Cw a e j) (Cw a e j)):=by
    rw [s2,pX]
   rw [hsq]
   by_cases hc:EI e 32/2^(255-j)%2=1
   ·rw [decide_eq_true hc,if_pos rfl,hc]
    obtain ⟨t1,t2⟩:=CG s1 ha
    exact ⟨t1,by rw [t2,ku]⟩
   ·rw [decide_eq_false hc,if_neg D_,show EI e 32/2^(255-j)%2=0 by omega,Fg]
    exact ⟨s1,by rw [Qx]⟩
 have:=run 256 (Nat.le_refl _)
 rw [Nat.sub_self,Nat.pow_zero,Nat.div_one] at this
 unfold A3
 exact this
theorem ym:EI (JY 21#8) 32=oL:=by decide+kernel
theorem zG:EI (Ax 2#8) 32=KU:=by decide+kernel
theorem AAC:EI (Ds 5#8) 32=eI:=by decide+kernel
theorem U3{a:AB 64}(ha:Ct a):Ct (Br a)∧LF (Br a)=B9 (LF a):=by
 unfold Br B9
 have:=T3 ha (JY 21#8)
 rwa [ym] at this
theorem WP{a:AB 64}(ha:Ct a):(Ct (FF a)∧LF (FF a)=FH (LF a))∧Mt a=decide (FH (LF a)*FH (LF a)=LF a):=by
 obtain ⟨p1,p2⟩:=T3 ha (Ax 2#8)
 rw [zG] at p2
 obtain ⟨q1,q2⟩:=CG p1 p1
 obtain ⟨t1,t2⟩:=Di (x:=2#64) D_
 obtain ⟨i1,i2⟩:=T3 t1 (Ds 5#8)
 rw [AAC,t2,show (2#64:BitVec 64).toNat=2 from rfl,tP] at i2
 obtain ⟨r1,r2⟩:=CG p1 i1
 have hc:(!(decide (AL (AF (A3 a (Ax 2#8)) (A3 a (Ax 2#8)))=AL a)))= !(decide (LF a^KU*LF a^KU=LF a)):=by
  rw [Je q1,Je ha,q2,p2]
  congr 1
  exact decide_eq_decide.2 ed
 have h0:Ct (FF a)∧LF (FF a)=FH (LF a):=by
  unfold FF FH
  rw [hc]
  by_cases h:LF a^KU*LF a^KU=LF a
  ·rw [decide_eq_true h,if_neg D_,if_pos h]
   exact ⟨p1,p2⟩
  ·rw [decide_eq_false h,if_pos D_,if_neg h]
   exact ⟨r1,by rw [r2,p2,i2]⟩
 refine ⟨h0,?_⟩
 obtain ⟨u1,u2⟩:=CG h0.1 h0.1
 have e1:Mt a=decide (AL (AF (FF a) (FF a))=AL a):=by unfold Mt FF;rfl
 rw [e1,Je u1,Je ha,u2,h0.2]
 exact decide_eq_decide.2 ed
theorem qv(b:AB 8):Ct (NL b)∧LF (NL b)=Z b:=TQ b
attribute [irreducible] F Z
end Go.Proofs.YtmbepikkgkcgkaaGreatDoor
namespace Go.Proofs.YtmbepikkgkcgkaaGreatDoor
variable {g r : Prop}
open Go.Proofs.Tryz
def dF:Fp:=zf 37095705934669439343138083508754565189542113879843219016388785533085940283555
theorem xH:dF*zf 121666= -zf 121665:=by decide+kernel
theorem gx:PQ<2^255:=by decide+kernel
theorem fz:dF^PQ= -1:=by
 unfold dF
 rw [ZX 37095705934669439343138083508754565189542113879843219016388785533085940283555 PQ 57896044618658097711785492504343953926634992332820282019728792003956564819948 255 gx (by decide+kernel)]
 decide+kernel
attribute [irreducible] dF
theorem Yg{u v:Fp}(hv:v≠0):¬u*u=dF*(v*v):=fun h=>by
 have hd:dF≠0:=fun e=>by
  have:=fz
  obtain ⟨k,hk⟩:=iO
  rw [e,hk,Ry] at this
  revert this;decide+kernel
 have hw:(u*B9 v)*(u*B9 v)=dF:=by
  have:=Aq hv
  have e:(u*B9 v)*(u*B9 v)=(u*u)*(B9 v*B9 v):=by grobner
  rw [e,h]
  have e2:dF*(v*v)*(B9 v*B9 v)=dF*((B9 v*v)*(B9 v*v)):=by grobner
  rw [e2,this]
  grobner
 have hn:u*B9 v≠0:=fun e=>by rw [e,E3] at hw;exact hd hw.symm
 have h1:=fA hn
 rw [hw,fz] at h1
 revert h1;decide+kernel
structure Pt where
 x:Fp
 y:Fp
def On(p:Pt):Prop:=p.y*p.y-p.x*p.x=1+dF*(p.x*p.x*(p.y*p.y))
theorem Jy:(2:Fp)≠0:=by decide+kernel
theorem jk{x1 y1 x2 y2 ε:Fp}(h1:y1*y1-x1*x1=1+dF*(x1*x1*(y1*y1)))(h2:y2*y2-x2*x2=1+dF*(x2*x2*(y2*y2)))(he:ε*ε=1)(h:dF*x1*x2*y1*y2=ε):False:=by
 have hε:ε≠0:=fun e=>by rw [e,E3] at he;exact O6 he.symm
 have hi:=lJ
 have hx1:x1≠0:=fun e=>by rw [e] at h;exact hε (by rw [←h];grobner)
 have hy1:y1≠0:=fun e=>by rw [e] at h;exact hε (by rw [←h];grobner)
 have hy2:y2≠0:=fun e=>by rw [e] at h;exact hε (by rw [←h];grobner)
 have hxy:x1*y1≠0:=DI hx1 hy1
 generalize iF=j at hi
 generalize hd:dF=d at*
 have ka:(j*x1+ε*y1)*(j*x1+ε*y1)=d*((x1*y1*(j*x2+y2))*(x1*y1*(j*x2+y2))):=by
  clear hε hx1 hy1 hy2 hxy hd
  grobner
 have kb:(j*x1-ε*y1)*(j*x1-ε*y1)=d*((x1*y1*(j*x2-y2))*(x1*y1*(j*x2-y2))):=by
  clear hε hx1 hy1 hy2 hxy hd ka
  grobner
 subst hd
 by_cases c1:j*x2+y2=0
 ·by_cases c2:j*x2-y2=0
  ·have:2*y2=0:=by clear ka kb h h1 h2 he hi hε hx1 hy1 hy2 hxy;grobner
   rcases Fw this with g | g
   ·exact Jy g
   ·exact hy2 g
  ·exact Yg (DI hxy c2) kb
 ·exact Yg (DI hxy c1) ka
theorem JM{p q:Pt}(hp:On p)(hq:On q):1+dF*p.x*q.x*p.y*q.y≠0:=fun h=>
 jk (ε:= -1) hp hq (by decide+kernel) (by generalize dF*p.x*q.x*p.y*q.y=t at*;grobner)
theorem Fk{p q:Pt}(hp:On p)(hq:On q):1-dF*p.x*q.x*p.y*q.y≠0:=fun h=>
 jk (ε:=1) hp hq (by decide+kernel) (by generalize dF*p.x*q.x*p.y*q.y=t at*;grobner)
def ED(p q:Pt):Pt:=⟨(p.x*q.y+q.x*p.y)*B9 (1+dF*p.x*q.x*p.y*q.y),(p.y*q.y+p.x*q.x)*B9 (1-dF*p.x*q.x*p.y*q.y)⟩
def HP:Pt:=⟨0,1⟩
def M7(p:Pt):Pt:=⟨-p.x,p.y⟩
theorem qq:On HP:=by unfold On HP;show (1:Fp)*1-0*0=1+dF*(0*0*(1*1));generalize dF=d;grobner
theorem lw{p:Pt}(h:On p):On (M7 p):=by
 unfold On M7 at*
 show p.y*p.y-(-p.x)*(-p.x)=1+dF*((-p.x)*(-p.x)*(p.y*p.y))
 generalize dF=d at*
 grobner
theorem ev{a b u v:Fp}(hu:u≠0)(hv:v≠0):a*B9 u=b*B9 v↔a*v=b*u:=by
 have h1:=Aq hu
 have h2:=Aq hv
 constructor
 ·intro h
  have e1:a*v=(a*B9 u)*(u*v):=by clear h h2;grobner
  rw [e1,h]
  clear h h1 e1
  grobner
 ·intro h
  refine O7 (DI hu hv) ?_;clear hu hv
  have e1:u*v*(a*B9 u)=a*v:=by clear h h2;grobner
  have e2:u*v*(b*B9 v)=b*u:=by clear h h1;grobner
  rw [e1,e2,h]
theorem V5(p q:Pt):ED p q=ED q p:=by
 unfold ED
 have e:dF*p.x*q.x*p.y*q.y=dF*q.x*p.x*q.y*p.y:=by generalize dF=d;grobner
 rw [e,show p.x*q.y+q.x*p.y=q.x*p.y+p.x*q.y from by grobner,show p.y*q.y+p.x*q.x=q.y*p.y+q.x*p.x from by grobner]
theorem fJ:B9 1=1:=(aq (by decide+kernel)).symm
theorem O8(p:Pt):ED p HP=p:=by
 unfold ED HP
 show Pt.mk ((p.x*1+0*p.y)*B9 (1+dF*p.x*0*p.y*1)) ((p.y*1+p.x*0)*B9 (1-dF*p.x*0*p.y*1))=p
 rw [show 1+dF*p.x*0*p.y*1=1 from by generalize dF=d;grobner,show 1-dF*p.x*0*p.y*1=1 from by generalize dF=d;grobner,fJ]
 cases p with
 |mk x y=>congr 1<;>(simp only;grobner)
theorem jz{p:Pt}(h:On p):ED p (M7 p)=HP:=by
 have h1:=Fk h (lw h)
 unfold ED M7 HP at*
 show Pt.mk ((p.x*p.y+(-p.x)*p.y)*B9 (1+dF*p.x*(-p.x)*p.y*p.y)) ((p.y*p.y+p.x*(-p.x))*B9 (1-dF*p.x*(-p.x)*p.y*p.y))=⟨0,1⟩
 have e1:p.x*p.y+(-p.x)*p.y=0:=by grobner
 have e2:p.y*p.y+p.x*(-p.x)=1-dF*p.x*(-p.x)*p.y*p.y:=by
  unfold On at h
  generalize dF=d at*
  clear h1 e1
  grobner
 rw [e1,E3,e2]
 have:=Aq h1
 congr 1
 rw [Fin.mul_comm]
 exact this
theorem closure (d x1 y1 x2 y2 : Fp) (h1 : y1*y1 - x1*x1 = 1 + d*(x1*x1*(y1*y1))) (h2 : y2*y2 - x2*x2 = 1 + d*(x2*x2*(y2*y2))) :
    ((y1*y2+x1*x2)*(y1*y2+x1*x2))*((1+d*x1*x2*y1*y2)*(1+d*x1*x2*y1*y2)) - ((x1*y2+x2*y1)*(x1*y2+x2*y1))*((1-d*x1*x2*y1*y2)*(1-d*x1*x2*y1*y2)) = ((1+d*x1*x2*y1*y2)*(1+d*x1*x2*y1*y2))*((1-d*x1*x2*y1*y2)*(1-d*x1*x2*y1*y2)) + d*((x1*y2+x2*y1)*(x1*y2+x2*y1)*((y1*y2+x1*x2)*(y1*y2+x1*x2))) := by grobner
theorem np(d A B u v i j:Fp)(hi:i*u=1)(hj:j*v=1)(h:B*B*(u*u)-A*A*(v*v)=u*u*(v*v)+d*(A*A*(B*B))):B*j*(B*j)-A*i*(A*i)=1+d*(A*i*(A*i)*(B*j*(B*j))):=by grobner
theorem Tx{p q:Pt}(hp:On p)(hq:On q):On (ED p q):=by
 have h1:=Aq (JM hp hq)
 have h2:=Aq (Fk hp hq)
 exact np dF _ _ _ _ _ _ h1 h2 (closure dF _ _ _ _ hp hq)
theorem um (d x1 y1 x2 y2 x3 y3 : Fp) (h1 : y1*y1 - x1*x1 = 1 + d*(x1*x1*(y1*y1))) (h2 : y2*y2 - x2*x2 = 1 + d*(x2*x2*(y2*y2))) (h3 : y3*y3 - x3*x3 = 1 + d*(x3*x3*(y3*y3))) :
    ((x1*y2+x2*y1)*(1-d*x1*x2*y1*y2)*y3 + x3*(y1*y2+x1*x2)*(1+d*x1*x2*y1*y2))*((1+d*x2*x3*y2*y3)*(1-d*x2*x3*y2*y3) + d*x1*y1*(x2*y3+x3*y2)*(y2*y3+x2*x3)) = (x1*(y2*y3+x2*x3)*(1+d*x2*x3*y2*y3) + (x2*y3+x3*y2)*(1-d*x2*x3*y2*y3)*y1)*((1+d*x1*x2*y1*y2)*(1-d*x1*x2*y1*y2) + d*x3*y3*(x1*y2+x2*y1)*(y1*y2+x1*x2)) := by grobner
theorem uN (d x1 y1 x2 y2 x3 y3 : Fp) (h1 : y1*y1 - x1*x1 = 1 + d*(x1*x1*(y1*y1))) (h2 : y2*y2 - x2*x2 = 1 + d*(x2*x2*(y2*y2))) (h3 : y3*y3 - x3*x3 = 1 + d*(x3*x3*(y3*y3))) :
    ((y1*y2+x1*x2)*(1+d*x1*x2*y1*y2)*y3 + (x1*y2+x2*y1)*(1-d*x1*x2*y1*y2)*x3)*((1+d*x2*x3*y2*y3)*(1-d*x2*x3*y2*y3) - d*x1*y1*(x2*y3+x3*y2)*(y2*y3+x2*x3)) = (y1*(y2*y3+x2*x3)*(1+d*x2*x3*y2*y3) + x1*(x2*y3+x3*y2)*(1-d*x2*x3*y2*y3))*((1+d*x1*x2*y1*y2)*(1-d*x1*x2*y1*y2) - d*x3*y3*(x1*y2+x2*y1)*(y1*y2+x1*x2)) := by grobner
theorem asx (d x1 y1 x3 y3 A B u v C D w z i j k l : Fp) (hi : i * u = 1) (hj : j * v = 1) (hk : k * w = 1) (hl : l * z = 1) :
    (u * v) * (w * z) * ((A * i * y3 + x3 * (B * j)) * (1 + d * x1 * (C * k) * y1 * (D * l))) = (A * v * y3 + x3 * B * u) * (w * z + d * x1 * y1 * C * D) := by grobner
theorem zp (d x1 y1 x3 y3 A B u v C D w z i j k l : Fp) (hi : i * u = 1) (hj : j * v = 1) (hk : k * w = 1) (hl : l * z = 1) :
    (u * v) * (w * z) * ((x1 * (D * l) + C * k * y1) * (1 + d * (A * i) * x3 * (B * j) * y3)) = (x1 * D * w + C * z * y1) * (u * v + d * x3 * y3 * A * B) := by grobner
theorem asy (d x1 y1 x3 y3 A B u v C D w z i j k l : Fp) (hi : i * u = 1) (hj : j * v = 1) (hk : k * w = 1) (hl : l * z = 1) :
    (u * v) * (w * z) * ((B * j * y3 + A * i * x3) * (1 - d * x1 * (C * k) * y1 * (D * l))) = (B * u * y3 + A * v * x3) * (w * z - d * x1 * y1 * C * D) := by grobner
theorem zP (d x1 y1 x3 y3 A B u v C D w z i j k l : Fp) (hi : i * u = 1) (hj : j * v = 1) (hk : k * w = 1) (hl : l * z = 1) :
    (u * v) * (w * z) * ((y1 * (D * l) + x1 * (C * k)) * (1 - d * (A * i) * x3 * (B * j) * y3)) = (y1 * D * w + x1 * C * z) * (u * v - d * x3 * y3 * A * B) := by grobner
theorem VB{p q r:Pt}(hp:On p)(hq:On q)(hr:On r):ED (ED p q) r=ED p (ED q r):=by
 have u1:=JM hp hq
 have v1:=Fk hp hq
 have w1:=JM hq hr
 have z1:=Fk hq hr
 have nz:=DI (DI u1 v1) (DI w1 z1)
 have a1:=JM (Tx hp hq) hr
 have a2:=Fk (Tx hp hq) hr
 have b1:=JM hp (Tx hq hr)
 have b2:=Fk hp (Tx hq hr)
 have ex:(ED (ED p q) r).x=(ED p (ED q r)).x:=by
  refine (ev a1 b1).2 (O7 nz ?_)
  exact (asx dF p.x p.y r.x r.y _ _ _ _ _ _ _ _ _ _ _ _ (Aq u1) (Aq v1) (Aq w1) (Aq z1)).trans ((um dF p.x p.y q.x q.y r.x r.y hp hq hr).trans (zp dF p.x p.y r.x r.y _ _ _ _ _ _ _ _ _ _ _ _ (Aq u1) (Aq v1) (Aq w1) (Aq z1)).symm)
 have ey:(ED (ED p q) r).y=(ED p (ED q r)).y:=by
  refine (ev a2 b2).2 (O7 nz ?_)
  exact (asy dF p.x p.y r.x r.y _ _ _ _ _ _ _ _ _ _ _ _ (Aq u1) (Aq v1) (Aq w1) (Aq z1)).trans ((uN dF p.x p.y q.x q.y r.x r.y hp hq hr).trans (zP dF p.x p.y r.x r.y _ _ _ _ _ _ _ _ _ _ _ _ (Aq u1) (Aq v1) (Aq w1) (Aq z1)).symm)
 cases h:ED (ED p q) r with
 |mk a b=>cases h':ED p (ED q r) with
  |mk c e=>rw [h,h'] at ex ey;simp only at ex ey;rw [ex,ey]
def GW(p:Pt):Nat→Pt
 |0=>HP
 |n+1=>ED (GW p n) p
theorem IX{p:Pt}(h:On p)(n:Nat):On (GW p n):=by
 induction n with
 |zero=>exact qq
 |succ n ih=>exact Tx ih h
theorem Wn(p:Pt):ED HP p=p:=by rw [V5,O8]
theorem HE{p:Pt}(h:On p)(m n:Nat):GW p (m+n)=ED (GW p m) (GW p n):=by
 induction n with
 |zero=>rw [Nat.add_zero];exact (O8 _).symm
 |succ n ih=>rw [←Nat.add_assoc,GW,ih,GW,VB (IX h m) (IX h n) h]
theorem Uk{p:Pt}(h:On p)(m n:Nat):GW p (m*n)=GW (GW p m) n:=by
 induction n with
 |zero=>rfl
 |succ n ih=>rw [Nat.mul_succ,HE h,ih,GW]
structure Qt where
 X:Fp
 Y:Fp
 Z:Fp
 T:Fp
def YA(P:Qt)(p:Pt):Prop:=P.Z≠0∧P.X=p.x*P.Z∧P.Y=p.y*P.Z∧P.T=p.x*p.y*P.Z
def Zl(P Q:Qt):Qt:=
 let a:=(P.Y-P.X)*(Q.Y-Q.X)
 let b:=(P.Y+P.X)*(Q.Y+Q.X)
 let c:=(dF+dF)*P.T*Q.T
 let d:=(P.Z+P.Z)*Q.Z
 ⟨(b-a)*(d-c),(d+c)*(b+a),(d-c)*(d+c),(b-a)*(b+a)⟩
theorem QQ{a u w:Fp}(hu:u≠0)(h:a=w*u):a*B9 u=w:=by
 have:=Aq hu
 clear hu
 rw [h]
 grobner
theorem eD{P Q:Qt}{p q:Pt}(hp:On p)(hq:On q)(h1:YA P p)(h2:YA Q q):YA (Zl P Q) (ED p q):=by
 have d1:=JM hp hq
 have d2:=Fk hp hq
 have i1:=Aq d1
 have i2:=Aq d2
 obtain ⟨z1,x1,y1,t1⟩:=h1
 obtain ⟨z2,x2,y2,t2⟩:=h2
 obtain ⟨X1,Y1,Z1,T1⟩:=P
 obtain ⟨X2,Y2,Z2,T2⟩:=Q
 obtain ⟨px,py⟩:=p
 obtain ⟨qx,qy⟩:=q
 unfold YA Zl ED at*
 simp only at*
 subst x1 y1 t1 x2 y2 t2
 generalize dF=d at*
 have ef:(Z1+Z1)*Z2-(d+d)*(px*py*Z1)*(qx*qy*Z2)=2*(Z1*Z2)*(1-d*px*qx*py*qy):=by clear i1 i2 hp hq d1 d2 z1 z2;grobner
 have eg:(Z1+Z1)*Z2+(d+d)*(px*py*Z1)*(qx*qy*Z2)=2*(Z1*Z2)*(1+d*px*qx*py*qy):=by clear i1 i2 hp hq d1 d2 z1 z2 ef;grobner
 have ee:(py*Z1+px*Z1)*(qy*Z2+qx*Z2)-(py*Z1-px*Z1)*(qy*Z2-qx*Z2)=2*(Z1*Z2)*(px*qy+qx*py):=by clear i1 i2 hp hq d1 d2 z1 z2 ef eg;grobner
 have eh:(py*Z1+px*Z1)*(qy*Z2+qx*Z2)+(py*Z1-px*Z1)*(qy*Z2-qx*Z2)=2*(Z1*Z2)*(py*qy+px*qx):=by clear i1 i2 hp hq d1 d2 z1 z2 ef eg ee;grobner
 rw [ef,eg,ee,eh]
 have nz:2*(Z1*Z2)≠0:=DI Jy (DI z1 z2)
 generalize 2*(Z1*Z2)=m at*
 generalize 1-d*px*qx*py*qy=v at*
 generalize 1+d*px*qx*py*qy=u at*
 generalize px*qy+qx*py=A at*
 generalize py*qy+px*qx=B at*
 clear ef eg ee eh
 refine ⟨DI (DI nz d2) (DI nz d1),?_,?_,?_⟩<;>(clear hp hq d1 d2 z1 z2 nz;grobner)
def zq(P:Qt):Pt:=⟨P.X*B9 P.Z,P.Y*B9 P.Z⟩
theorem pe{P:Qt}{p:Pt}(h:YA P p):zq P=p:=by
 obtain ⟨z,x,y,_⟩:=h
 obtain ⟨px,py⟩:=p
 unfold zq
 rw [QQ z x,QQ z y]
def lx:Qt:=⟨0,1,1,0⟩
theorem mC:YA lx HP:=⟨O6,by decide+kernel,by decide+kernel,by decide+kernel⟩
def S2(P:Qt)(e:Nat):Nat→Qt
 |0=>lx
 |j+1=>if e/2^(255-j)%2=1 then Zl (Zl (S2 P e j) (S2 P e j)) P else Zl (S2 P e j) (S2 P e j)
theorem qE{P:Qt}{p:Pt}(hp:On p)(h:YA P p)(e:Nat)(he:e<2^256):∀j,j≤256→YA (S2 P e j) (GW p (e/2^(256-j))):=by
 intro j
 induction j with
 |zero=>
  intro _
  rw [show e/2^(256-0)=0 from Nat.div_eq_of_lt he]
  exact mC
 |succ j ih=>
  intro hj
  have h1:=ih O_
  have o1:=IX hp (e/2^(256-j))
  have h2:=eD o1 o1 h1 h1
  rw [←HE hp] at h2
  have hq:e/2^(256-(j+1))=e/2^(256-j)+e/2^(256-j)+e/2^(255-j)%2:=by
   rw [show 256-(j+1)=255-j by omega,show 256-j=(255-j)+1 by omega,Nat.pow_succ,←Nat.div_div_eq_div_mul]
   omega
  rw [S2,hq]
  by_cases hc:e/2^(255-j)%2=1
  ·rw [if_pos hc,hc]
   exact eD (IX hp _) hp h2 h
  ·rw [if_neg hc,show e/2^(255-j)%2=0 by omega]
   exact h2
theorem Wv{P:Qt}{p:Pt}(hp:On p)(h:YA P p)(e:Nat)(he:e<2^256):YA (S2 P e 256) (GW p e):=by
 have:=qE hp h e he 256 (Nat.le_refl _)
 rwa [Nat.sub_self,Nat.pow_zero,Nat.div_one] at this
theorem vx(y:Fp):dF*(y*y)+1≠0:=fun h=>by
 by_cases hy:y=0
 ·rw [hy] at h
  have:(1:Fp)=0:=by rw [←h];generalize dF=d;grobner
  exact O6 this
 ·refine Yg (u:=iF) hy ?_
  rw [lJ]
  generalize dF=d at*
  clear hy
  grobner
theorem lq(x y:Fp):On ⟨x,y⟩↔x*x=(y*y-1)*B9 (dF*(y*y)+1):=by
 have h:=Aq (vx y)
 have hne:=vx y
 unfold On
 simp only
 generalize dF=d at*
 constructor
 ·intro h1
  refine O7 hne ?_;clear hne
  grobner
 ·intro h1
  clear hne
  grobner
def bX:Fp:=zf 15112221349535400772501151409588531511454012693041857206046113283949847762202
def bY:Fp:=zf 46316835694926478169428394003475163141307993866256225615783033603165251855960
def VY:Pt:=⟨bX,bY⟩
theorem H9:On VY:=by
 unfold On VY bX bY dF
 decide+kernel
def BS:Nat:=7237005577332262213973186563042994240857116359379907606001950938285454250989
def gy(P Q:Nat×Nat×Nat×Nat):Nat×Nat×Nat×Nat:=
 let a:=(P.2.1+PP-P.1)*(Q.2.1+PP-Q.1)%PP
 let b:=(P.2.1+P.1)*(Q.2.1+Q.1)%PP
 let c:=2*37095705934669439343138083508754565189542113879843219016388785533085940283555*P.2.2.2%PP*Q.2.2.2%PP
 let d:=2*P.2.2.1*Q.2.2.1%PP
 ((b+PP-a)*(d+PP-c)%PP,(d+c)*(b+a)%PP,(d+PP-c)*(d+c)%PP,(b+PP-a)*(b+a)%PP)
def nQ(P:Nat×Nat×Nat×Nat):Qt:=⟨zf P.1,zf P.2.1,zf P.2.2.1,zf P.2.2.2⟩
def rX(P:Nat×Nat×Nat×Nat):Prop:=P.1<PP∧P.2.1<PP∧P.2.2.1<PP∧P.2.2.2<PP
theorem PA(a b:Nat)(h:b<PP):zf (a+PP-b)=zf a-zf b:=by
 rw [sW _ _ O_,P8,zg]
 generalize zf a=x
 generalize zf b=y
 grobner
theorem dV:0<PP:=by decide
theorem nR{P Q:Nat×Nat×Nat×Nat}(hP:rX P)(hQ:rX Q):nQ (gy P Q)=Zl (nQ P) (nQ Q)∧rX (gy P Q):=by
 obtain ⟨x1,y1,z1,t1⟩:=P
 obtain ⟨x2,y2,z2,t2⟩:=Q
 obtain ⟨p1,p2,p3,p4⟩:=hP
 obtain ⟨q1,q2,q3,q4⟩:=hQ
 have ml:∀n,n%PP<PP:=fun n=>Nat.mod_lt _ dV
 refine ⟨?_,ml _,ml _,ml _,ml _⟩
 unfold nQ gy Zl
 simp only [kK,T4,P8]
 rw [PA _ _ p1,PA _ _ q1,PA _ _ (ml _),PA _ _ (ml _)]
 simp only [kK,T4,P8]
 rw [PA _ _ p1,PA _ _ q1]
 have h2:zf 2=1+1:=by decide+kernel
 have hd:zf 37095705934669439343138083508754565189542113879843219016388785533085940283555=dF:=by unfold dF;rfl
 rw [h2,hd]
 have e1:(1+1)*dF*zf t1*zf t2=(dF+dF)*zf t1*zf t2:=by generalize dF=d;generalize zf t1=u;generalize zf t2=v;grobner
 have e2:(1+1)*zf z1*zf z2=(zf z1+zf z1)*zf z2:=by generalize zf z1=u;generalize zf z2=v;grobner
 rw [e1,e2]
def Sx(P:Nat×Nat×Nat×Nat)(e:Nat):Nat→Nat×Nat×Nat×Nat
 |0=>(0,1,1,0)
 |j+1=>if e/2^(255-j)%2=1 then gy (gy (Sx P e j) (Sx P e j)) P else gy (Sx P e j) (Sx P e j)
theorem so{P:Nat×Nat×Nat×Nat}(hP:rX P)(e j:Nat):nQ (Sx P e j)=S2 (nQ P) e j∧rX (Sx P e j):=by
 induction j with
 |zero=>exact ⟨rfl,by unfold rX Sx;decide⟩
 |succ j ih=>
  obtain ⟨a1,a2⟩:=nR ih.2 ih.2
  rw [Sx,S2,←ih.1]
  by_cases hc:e/2^(255-j)%2=1
  ·obtain ⟨b1,b2⟩:=nR a2 hP
   rw [if_pos hc,if_pos hc,←a1]
   exact ⟨b1,b2⟩
  ·rw [if_neg hc,if_neg hc]
   exact ⟨a1,a2⟩
def nB:Nat×Nat×Nat×Nat:=(15112221349535400772501151409588531511454012693041857206046113283949847762202,46316835694926478169428394003475163141307993866256225615783033603165251855960,1,46827403850823179245072216630277197565144205554125654976674165829533817101731)
theorem yD:rX nB:=by unfold rX nB;decide
theorem tJ:YA (nQ nB) VY:=by
 unfold YA nQ nB VY bX bY
 decide+kernel
theorem nL:(Sx nB BS 256).1=0∧(Sx nB BS 256).2.1=(Sx nB BS 256).2.2.1:=by decide+kernel
attribute [irreducible] Sx
theorem tH:GW VY BS=HP:=by
 have h:=Wv H9 tJ BS (by unfold BS;decide)
 have e:=(so yD BS 256).1
 rw [←e] at h
 obtain ⟨n1,n2⟩:=nL
 rw [←pe h]
 obtain ⟨z,_⟩:=h
 unfold zq nQ HP
 unfold nQ at z
 simp only at z ⊢
 rw [n1,n2,eF,E3]
 have h1:=Aq z
 rw [Fin.mul_comm] at h1
 rw [h1]
theorem Uq(n:Nat):GW HP n=HP:=by
 induction n with
 |zero=>rfl
 |succ n ih=>rw [GW,ih,O8]
def aM:Fp:=zf 121665
theorem xp:dF*(aM+1)= -aM:=by
 have:=xH
 have e:zf 121666=aM+1:=by unfold aM;rw [show (121666:Nat)=121665+1 from rfl,P8,dE]
 rw [e] at this
 exact this
theorem xE:aM+1≠0:=by decide+kernel
def Mg(X Z:Fp)(p:Pt):Prop:= ∃c,c≠0∧X=c*(1+p.y)∧Z=c*(1-p.y)
def Rw(p:Pt):Fp:=(1+p.y)*B9 (1-p.y)
theorem Mg.out{X Z:Fp}{p:Pt}(h:Mg X Z p):X*B9 Z=Rw p:=by
 obtain ⟨c,hc,rfl,rfl⟩:=h
 unfold Rw
 rw [ao]
 have:=Aq hc
 generalize B9 c=i at*
 generalize B9 (1-p.y)=j
 clear hc
 grobner
theorem qH:Mg 1 0 HP:=⟨B9 2,Xh Jy,by have:=Aq Jy;show 1=B9 2*(1+1);generalize B9 2=i at*;grobner,by show 0=B9 2*(1-1);generalize B9 2=i;grobner⟩
theorem lr{p:Pt}(h:Rw p≠0):1-p.y≠0:=fun e=>by
 unfold Rw at h
 rw [e,Le,Ol] at h
 exact h rfl
theorem tQ{p:Pt}(h:Rw p≠0):Mg (Rw p) 1 p:=by
 have h1:=lr h
 refine ⟨B9 (1-p.y),Xh h1,?_,(Aq h1).symm⟩
 unfold Rw
 exact Fin.mul_comm _ _
theorem qr(d a x y:Fp)(hd:d*(a+1)= -a)(h:y*y-x*x=1+d*(x*x*(y*y))):y*y=(1+a*(1-y*y))*(1+x*x):=by grobner
theorem pR(d x y i D:Fp)(hD:D=1-d*x*x*y*y)(hi:i*D=1)(h:y*y-x*x=1+d*(x*x*(y*y))):D*(1+(y*y+x*x)*i)=2*(1+x*x):=by grobner
theorem pF(d x y i D:Fp)(hD:D=1-d*x*x*y*y)(hi:i*D=1)(h:y*y-x*x=1+d*(x*x*(y*y))):D*(1-(y*y+x*x)*i)=2*(1-y*y):=by grobner
def XJ(X Z:Fp):Fp×Fp:=((X+Z)*(X+Z)*((X-Z)*(X-Z)),((X+Z)*(X+Z)-(X-Z)*(X-Z))*((X+Z)*(X+Z)+aM*((X+Z)*(X+Z)-(X-Z)*(X-Z))))
theorem fQ{X Z:Fp}{p:Pt}(hp:On p)(h:Mg X Z p):Mg (XJ X Z).1 (XJ X Z).2 (ED p p):=by
 obtain ⟨c,hc,rfl,rfl⟩:=h
 obtain ⟨x,y⟩:=p
 have hD0:=Fk hp hp
 have hi:=Aq hD0
 have hon:y*y-x*x=1+dF*(x*x*(y*y)):=hp
 have hk:=qr dF aM x y xp hon
 have hf:1+aM*(1-y*y)≠0:=fun e=>by
  rw [e,E3] at hk
  have:=xE
  rw [hk] at e
  exact this (by rw [←e];generalize aM=a;grobner)
 unfold XJ ED
 simp only at*
 have k1:=pR dF x y _ _ rfl hi hon
 have k2:=pF dF x y _ _ rfl hi hon
 generalize 1-dF*x*x*y*y=D at*
 generalize B9 D=i at*
 refine ⟨8*(c*c*(c*c))*D*(1+aM*(1-y*y)),DI (DI (DI (by decide+kernel) (DI (DI hc hc) (DI hc hc))) hD0) hf,?_,?_⟩
 ·have e:8*(c*c*(c*c))*D*(1+aM*(1-y*y))*(1+(y*y+x*x)*i)=8*(c*c*(c*c))*(1+aM*(1-y*y))*(D*(1+(y*y+x*x)*i)):=by
   clear k1 k2 hk hf hi hon hp hD0;grobner
  rw [e,k1]
  have e2:8*(c*c*(c*c))*(1+aM*(1-y*y))*(2*(1+x*x))=16*(c*c*(c*c))*((1+aM*(1-y*y))*(1+x*x)):=by
   clear k1 k2 hk hf hi hon hp hD0 e;grobner
  rw [e2,←hk]
  clear k1 k2 hk hf hi hon hp hD0 e e2
  grobner
 ·have e:8*(c*c*(c*c))*D*(1+aM*(1-y*y))*(1-(y*y+x*x)*i)=8*(c*c*(c*c))*(1+aM*(1-y*y))*(D*(1-(y*y+x*x)*i)):=by
   clear k1 k2 hk hf hi hon hp hD0;grobner
  rw [e,k2]
  clear k1 k2 hk hf hi hon hp hD0 e
  generalize aM=a
  grobner
theorem pO (d x y z w : Fp) (h : y * y - x * x = 1 + d * (x * x * (y * y))) (k : w * w - z * z = 1 + d * (z * z * (w * w))) :
    (y + w) * (y + w) * ((1 - d * x * z * y * w - (y * w + x * z)) * (1 + d * x * z * y * w - (y * w - x * z))) = (w - y) * (w - y) * ((1 - d * x * z * y * w + (y * w + x * z)) * (1 + d * x * z * y * w + (y * w - x * z))) := by grobner
def S5(u X Z V W:Fp):Fp×Fp:=(((V-W)*(X+Z)+(V+W)*(X-Z))*((V-W)*(X+Z)+(V+W)*(X-Z)),u*(((V-W)*(X+Z)-(V+W)*(X-Z))*((V-W)*(X+Z)-(V+W)*(X-Z))))
theorem lO{u:Fp}(h:u+u=0):u=0:=by
 have:2*u=0:=by grobner
 rcases Fw this with g | g
 ·exact absurd g Jy
 ·exact g
theorem fe{u X Z V W:Fp}{p q:Pt}(hp:On p)(hq:On q)(h:Mg X Z p)(k:Mg V W q)(hu:u≠0)(hd:u*(1-(ED q (M7 p)).y)=1+(ED q (M7 p)).y):Mg (S5 u X Z V W).1 (S5 u X Z V W).2 (ED p q):=by
 obtain ⟨c,hc,rfl,rfl⟩:=h
 obtain ⟨e,he,rfl,rfl⟩:=k
 obtain ⟨x,y⟩:=p
 obtain ⟨z,w⟩:=q
 have hm:=Fk hp hq
 have hpl:=JM hp hq
 have hi:=Aq hm
 have hj:=Aq hpl
 have hon:y*y-x*x=1+dF*(x*x*(y*y)):=hp
 have hon':w*w-z*z=1+dF*(z*z*(w*w)):=hq
 have key:=pO dF x y z w hon hon'
 have ey:(ED ⟨z,w⟩ (M7 ⟨x,y⟩)).y=(y*w-x*z)*B9 (1+dF*x*z*y*w):=by
  unfold ED M7
  simp only
  have e1:w*y+z* -x=y*w-x*z:=by grobner
  have e2:1-dF*z* -x*w*y=1+dF*x*z*y*w:=by generalize dF=d;grobner
  rw [e1,e2]
 rw [ey] at hd
 clear ey
 simp only at*
 have hu2:u*(1+dF*x*z*y*w-(y*w-x*z))=1+dF*x*z*y*w+(y*w-x*z):=by
  generalize 1+dF*x*z*y*w=D at*
  generalize B9 D=j at*
  have e1:u*(D-(y*w-x*z))=D*(u*(1-(y*w-x*z)*j))+u*(j*D-1)*(y*w-x*z):=by clear key hon hon' hd hj;grobner
  rw [e1,hd,hj]
  have e2:D*(1+(y*w-x*z)*j)=D+(y*w-x*z)*(j*D):=by clear key hon hon' hd hj e1;grobner
  rw [e2,hj]
  clear key hon hon' hd hj e1 e2
  grobner
 have hX:(S5 u (c*(1+y)) (c*(1-y)) (e*(1+w)) (e*(1-w))).1=16*(c*c*(e*e))*((y+w)*(y+w)):=by
  unfold S5
  clear key hon hon' hd hi hj hu2 hp hq
  simp only
  grobner
 have hZ:(S5 u (c*(1+y)) (c*(1-y)) (e*(1+w)) (e*(1-w))).2=u*(16*(c*c*(e*e))*((w-y)*(w-y))):=by
  unfold S5
  clear key hon hon' hd hi hj hu2 hp hq
  simp only
  grobner
 rw [hX,hZ]
 have cross:((y+w)*(y+w))*(1-dF*x*z*y*w-(y*w+x*z))*(1+dF*x*z*y*w-(y*w-x*z))=(u*((w-y)*(w-y)))*(1-dF*x*z*y*w+(y*w+x*z))*(1+dF*x*z*y*w-(y*w-x*z)):=by
  generalize 1-dF*x*z*y*w-(y*w+x*z)=A at*
  generalize 1-dF*x*z*y*w+(y*w+x*z)=B at*
  generalize 1+dF*x*z*y*w-(y*w-x*z)=G at*
  generalize 1+dF*x*z*y*w+(y*w-x*z)=H at*
  clear hi hj hon hon' hX hZ hd hp hq hm hpl
  grobner
 have hG:1+dF*x*z*y*w-(y*w-x*z)≠0:=fun g=>by
  rw [g,Ol] at hu2
  have h2:(1+dF*x*z*y*w)+(1+dF*x*z*y*w)=0:=by
   generalize 1+dF*x*z*y*w=D at*
   clear key cross hi hj hon hon' hX hZ hd hp hq hm hpl
   grobner
  exact hpl (lO h2)
 have cross2:((y+w)*(y+w))*(1-dF*x*z*y*w-(y*w+x*z))=(u*((w-y)*(w-y)))*(1-dF*x*z*y*w+(y*w+x*z)):=by
  refine O7 hG ?_;rw [Fin.mul_comm,cross,Fin.mul_comm]
 clear cross hG hd hX hZ key
 have hne:(y+w)*(y+w)+u*((w-y)*(w-y))≠0:=fun g=>by
  have g1:((y+w)*(y+w))*(1-dF*x*z*y*w)=0:=by
   generalize 1-dF*x*z*y*w=D at*
   have e1:((y+w)*(y+w))*(D-(y*w+x*z))= -((y+w)*(y+w))*(D+(y*w+x*z)):=by
    rw [cross2]
    clear cross2 hi hj hon hon' hp hq hm hpl hu2
    grobner
   have e2:2*((y+w)*(y+w)*D)=0:=by
    clear cross2 hi hj hon hon' hp hq hm hpl hu2 g
    grobner
   rcases Fw e2 with k | k
   ·exact absurd k Jy
   ·exact k
  have g2:y+w=0:=by
   rcases Fw g1 with k | k
   ·rcases Fw k with k | k<;>exact k
   ·exact absurd k hm
  have g3:w-y=0:=by
   rw [g2] at g
   have:u*((w-y)*(w-y))=0:=by rw [←g];clear cross2 hi hj hon hon' hp hq hm hpl hu2 g g1 g2;grobner
   rcases Fw this with k | k
   ·exact absurd k hu
   ·rcases Fw k with k | k<;>exact k
  have hy:y=0:=lO (by clear cross2 hi hj hon hon' hp hq hm hpl hu2 g g1;grobner)
  have hw:w=0:=by rw [hy] at g2;clear cross2 hi hj hon hon' hp hq hm hpl hu2 g g1 g3 hy;grobner
  subst hy;subst hw
  have hxx:x*x= -1:=by clear cross2 hi hj hon' hp hq hm hpl hu2 g g1 g2 g3;generalize dF=d at*;grobner
  have hzz:z*z= -1:=by clear cross2 hi hj hon hp hq hm hpl hu2 g g1 g2 g3 hxx;generalize dF=d at*;grobner
  have hs:(x*z)*(x*z)=1:=by
   have:(x*z)*(x*z)=(x*x)*(z*z):=by clear cross2 hi hj hon hon' hp hq hm hpl hu2 g g1 g2 g3 hxx hzz;grobner
   rw [this,hxx,hzz];decide+kernel
  have hu3:u*(1+x*z)=1-x*z:=by clear cross2 hi hj hon hon' hp hq hm hpl g g1 g2 g3 hxx hzz hs;generalize dF=d at*;grobner
  rcases st hs with k | k
  ·rw [k] at hu3
   have:2*u=0:=by clear cross2 hi hj hon hon' hp hq hm hpl hu2 g g1 g2 g3 hxx hzz hs k;grobner
   rcases Fw this with k | k
   ·exact Jy k
   ·exact hu k
  ·rw [k] at hu3
   have:(2:Fp)=0:=by clear cross2 hi hj hon hon' hp hq hm hpl hu2 g g1 g2 g3 hxx hzz hs k;grobner
   exact Jy this
 refine ⟨B9 2*(16*(c*c*(e*e)))*((y+w)*(y+w)+u*((w-y)*(w-y))),DI (DI (Xh Jy) (DI (by decide+kernel) (DI (DI hc hc) (DI he he)))) hne,?_,?_⟩
 ·show _=_*(1+(y*w+x*z)*B9 (1-dF*x*z*y*w))
  have h2:=Aq Jy
  clear hne hu2 hon hon' hp hq hj hpl
  generalize 1-dF*x*z*y*w=D at*
  generalize B9 D=i at*
  generalize B9 2=t at*
  generalize (y+w)*(y+w)=s at*
  generalize u*((w-y)*(w-y))=r at*
  generalize y*w+x*z=v at*
  have e1:(s+r)*(1+v*i)=2*s:=by
   have e2:(s+r)*(1+v*i)=(s+r)*(i*D+v*i):=by rw [hi]
   rw [e2]
   clear h2 hm hu hc he e2
   grobner
  have e3:t*(16*(c*c*(e*e)))*(s+r)*(1+v*i)=t*(16*(c*c*(e*e)))*((s+r)*(1+v*i)):=by clear e1 h2 hi cross2;grobner
  rw [e3,e1]
  clear e1 e3 hi cross2
  grobner
 ·show _=_*(1-(y*w+x*z)*B9 (1-dF*x*z*y*w))
  have h2:=Aq Jy
  clear hne hu2 hon hon' hp hq hj hpl
  generalize 1-dF*x*z*y*w=D at*
  generalize B9 D=i at*
  generalize B9 2=t at*
  generalize (y+w)*(y+w)=s at*
  have e0:u*(16*(c*c*(e*e))*((w-y)*(w-y)))=16*(c*c*(e*e))*(u*((w-y)*(w-y))):=by clear cross2 hi h2;grobner
  rw [e0]
  generalize u*((w-y)*(w-y))=r at*
  generalize y*w+x*z=v at*
  have e1:(s+r)*(1-v*i)=2*r:=by
   have e2:(s+r)*(1-v*i)=(s+r)*(i*D-v*i):=by rw [hi]
   rw [e2]
   clear h2 hm hu hc he e2 e0
   grobner
  have e3:t*(16*(c*c*(e*e)))*(s+r)*(1-v*i)=t*(16*(c*c*(e*e)))*((s+r)*(1-v*i)):=by clear e1 h2 hi cross2 e0;grobner
  rw [e3,e1]
  clear e1 e3 hi cross2 e0
  grobner
abbrev M4:=Fp×Fp×Fp×Fp
def PS(u:Fp)(b:Bool)(s:M4):M4:=
 match b with
 |false=>((XJ s.1 s.2.1).1,(XJ s.1 s.2.1).2,(S5 u s.1 s.2.1 s.2.2.1 s.2.2.2).1,(S5 u s.1 s.2.1 s.2.2.1 s.2.2.2).2)
 |true=>((S5 u s.2.2.1 s.2.2.2 s.1 s.2.1).1,(S5 u s.2.2.1 s.2.2.2 s.1 s.2.1).2,(XJ s.2.2.1 s.2.2.2).1,(XJ s.2.2.1 s.2.2.2).2)
def Tl(u:Fp)(k:Nat):Nat→M4
 |0=>(1,0,u,1)
 |j+1=>PS u (k.testBit (254-j)) (Tl u k j)
def xO(u:Fp)(k:Nat):Fp:=(Tl u k 255).1*B9 (Tl u k 255).2.1
theorem Uv(p:Pt):GW p 1=p:=Wn p
theorem V4{p:Pt}(h:On p)(m:Nat):ED (GW p (m+1)) (M7 (GW p m))=p:=by
 rw [Nat.add_comm m 1,HE h,Uv,VB h (IX h m) (lw (IX h m)),jz (IX h m),O8]
theorem gf{p q:Pt}:M7 (ED p q)=ED (M7 p) (M7 q):=by
 obtain ⟨x,y⟩:=p
 obtain ⟨z,w⟩:=q
 unfold ED M7
 simp only
 have e1:dF* -x* -z*y*w=dF*x*z*y*w:=by generalize dF=d;grobner
 rw [e1]
 congr 1
 ·generalize B9 (1+dF*x*z*y*w)=i;grobner
 ·generalize B9 (1-dF*x*z*y*w)=i;grobner
theorem jW(p:Pt):M7 (M7 p)=p:=by
 obtain ⟨x,y⟩:=p
 unfold M7
 simp only
 congr 1
 grobner
theorem dr{p:Pt}(h:On p)(m:Nat):ED (GW p m) (M7 (GW p (m+1)))=M7 p:=by
 have:=congrArg M7 (V4 h m)
 rw [gf,jW,V5] at this
 exact this
theorem vC{p:Pt}(h:Rw p≠0):Rw p*(1-p.y)=1+p.y:=by
 have h1:=Aq (lr h)
 unfold Rw
 generalize 1-p.y=D at*
 generalize B9 D=i at*
 clear h
 grobner
theorem br(k j:Nat)(hj:j<255):k>>>(254-j)=2*(k>>>(255-j))+(if k.testBit (254-j)=true then 1 else 0):=by
 have e:255-j=(254-j)+1:=by omega
 rw [e,Nat.shiftRight_add,Nat.testBit_eq_decide_div_mod_eq,Nat.shiftRight_eq_div_pow,Nat.shiftRight_eq_div_pow]
 generalize k/2^(254-j)=n
 by_cases h:n%2=1<;>simp [h]<;>omega
theorem oo{p:Pt}(hp:On p)(hu:Rw p≠0){k:Nat}(hk:k<2^255)(j:Nat)(hj:j≤255):
  Mg (Tl (Rw p) k j).1 (Tl (Rw p) k j).2.1 (GW p (k>>>(255-j)))∧Mg (Tl (Rw p) k j).2.2.1 (Tl (Rw p) k j).2.2.2 (GW p (k>>>(255-j)+1)):=by
 induction j with
 |zero=>
  have e:k>>>255=0:=by rw [Nat.shiftRight_eq_div_pow,Nat.div_eq_of_lt hk]
  rw [Nat.sub_zero,e]
  refine ⟨qH,?_⟩
  rw [Nat.zero_add,Uv]
  exact tQ hu
 |succ j ih=>
  obtain ⟨h1,h2⟩:=ih O_
  have e:255-(j+1)=254-j:=by omega
  rw [e,br k j O_]
  generalize k>>>(255-j)=m at h1 h2
  have o1:=IX hp m
  have o2:=IX hp (m+1)
  have hd:=vC hu
  show Mg (PS _ _ _).1 (PS _ _ _).2.1 _∧Mg (PS _ _ _).2.2.1 (PS _ _ _).2.2.2 _
  generalize Tl (Rw p) k j=s at h1 h2
  cases k.testBit (254-j) with
  |false=>
   simp only [PS,Bool.false_eq_true,if_false]
   refine ⟨?_,?_⟩
   ·have:=fQ o1 h1
    rwa [←HE hp,show m+m=2*m+0 by omega] at this
   ·have:=fe o1 o2 h1 h2 hu (by rw [V4 hp];exact hd)
    rwa [←HE hp,show m+(m+1)=2*m+0+1 by omega] at this
  |true=>
   simp only [PS,if_true]
   refine ⟨?_,?_⟩
   ·have:=fe o2 o1 h2 h1 hu (by rw [dr hp];exact hd)
    rwa [←HE hp,show m+1+m=2*m+1 by omega] at this
   ·have:=fQ o2 h2
    rwa [←HE hp,show m+1+(m+1)=2*m+1+1 by omega] at this
theorem bG{p:Pt}(hp:On p)(hu:Rw p≠0){k:Nat}(hk:k<2^255):xO (Rw p) k=Rw (GW p k):=by
 have:=(oo hp hu hk 255 (Nat.le_refl _)).1
 rw [Nat.sub_self,Nat.shiftRight_zero] at this
 exact this.out
theorem Ye{p:Pt}(hp:On p)(h:Rw p=0):ED p p=HP:=by
 have hy:p.y=1∨p.y= -1:=by
  unfold Rw at h
  rcases Fw h with g | g
  ·right;clear h;grobner
  ·left
   by_cases e:1-p.y=0
   ·clear h g;grobner
   ·exact absurd g (Xh e)
 have hyy:p.y*p.y=1:=by rcases hy with e | e<;>rw [e]<;>decide+kernel
 obtain ⟨x,y⟩:=p
 have hon:y*y-x*x=1+dF*(x*x*(y*y)):=hp
 simp only at hyy
 rw [hyy] at hon
 have hx:x*x*(1+dF)=0:=by clear hp h hy;generalize dF=d at*;grobner
 have hx0:x=0:=by
  rcases Fw hx with g | g
  ·rcases Fw g with g | g<;>exact g
  ·exact absurd g (by unfold dF;decide+kernel)
 subst hx0
 unfold ED HP
 simp only
 rw [show (1:Fp)-dF*0*0*y*y=1 by generalize dF=d;grobner,fJ,hyy]
 congr 1
 ·grobner
theorem bK:Rw VY=zf 9:=by
 unfold Rw
 have h:zf 9*(1-VY.y)=1+VY.y:=by unfold VY bY;decide+kernel
 have hn:1-VY.y≠0:=by unfold VY bY;decide+kernel
 have hi:=Aq hn
 generalize 1-VY.y=D at*
 generalize 1+VY.y=E at*
 generalize B9 D=i at*
 subst h
 generalize zf 9=n
 clear hn
 grobner
end Go.Proofs.YtmbepikkgkcgkaaGreatDoor
namespace Go.Proofs.YtmbepikkgkcgkaaGreatDoor
open Go.RowKit
variable {g r : Prop}
open Go.Proofs.Tryz
def TL(x:AB 64)(v:Fp):Prop:=Ct x∧LF x=v
theorem TL.add{a b:AB 64}{u v:Fp}(h:TL a u)(k:TL b v):TL (As a b) (u+v):=by
 obtain ⟨h1,rfl⟩:=h;obtain ⟨k1,rfl⟩:=k;rw [eG _ _ h1.1 k1.1];exact IQ h1 k1
theorem TL.sub{a b:AB 64}{u v:Fp}(h:TL a u)(k:TL b v):TL (Ar a b) (u-v):=by
 obtain ⟨h1,rfl⟩:=h;obtain ⟨k1,rfl⟩:=k;rw [fj _ _ h1.1 k1.1];exact JT h1 k1
theorem TL.mul{a b:AB 64}{u v:Fp}(h:TL a u)(k:TL b v):TL (Ap a b) (u*v):=by
 obtain ⟨h1,rfl⟩:=h;obtain ⟨k1,rfl⟩:=k;rw [ek _ _ h1.1 k1.1];exact CG h1 k1
theorem TL.aM:TL (Ld 121665#64) aM:=by rw [TU];exact Di (x:=121665#64) D_
theorem TL.one:TL (Ld 1#64) 1:=by rw [TU];exact Di (x:=1#64) D_
theorem TL.of(b:AB 8)(hb:b.length=32):TL (eH b) (Z b):=by rw [mL b hb];exact qv b
theorem TL.zero:TL (Ld 0#64) 0:=by rw [TU];exact Di (x:=0#64) D_
def TL4(x:AB 64×AB 64×AB 64×AB 64)(s:M4):Prop:=TL x.1 s.1∧TL x.2.1 s.2.1∧TL x.2.2.1 s.2.2.1∧TL x.2.2.2 s.2.2.2
def uP(place:AB 8):Fp:=Z (put place 31 ((nth place 31)&&&127#8))
def kN(key:AB 8):Nat:=EI (Fr key) 32
theorem uX(key place:AB 8)(hkey:key.length=32)(hplace:place.length=32):∀j,j≤255→TL4 (Az key place j) (Tl (uP place) (kN key) j):=by
 intro j
 induction j with
 |zero=>exact fun _=>⟨.one,.zero,.of _ (by simpa using hplace),.one⟩
 |succ j ih=>
  intro hj
  have h:=ih O_
  have hu:TL (eH (put place 31 ((nth place 31)&&&127#8))) (uP place):= .of _ (by simpa using hplace)
  rw [Az.eq_2,KM,fH key hkey]
  show TL4 _ (PS _ _ _)
  rw [Nat.testBit_eq_decide_div_mod_eq,Xt _ _ O_]
  generalize Az key place j=x at h
  generalize Tl (uP place) (kN key) j=s at h
  obtain ⟨h1,h2,h3,h4⟩:=h
  unfold kN
  by_cases hb:EI (Fr key) 32/2^(254-j)%2=1
  ·rw [decide_eq_true hb]
   simp only [if_true,PS,S5,XJ,Ep,D8,Ej,D7]
   exact ⟨.mul (.add (.mul (.sub h1 h2) (.add h3 h4)) (.mul (.add h1 h2) (.sub h3 h4))) (.add (.mul (.sub h1 h2) (.add h3 h4)) (.mul (.add h1 h2) (.sub h3 h4))),
    .mul hu (.mul (.sub (.mul (.sub h1 h2) (.add h3 h4)) (.mul (.add h1 h2) (.sub h3 h4))) (.sub (.mul (.sub h1 h2) (.add h3 h4)) (.mul (.add h1 h2) (.sub h3 h4)))),
    .mul (.mul (.add h3 h4) (.add h3 h4)) (.mul (.sub h3 h4) (.sub h3 h4)),
    .mul (.sub (.mul (.add h3 h4) (.add h3 h4)) (.mul (.sub h3 h4) (.sub h3 h4))) (.add (.mul (.add h3 h4) (.add h3 h4)) (.mul .aM (.sub (.mul (.add h3 h4) (.add h3 h4)) (.mul (.sub h3 h4) (.sub h3 h4)))))⟩
  ·rw [decide_eq_false hb]
   simp only [Bool.false_eq_true,if_false,PS,S5,XJ,Ep,D8,Ej,D7]
   exact ⟨.mul (.mul (.add h1 h2) (.add h1 h2)) (.mul (.sub h1 h2) (.sub h1 h2)),
    .mul (.sub (.mul (.add h1 h2) (.add h1 h2)) (.mul (.sub h1 h2) (.sub h1 h2))) (.add (.mul (.add h1 h2) (.add h1 h2)) (.mul .aM (.sub (.mul (.add h1 h2) (.add h1 h2)) (.mul (.sub h1 h2) (.sub h1 h2))))),
    .mul (.add (.mul (.sub h3 h4) (.add h1 h2)) (.mul (.add h3 h4) (.sub h1 h2))) (.add (.mul (.sub h3 h4) (.add h1 h2)) (.mul (.add h3 h4) (.sub h1 h2))),
    .mul hu (.mul (.sub (.mul (.sub h3 h4) (.add h1 h2)) (.mul (.add h3 h4) (.sub h1 h2))) (.sub (.mul (.sub h3 h4) (.add h1 h2)) (.mul (.add h3 h4) (.sub h1 h2))))⟩
def RD(key place:AB 8):AB 8:=F (xO (uP place) (kN key))
@[simp] theorem JC(key place:AB 8):(RD key place).length=32:=ap _
theorem nC(key place:AB 8)(hkey:key.length=32)(hplace:place.length=32):VU key place=RD key place:=by
 unfold VU RD
 obtain ⟨h1,h2,-,-⟩:=uX key place hkey hplace 255 (Nat.le_refl _)
 obtain ⟨i1,i2⟩:=U3 h2.1
 rw [h2.2] at i2
 have hq:TL (Va (Az key place 255).2.1) (B9 (Tl (uP place) (kN key) 255).2.1):=by rw [eV _ h2.1.1];exact ⟨i1,i2⟩
 have:=TL.mul h1 hq
 rw [lu _ this.1.1,Je this.1,this.2]
 rfl
theorem mx(key place:AB 8)(hkey:key.length=32)(hplace:place.length=32):Ev prog (.call 115 [Co key,Co place] []) (.val (Co (RD key place)) []):=by
 rw [←nC key place hkey hplace];exact iG key place hkey hplace
theorem uy(n j:Nat):nth (Am n) j=0#8:=by
 unfold nth Am
 rw [List.getD_eq_getElem?_getD,List.getElem?_replicate]
 split<;>rfl
theorem qF{n:Nat}(l:AB n)(i:Nat)(h:l.length≤i):nth l i=0:=by
 unfold nth;rw [List.getD_eq_getElem?_getD,List.getElem?_eq_none h];rfl
theorem pY{n:Nat}{a b:AB n}(hl:a.length=b.length)(h:∀i,i<a.length→nth a i=nth b i):a=b:=by
 refine List.ext_getElem hl fun i h1 h2=>?_
 have:=h i h1
 rwa [Pm a i h1,Pm b i h2] at this
def dI(k:AB 8)(c:BitVec 8):AB 8:=(List.range 64).map fun i=>nth k i^^^c
theorem bF(k:AB 8)(c:BitVec 8):(dI k c).length=64:=by simp [dI]
theorem lP(k:AB 8)(c:BitVec 8)(i:Nat)(h:i<64):nth (dI k c) i=nth k i^^^c:=by
 rw [Pm _ _ (by rw [bF];exact h)]
 simp [dI]
def qN(k b:AB 8):AB 8:=Aa (dI k 92#8++Aa (dI k 54#8++b))
def OO(c:BitVec 8)(l:AB 8):Nat→AB 8
 |0=>l
 |j+1=>put (OO c l j) j (nth (OO c l j) j^^^c)
theorem Rp(c:BitVec 8)(l:AB 8)(j:Nat):(OO c l j).length=l.length:=by
 induction j with
 |zero=>rfl
 |succ j ih=>rw [OO,Bp,ih]
theorem iD(c:BitVec 8)(l:AB 8)(i:Nat):∀j,j≤l.length→nth (OO c l j) i=if i<j then nth l i^^^c else nth l i:=by
 intro j
 induction j with
 |zero=>intro _;rw [if_neg O_];rfl
 |succ j ih=>
  intro hj
  rw [OO,C3 _ _ _ _ (by rw [Rp];omega)]
  by_cases e:j=i
  ·subst e;rw [if_pos rfl,if_pos O_,ih O_,if_neg O_]
  ·rw [if_neg e,ih O_]
   by_cases h:i<j
   ·rw [if_pos h,if_pos O_]
   ·rw [if_neg h,if_neg O_]
theorem iB(k:AB 8)(i:Nat)(h:k.length≤64):nth (over (Am 64) 0 k) i=nth k i:=by
 unfold nth
 rw [IOq _ _ _ _ _ (by simp;exact h)]
 by_cases hi:i<k.length
 ·rw [if_pos O_];rfl
 ·rw [if_neg O_]
  have h1:=uy 64 i
  have h2:=qF k i O_
  unfold nth at h1 h2
  rw [h1,h2];rfl
theorem TC(c:BitVec 8)(k:AB 8)(h:k.length≤64):OO c (over (Am 64) 0 k) 64=dI k c:=by
 have hl:(over (Am 64) 0 k).length=64:=by rw [nS];simp;omega
 refine pY (by rw [Rp,bF,hl]) fun i hi=>?_
 rw [Rp,hl] at hi
 rw [iD _ _ _ 64 (by rw [hl];omega),if_pos hi,lP _ _ _ hi,iB k i h]
theorem s8(key:AB 8)(j:Nat):BY key j=(OO 54#8 (over (Am 64) 0 (cut key 0 (min key.length 64))) j,OO 92#8 (over (Am 64) 0 (cut key 0 (min key.length 64))) j):=by
 induction j with
 |zero=>rfl
 |succ j ih=>rw [BY.eq_2,ih];rfl
theorem l8(key:AB 8)(j:Nat):BV key j=(OO 54#8 (over (Am 64) 0 (Aa key)) j,OO 92#8 (over (Am 64) 0 (Aa key)) j):=by
 induction j with
 |zero=>rfl
 |succ j ih=>rw [BV.eq_2,ih];rfl
def keyOf(key:AB 8):AB 8:=if 64<key.length then Aa key else key
theorem aP(key b:AB 8):Gq key b=qN (keyOf key) b:=by
 unfold Gq keyOf
 split
 ·unfold Mc qN
  rw [l8,TC _ _ (by simp),TC _ _ (by simp)]
 ·unfold MD qN
  rename_i h
  rw [s8,show min key.length 64=key.length by omega,HD rfl,TC _ _ O_,TC _ _ O_]
theorem iJ(key:AB 8)(kn kcap:Nat)(b:AB 8)(n cap:Nat)(hkey:key.length=kn)(hkn:kn≤1099511627776)(hb:b.length=n)(hn:n≤1099511627776):Ev prog (.call 80 [.c (.sl 0 0 kn kcap 1),.c (.sl 1 0 n cap 1)] [B1 (key),B1 (b)]) (.val (Co (Gq key b)) [B1 (key),B1 (b)]):=by
 subst hkey
 subst hb
 refine AJ func80 rfl ntmps80 rfl AN ?_;refine JU ?_;refine FK ?_;refine VG (V8 key key.length kcap b b.length cap AD AD AD AD) mf ?_;refine Is ?_;refine AM ?_;have hQ1:(Gq key b).length=32:=Au
 refine S_ ?_;exact Eo
def ML(X1:AB 8):AB 8:=X1++[0#8]
def DY(tx:AB 8):Nat→AB 8
 |0=>tx++[128#8]
 |j3+1=>ML (DY tx j3)
@[simp] theorem JS(tx:AB 8)(j3:Nat):(DY tx j3).length=(tx.length+1)+j3:=by
 induction j3 with
 |zero=>(simp [DY, *];done)
 |succ j3 ih=>rw [DY.eq_2,ML];(simp [ih];omega)
def GD(tx:AB 8):AB 8:=DQ (DQ (DY tx ((240-(tx.length+1)%128)%128)) ((BitVec.ofNat 64 tx.length)>>>61)) ((BitVec.ofNat 64 tx.length)<<<3)
theorem ct(b:AB 8)(o n cap:Nat)(hb:o+n≤b.length)(hn:n≤4398046511104):Ev prog (.call 61 [.c (.sl 0 o n cap 1),Aj ((128:Nat):Int),Aj ((16:Nat):Int)] [B1 (b)]) (.val (.c (.sl 1 0 ((((n+1)+(240-(n+1)%128)%128)+8)+8) ((((n+1)+(240-(n+1)%128)%128)+8)+8) 1)) [B1 (b),CP (GD (cut b o n))]):=by
 have hP:=Hid.mk (GD.eq_1 (cut b o n))
 have htx:(cut b o n).length=n:=by rw [Cg];omega
 try simp only [htx] at hP
 refine AJ func61 rfl ntmps61 rfl AN ?_;refine P7 ?_;refine IZ ?_;refine AO ?_;refine Rj ?_;refine AY ?_;refine A2 (Wf (l:=[128#8]) underlying23 HL rfl rfl D_ D_ AN) AK rfl ?_;refine Cl ?_;refine A7 ?_;refine AT [0,1,2,7] (fun (zz:Nat×AB 8)=>⟨41,AQ [0,1,2,7] [.c (.sl 0 o n cap 1),Aj (((128:Nat):Int)),Aj (((16:Nat):Int)),.c (.sl 1 0 ((n+1)+zz.1) ((n+1)+zz.1) 1)],[B1 (b),CP (zz.2)]⟩) (fun j3=>(j3,DY (cut b o n) j3)) ((240-(n+1)%128)%128) K_ ?_ ?_
 ·intro j3 hj3
  try dsimp only
  have hX1:(DY (cut b o n) j3).length=(n+1)+j3:=by rw [JS (cut b o n) _];try omega
  rw [DY.eq_2,ML]
  try simp only [htx]
  generalize DY (cut b o n) j3=X1 at*
  refine Fv ?_;refine AO ?_;refine AA (IS (b:=128) rfl rfl O_ O_) rfl ?_;refine Fa ?_;refine AA (FN (a:=128) (b:=16) rfl rfl O_ O_) rfl ?_;refine AA (GL (b:=112) rfl rfl) rfl ?_;refine AW ?_;refine Ur ?_;refine Cl ?_;refine Bv ?_;exact ⟨(j3+1,_),K_,rfl⟩
 ·try dsimp only
  have hY2:(DY (cut b o n) ((240-(n+1)%128)%128)).length=(n+1)+(240-(n+1)%128)%128:=by rw [JS (cut b o n) _];try omega
  generalize DY (cut b o n) ((240-(n+1)%128)%128)=Y2 at*
  refine Fv ?_;refine AO ?_;refine AA (IS (b:=128) rfl rfl O_ O_) rfl ?_;refine Fa ?_;refine AA (FN (a:=128) (b:=16) rfl rfl O_ O_) rfl ?_;refine AA (GL (b:=112) rfl rfl) rfl ?_;refine AW ?_;refine Bt ?_;refine aQ ?_;refine AY ?_;refine AS ?_;refine AA (B4 (a:=16) (b:=16) rfl rfl) rfl ?_;refine Bv ?_;have hQ3:(DQ Y2 ((BitVec.ofNat 64 n)>>>61)).length=((n+1)+(240-(n+1)%128)%128)+8:=Au
  refine BD ?_;refine AA (CQ (j:=61) rfl rfl) rfl ?_;refine DK (Eg (bs:=[1]) (Mo Y2 ((n+1)+(240-(n+1)%128)%128) ((n+1)+(240-(n+1)%128)%128) ((BitVec.ofNat 64 n)>>>61) AD AD) dW K_ rfl rfl Bb AK) rfl ?_;refine Bv ?_;have hQ4:(DQ (DQ Y2 ((BitVec.ofNat 64 n)>>>61)) ((BitVec.ofNat 64 n)<<<3)).length=(((n+1)+(240-(n+1)%128)%128)+8)+8:=Au
  refine BD ?_;refine AA (B2 (j:=3) rfl rfl) rfl ?_;refine YN (Mo (DQ Y2 ((BitVec.ofNat 64 n)>>>61)) (((n+1)+(240-(n+1)%128)%128)+8) (((n+1)+(240-(n+1)%128)%128)+8) ((BitVec.ofNat 64 n)<<<3) AD AD) dW ?_;refine AY ?_;refine A7 ?_;rw [hP.out]
  exact FB
@[simp] theorem rJ(tx:AB 8):(GD tx).length=(((tx.length+1)+(240-(tx.length+1)%128)%128)+8)+8:=by
 unfold GD
 (simp [JS, *];done)
attribute [irreducible] GD
def NT(tx:AB 8)(j4:Nat)(X4:AB 64)(j8:Nat):AB 64:=if j8<16 then put X4 j8 (QU (GD tx) ((128*j4)+(8*j8)) (((8*j8)+8)-(8*j8))) else put X4 j8 ((((nth X4 (j8-16))+(((F0 (nth X4 (j8-15)) (-1))^^^(F0 (nth X4 (j8-15)) (-8)))^^^((nth X4 (j8-15))>>>7)))+(nth X4 (j8-7)))+(((F0 (nth X4 (j8-2)) (-19))^^^(F0 (nth X4 (j8-2)) (-61)))^^^((nth X4 (j8-2))>>>6)))
def EZ(tx:AB 8)(j4:Nat):Nat→AB 64
 |0=>Af 80
 |j8+1=>NT tx j4 (EZ tx j4 j8) j8
@[simp] theorem Hw(tx:AB 8)(j4 j8:Nat):(EZ tx j4 j8).length=80:=by
 induction j8 with
 |zero=>(simp [EZ, *];done)
 |succ j8 ih=>rw [EZ.eq_2,NT];(split<;>first | (simp [ih];done) | (simp [ih];omega) | (simp [*];done))
def MX(Y5 X6:AB 64)(j19:Nat):AB 64:=[(((((nth X6 7)+(((F0 (nth X6 4) (-14))^^^(F0 (nth X6 4) (-18)))^^^(F0 (nth X6 4) (-41))))+(((nth X6 4)&&&(nth X6 5))^^^((~~~(nth X6 4))&&&(nth X6 6))))+(nth GF j19))+(nth Y5 j19))+((((F0 (nth X6 0) (-28))^^^(F0 (nth X6 0) (-34)))^^^(F0 (nth X6 0) (-39)))+((((nth X6 0)&&&(nth X6 1))^^^((nth X6 0)&&&(nth X6 2)))^^^((nth X6 1)&&&(nth X6 2)))),nth X6 0,nth X6 1,nth X6 2,(nth X6 3)+(((((nth X6 7)+(((F0 (nth X6 4) (-14))^^^(F0 (nth X6 4) (-18)))^^^(F0 (nth X6 4) (-41))))+(((nth X6 4)&&&(nth X6 5))^^^((~~~(nth X6 4))&&&(nth X6 6))))+(nth GF j19))+(nth Y5 j19)),nth X6 4,nth X6 5,nth X6 6]
def Dh(X3 Y5:AB 64):Nat→AB 64
 |0=>X3
 |j19+1=>MX Y5 (Dh X3 Y5 j19) j19
theorem HM(X3 Y5:AB 64)(hX3:X3.length=8)(_hY5:Y5.length=80)(j19:Nat):(Dh X3 Y5 j19).length=8:=by
 induction j19 with
 |zero=>(simp [Dh, *];done)
 |succ j19 ih=>rw [Dh.eq_2,MX];(simp;done)
def Lo(Y7 X8:AB 64)(j29:Nat):AB 64:=put X8 j29 ((nth X8 j29)+(nth Y7 j29))
def DZ(X3 Y7:AB 64):Nat→AB 64
 |0=>X3
 |j29+1=>Lo Y7 (DZ X3 Y7 j29) j29
theorem Gf(X3 Y7:AB 64)(hX3:X3.length=8)(j29:Nat):(DZ X3 Y7 j29).length=8:=by
 induction j29 with
 |zero=>(simp [DZ, *];done)
 |succ j29 ih=>rw [DZ.eq_2,Lo];(simp [ih];done)
def Nl(tx:AB 8)(X3:AB 64)(j4:Nat):AB 64:=(DZ X3 (Dh X3 (EZ tx j4 80) 80) 8)
def EM(tx:AB 8):Nat→AB 64
 |0=>[7640891576956012808#64,13503953896175478587#64,4354685564936845355#64,11912009170470909681#64,5840696475078001361#64,11170449401992604703#64,2270897969802886507#64,6620516959819538809#64]
 |j4+1=>Nl tx (EM tx j4) j4
@[simp] theorem K6(tx:AB 8)(j4:Nat):(EM tx j4).length=8:=by
 induction j4 with
 |zero=>(simp [EM, *];done)
 |succ j4 ih=>rw [EM.eq_2,Nl];(simp [Gf, *];done)
def L7(Y11:AB 64)(X12:AB 8)(j35:Nat):AB 8:=put X12 j35 (((nth Y11 (j35/8))>>>(56-(8*(j35%8)))).setWidth 8)
def De(Y11:AB 64):Nat→AB 8
 |0=>Am 64
 |j35+1=>L7 Y11 (De Y11 j35) j35
@[simp] theorem JL(Y11:AB 64)(j35:Nat):(De Y11 j35).length=64:=by
 induction j35 with
 |zero=>(simp [De, *];done)
 |succ j35 ih=>rw [De.eq_2,L7];(simp [ih];done)
def Dv(tx:AB 8):AB 8:=(De (EM tx ((tx.length+144)/128)) 64)
theorem SO(k:r)(h:Hid r→g:=by intro h;refine AE (AP rfl rfl underlying201 BN O_) rfl ?_;exact h.out):g:=h ⟨k⟩
theorem Kd(k:r)(h:Hid r→g:=by intro h;refine AA (gD rfl rfl) rfl ?_;exact h.out):g:=h ⟨k⟩
theorem dL(k:r)(h:Hid r→g:=by intro h;refine AA (AP (j:=1) rfl rfl underlying153 BN O_) rfl ?_;exact h.out):g:=h ⟨k⟩
theorem cw(k:r)(h:Hid r→g:=by intro h;refine AA (AP (j:=2) rfl rfl underlying153 BN O_) rfl ?_;exact h.out):g:=h ⟨k⟩
theorem ba(k:r)(h:Hid r→g:=by intro h;refine AE (AP rfl rfl underlying153 BN O_) rfl ?_;exact h.out):g:=h ⟨k⟩
theorem io(b:AB 8)(o n cap:Nat)(hb:o+n≤b.length)(hn:n≤2199023255552):Ev prog (.call 129 [.c (.sl 0 o n cap 1)] [B1 (b)]) (.val (Co (Dv (cut b o n))) [B1 (b)]):=by
 have hP:=Hid.mk (Dv.eq_1 (cut b o n))
 have htx:(cut b o n).length=n:=by rw [Cg];omega
 try simp only [htx] at hP
 refine AJ func129 rfl ntmps129 rfl AN ?_;refine AG ?_;refine J3 ?_;refine AS ?_;refine AA (PE (l:=[7640891576956012808#64,13503953896175478587#64,4354685564936845355#64,11912009170470909681#64,5840696475078001361#64,11170449401992604703#64,2270897969802886507#64,6620516959819538809#64]) oO underlying153 BN rfl rfl D_) rfl ?_;refine A2 (BR kf AN) AK rfl ?_;refine B0 rfl rfl rfl rfl YR C7 C7 AK ?_;refine AM ?_;have hQ1:(GF).length=80:=Au
 refine AG ?_;refine BL (dy) uU ?_;refine Bv ?_;have hQ2:(GD (cut b o n)).length=(((n+1)+(240-(n+1)%128)%128)+8)+8:=Au
 refine BC ?_;refine Mq (ct b o n cap AD AD) sH ?_;refine A7 ?_;refine AT [2,3,4,5] (fun (zz:Nat×AB 64)=>⟨200,AQ [2,3,4,5] [Ai 1,Ai 2,.c (.sl 3 0 80 80 1),.c (.sl 4 (128*zz.1) (((((n+1)+(240-(n+1)%128)%128)+8)+8)-128*zz.1) (((((n+1)+(240-(n+1)%128)%128)+8)+8)-128*zz.1) 1)],[B1 (b),CP (Am 64),CA (zz.2),CA (GF),CP (GD (cut b o n))]⟩) (fun j4=>(j4,EM (cut b o n) j4)) ((n+144)/128) K_ ?_ ?_
 ·intro j4 hj4
  try dsimp only
  have hX3:(EM (cut b o n) j4).length=8:=by rw [K6 (cut b o n) _];try omega
  rw [EM.eq_2,Nl]
  try simp only [htx]
  generalize EM (cut b o n) j4=X3 at*
  refine Fv ?_;refine MU ?_;refine AS ?_;refine A2 (BR tr AN) AK rfl ?_;refine DF ?_;refine AT [2,3,4,5,6,32] (fun (zz:Nat×AB 64)=>⟨200,AQ [2,3,4,5,6,32] [Ai 1,Ai 2,.c (.sl 3 0 80 80 1),.c (.sl 4 (128*j4) (((((n+1)+(240-(n+1)%128)%128)+8)+8)-128*j4) (((((n+1)+(240-(n+1)%128)%128)+8)+8)-128*j4) 1),Ai 5,Aj (((zz.1:Nat):Int))],[B1 (b),CP (Am 64),CA (X3),CA (GF),CP (GD (cut b o n)),CA (zz.2)]⟩) (fun j8=>(j8,EZ (cut b o n) j4 j8)) (80) K_ ?_ ?_
  ·intro j8 hj8
   try dsimp only
   have hX4:(EZ (cut b o n) j4 j8).length=80:=by rw [Hw (cut b o n) j4 _];try omega
   rw [EZ.eq_2,NT]
   try simp only [htx]
   generalize EZ (cut b o n) j4 j8=X4 at*
   refine AG ?_;refine AA (BE (b:=80) rfl rfl) rfl ?_;refine AW ?_;refine AY ?_;refine AA (BE (b:=16) rfl rfl) rfl ?_;refine E6 ?_;by_cases hc5:j8<16
   ·try simp only [if_pos hc5] at*
    refine EH rfl (decide_eq_true hc5) ?_;refine BD ?_;refine AO ?_;refine JP ?_;refine AO ?_;refine JP ?_;refine AA (Dx (b:=8) rfl rfl O_) rfl ?_;refine AA (Yj rfl underlying23 CE rfl rfl O_ O_) rfl ?_;refine Bq (AZ (bs:=[4]) (UE (GD (cut b o n)) ((128*j4)+(8*j8)) (((8*j8)+8)-(8*j8)) ((((((n+1)+(240-(n+1)%128)%128)+8)+8)-128*j4)-(8*j8)) AD AD) sM K_ K_ rfl Bb) AK rfl ?_;refine AA (AP rfl rfl underlying201 BN O_) rfl ?_;refine FR ?_;exact ⟨(j8+1,_),K_,rfl⟩
   ·try simp only [if_neg hc5] at*
    refine Bn rfl (decide_eq_false hc5) ?_;refine S_ ?_;refine RG ?_;refine A0 ?_;refine AE (FN (b:=15) rfl rfl O_ O_) rfl ?_;refine SO ?_;refine Hm ?_;refine AE (FN (b:=2) rfl rfl O_ O_) rfl ?_;refine SO ?_;refine G6 ?_;refine Ky ?_;refine AW ?_;refine BL (E2 (nth X4 (j8-15)) (-1)) KZ ?_;refine AO ?_;refine BL (E2 (nth X4 (j8-15)) (-8)) KZ ?_;refine Kd ?_;refine AO ?_;refine AA (CQ (j:=7) rfl rfl) rfl ?_;refine Kd ?_;refine AY ?_;refine BL (E2 (nth X4 (j8-2)) (-19)) KZ ?_;refine AO ?_;refine BL (E2 (nth X4 (j8-2)) (-61)) KZ ?_;refine Kd ?_;refine AO ?_;refine AA (CQ (j:=6) rfl rfl) rfl ?_;refine Kd ?_;refine A7 ?_;refine EQ 15 mixed K_ rfl rfl rfl ?_;refine By ?_;refine AE (FN (b:=16) rfl rfl O_ O_) rfl ?_;refine SO ?_;refine Hm ?_;refine Jq ?_;refine A0 ?_;refine AE (FN (b:=7) rfl rfl O_ O_) rfl ?_;refine SO ?_;refine G6 ?_;refine Jq ?_;refine A0 ?_;refine Jq ?_;refine SO ?_;refine Bc ?_;refine FR ?_;exact ⟨(j8+1,_),K_,rfl⟩
  ·try dsimp only
   have hY6:(EZ (cut b o n) j4 80).length=80:=by rw [Hw (cut b o n) j4 _];try omega
   generalize EZ (cut b o n) j4 80=Y6 at*
   refine AG ?_;refine AA (BE (a:=80) (b:=80) rfl rfl) rfl ?_;refine AS ?_;refine AA (Bi rfl rfl pP YR C7 D_) rfl ?_;refine A2 (BR kf AN) AK rfl ?_;refine B0 rfl rfl rfl rfl YR C7 C7 AK ?_;refine DF ?_;refine AT [2,3,4,5,6,12,88] (fun (zz:Nat×AB 64)=>⟨200,AQ [2,3,4,5,6,12,88] [Ai 1,Ai 2,.c (.sl 3 0 80 80 1),.c (.sl 4 (128*j4) (((((n+1)+(240-(n+1)%128)%128)+8)+8)-128*j4) (((((n+1)+(240-(n+1)%128)%128)+8)+8)-128*j4) 1),Ai 5,Ai 6,Aj (((zz.1:Nat):Int))],[B1 (b),CP (Am 64),CA (X3),CA (GF),CP (GD (cut b o n)),CA (Y6),CA (zz.2)]⟩) (fun j19=>(j19,Dh X3 Y6 j19)) (80) K_ ?_ ?_
   ·intro j19 hj19
    try dsimp only
    have hX7:(Dh X3 Y6 j19).length=8:=by rw [HM X3 Y6 hX3 hY6 _];try omega
    rw [Dh.eq_2,MX]
    try simp only [htx]
    generalize Dh X3 Y6 j19=X7 at*
    refine AG ?_;refine AA (BE (b:=80) rfl rfl) rfl ?_;refine CU ?_;refine R9 ?_;refine AE (AP (j:=4) rfl rfl underlying153 BN O_) rfl ?_;refine G6 ?_;refine AE (AP (j:=0) rfl rfl underlying153 BN O_) rfl ?_;refine G6 ?_;refine Ky ?_;refine AW ?_;refine BL (E2 (nth X7 4) (-14)) KZ ?_;refine AO ?_;refine BL (E2 (nth X7 4) (-18)) KZ ?_;refine Kd ?_;refine AO ?_;refine BL (E2 (nth X7 4) (-41)) KZ ?_;refine Kd ?_;refine A7 ?_;refine EQ 25 mixed K_ rfl rfl rfl ?_;refine AE (AP (j:=7) rfl rfl underlying153 BN O_) rfl ?_;refine Hm ?_;refine Jq ?_;refine A0 ?_;refine AE (AP (j:=5) rfl rfl underlying153 BN O_) rfl ?_;refine G6 ?_;refine AE (FE rfl rfl) rfl ?_;refine A0 ?_;refine AE (jS rfl) rfl ?_;refine AE (AP (j:=6) rfl rfl underlying153 BN O_) rfl ?_;refine G6 ?_;refine AE (FE rfl rfl) rfl ?_;refine AE (gD rfl rfl) rfl ?_;refine Jq ?_;refine By ?_;refine AE (Ff rfl rfl underlying199 BN O_) rfl ?_;refine G6 ?_;refine Jq ?_;refine A0 ?_;refine SO ?_;refine G6 ?_;refine Jq ?_;refine Mh ?_;refine AW ?_;refine BL (E2 (nth X7 0) (-28)) KZ ?_;refine AO ?_;refine BL (E2 (nth X7 0) (-34)) KZ ?_;refine Kd ?_;refine AO ?_;refine BL (E2 (nth X7 0) (-39)) KZ ?_;refine Kd ?_;refine BB ?_;refine dL ?_;refine BM ?_;refine AA (FE rfl rfl) rfl ?_;refine AO ?_;refine cw ?_;refine BM ?_;refine AA (FE rfl rfl) rfl ?_;refine Kd ?_;refine dL ?_;refine BM ?_;refine cw ?_;refine BM ?_;refine AA (FE rfl rfl) rfl ?_;refine Kd ?_;refine DR ?_;refine BB ?_;refine DR ?_;refine AO ?_;refine dL ?_;refine BM ?_;refine cw ?_;refine BM ?_;refine AA (AP (j:=3) rfl rfl underlying153 BN O_) rfl ?_;refine Db ?_;refine DR ?_;refine AO ?_;refine AA (AP (j:=5) rfl rfl underlying153 BN O_) rfl ?_;refine BM ?_;refine AA (AP (j:=6) rfl rfl underlying153 BN O_) rfl ?_;refine BM ?_;refine AA (PE (l:=[_,_,_,_,_,_,_,_]) oO underlying153 BN rfl rfl D_) rfl ?_;refine B0 rfl rfl rfl rfl YR C7 C7 AK ?_;refine Do ?_;exact ⟨(j19+1,_),K_,rfl⟩
   ·try dsimp only
    have hY8:(Dh X3 Y6 80).length=8:=by rw [HM X3 Y6 hX3 hY6 _];try omega
    generalize Dh X3 Y6 80=Y8 at*
    refine AG ?_;refine AA (BE (a:=80) (b:=80) rfl rfl) rfl ?_;refine DF ?_;refine AT [2,3,4,5,12,171] (fun (zz:Nat×AB 64)=>⟨200,AQ [2,3,4,5,12,171] [Ai 1,Ai 2,.c (.sl 3 0 80 80 1),.c (.sl 4 (128*j4) (((((n+1)+(240-(n+1)%128)%128)+8)+8)-128*j4) (((((n+1)+(240-(n+1)%128)%128)+8)+8)-128*j4) 1),Ai 5,Aj (((zz.1:Nat):Int))],[B1 (b),CP (Am 64),CA (zz.2),CA (GF),CP (GD (cut b o n)),CA (Y8)]⟩) (fun j29=>(j29,DZ X3 Y8 j29)) (8) K_ ?_ ?_
    ·intro j29 hj29
     try dsimp only
     have hX9:(DZ X3 Y8 j29).length=8:=by rw [Gf X3 Y8 hX3 _];try omega
     rw [DZ.eq_2,Lo]
     try simp only [htx]
     generalize DZ X3 Y8 j29=X9 at*
     refine AG ?_;refine Pz ?_;refine CU ?_;refine QA ?_;refine A0 ?_;refine ba ?_;refine Hm ?_;refine ba ?_;refine G6 ?_;refine Jq ?_;refine ba ?_;refine Bc ?_;refine FR ?_;exact ⟨(j29+1,_),K_,rfl⟩
    ·try dsimp only
     have hY10:(DZ X3 Y8 8).length=8:=by rw [Gf X3 Y8 hX3 _];try omega
     generalize DZ X3 Y8 8=Y10 at*
     refine AG ?_;refine Tn ?_;refine AW ?_;refine AA (Yj (l:=128) rfl underlying23 CE rfl rfl O_ O_) rfl ?_;refine Bv ?_;exact ⟨(j4+1,_),K_,rfl⟩
 ·try dsimp only
  have hY11:(EM (cut b o n) ((n+144)/128)).length=8:=by rw [K6 (cut b o n) _];try omega
  generalize EM (cut b o n) ((n+144)/128)=Y11 at*
  refine Fv ?_;refine MU ?_;refine AS ?_;refine J3 ?_;refine DF ?_;refine AT [2,3,21,183] (fun (zz:Nat×AB 8)=>⟨200,AQ [2,3,21,183] [Ai 1,Ai 2,Ai 3,Aj (((zz.1:Nat):Int))],[B1 (b),CP (Am 64),CA (Y11),CP (zz.2)]⟩) (fun j35=>(j35,De Y11 j35)) (64) K_ ?_ ?_
  ·intro j35 hj35
   try dsimp only
   have hX12:(De Y11 j35).length=64:=by rw [JL Y11 _];try omega
   rw [De.eq_2,L7]
   try simp only [htx]
   generalize De Y11 j35=X12 at*
   refine AG ?_;refine Rb ?_;refine AW ?_;refine BB ?_;refine MW ?_;refine AA (AP rfl rfl underlying153 BN O_) rfl ?_;refine Db ?_;refine NZ ?_;refine JP ?_;refine AA (FN (a:=56) rfl rfl O_ O_) rfl ?_;refine Qn ?_;refine SZ ?_;refine AA (AP rfl rfl underlying105 CE O_) rfl ?_;refine Cq ?_;refine Do ?_;exact ⟨(j35+1,_),K_,rfl⟩
  ·try dsimp only
   have hY13:(De Y11 64).length=64:=by rw [JL Y11 _];try omega
   generalize De Y11 64=Y13 at*
   refine AG ?_;refine Rh ?_;refine AS ?_;refine dS ?_;refine MK ?_;refine A1 ?_;rw [hP.out]
   exact fS (Iy rfl rfl TD Ud C7 D_) (by (kernel_rfl))
theorem Ps(b:AB 8)(n cap:Nat)(hb:b.length=n)(hn:n≤2199023255552):Ev prog (.call 129 [.c (.sl 0 0 n cap 1)] [B1 (b)]) (.val (Co (Dv b)) [B1 (b)]):=by
 have h_:=io b 0 n cap O_ hn
 rw [HD hb] at h_
 exact h_
@[simp] theorem tW(tx:AB 8):(Dv tx).length=64:=by
 unfold Dv
 (simp [JL, *];done)
attribute [irreducible] Dv
def Cm(seed:AB 8):AB 8:=Fr (cut (Dv seed) 0 32)
def Ce(seed:AB 8):AB 8:=Dv seed
theorem RT(h:g:=by exact qB (Iy rfl rfl K8 KW C7 D_) (Dt rfl) (by (kernel_rfl))):g:=h
theorem Vx(seed:AB 8)(hseed:seed.length=32):Ev prog (.call 144 [Co (seed)] []) (.val (.tup [Co (Cm seed),.c (.sl 0 32 32 32 1)]) [CP (Ce seed)]):=by
 have hP_sgHalf0:Hid (Cm seed=Fr (cut (Dv seed) 0 32)):=⟨rfl⟩
 have hP_sgHalf1:Hid (Ce seed=Dv seed):=⟨rfl⟩
 refine AJ func144 rfl ntmps144 rfl AN ?_;refine Bk ?_;refine E7 ?_;refine Bv ?_;have hQ1:(Dv seed).length=64:=Au
 refine AG ?_;refine Kl ?_;refine Mq (Ps seed 32 32 AD AD) cA ?_;refine J3 ?_;refine MK ?_;refine AM ?_;have hQ2:(cut (Dv seed) 0 32).length=32:=Au
 have hQ3:(Fr (cut (Dv seed) 0 32)).length=32:=Au
 refine S_ ?_;refine Oz [1] mixed K_ ?_;refine Ed (HX (l:=0) (h:=32) (len:=32) (cp:=64) rfl underlying105 CE rfl rfl rfl O_ O_ Rx rfl rfl) rfl ?_;refine Ed (Tv rfl underlying37 O_ D_) rfl ?_;(refine Ed (Qf rfl rfl K8 KW Wo D_) rfl ?_)
 refine tK K_ (AZ (bs:=[]) (ZK (cut (Dv seed) 0 32) AD) nv K_ K_ rfl Bb) rfl ?_;refine Ed (HX (l:=32) (h:=64) (len:=32) (cp:=32) rfl underlying105 CE rfl rfl rfl O_ O_ Rx rfl rfl) rfl ?_;refine oF rfl rfl rfl rfl rfl KW C7 C7 AK ?_;refine Ed (Ae rfl) rfl ?_;refine eE ?_;refine S_ ?_;rw [hP_sgHalf0.out,hP_sgHalf1.out]
 exact RT
@[simp] theorem rl(seed:AB 8)(_hseed:seed.length=32):(Cm seed).length=32:=by
 unfold Cm
 (simp [*];done)
attribute [irreducible] Cm
@[simp] theorem sJ(seed:AB 8)(_hseed:seed.length=32):(Ce seed).length=64:=by
 unfold Ce
 (simp [*];done)
attribute [irreducible] Ce
def U4(a b:AB 64)(X1:BitVec 64)(X2:AB 64)(j4:Nat):BitVec 64×AB 64:=(Hl (nth a j4) (nth b j4) X1,put X2 j4 ((nth a j4)-(nth b j4)-X1))
def Li(a b:AB 64):Nat→BitVec 64×AB 64
 |0=>(0#64,Af 4)
 |j4+1=>U4 a b (Li a b j4).1 (Li a b j4).2 j4
def Mb(a b:AB 64):AB 64:=((Li a b 4).2)
def Mj(a b:AB 64):BitVec 64:=((Li a b 4).1)
attribute [irreducible] Mb
attribute [irreducible] Mj
def KG(a b:AB 64)(j3:Nat)(X2:BitVec 64)(X3:AB 64)(j7:Nat):BitVec 64×AB 64:=(((Dq (nth a j3) (nth b j7))+(Cj (nth X3 (j3+j7)) (Ay (nth a j3) (nth b j7)) 0#64))+(Cj (nth (put X3 (j3+j7) ((nth X3 (j3+j7))+(Ay (nth a j3) (nth b j7))+0#64)) (j3+j7)) X2 0#64),put (put X3 (j3+j7) ((nth X3 (j3+j7))+(Ay (nth a j3) (nth b j7))+0#64)) (j3+j7) ((nth (put X3 (j3+j7) ((nth X3 (j3+j7))+(Ay (nth a j3) (nth b j7))+0#64)) (j3+j7))+X2+0#64))
def Bm(a b X1:AB 64)(j3:Nat):Nat→BitVec 64×AB 64
 |0=>(0#64,X1)
 |j7+1=>KG a b j3 (Bm a b X1 j3 j7).1 (Bm a b X1 j3 j7).2 j7
theorem Gp(a b X1:AB 64)(j3:Nat)(_ha:a.length=4)(_hb:b.length=4)(hX1:X1.length=9)(j7:Nat):(Bm a b X1 j3 j7).2.length=9:=by
 induction j7 with
 |zero=>(simp (maxDischargeDepth:=9) [Bm, *];done)
 |succ j7 ih=>rw [Bm.eq_2,KG];(simp (maxDischargeDepth:=9) [ih];done)
def KS(a b X1:AB 64)(j3:Nat):AB 64:=put ((Bm a b X1 j3 4).2) (j3+4) ((Bm a b X1 j3 4).1)
def Bl(a b:AB 64):Nat→AB 64
 |0=>Af 9
 |j3+1=>KS a b (Bl a b j3) j3
theorem K9(a b:AB 64)(ha:a.length=4)(hb:b.length=4)(j3:Nat):(Bl a b j3).length=9:=by
 induction j3 with
 |zero=>(simp (maxDischargeDepth:=9) [Bl, *];done)
 |succ j3 ih=>rw [Bl.eq_2,KS];(simp (maxDischargeDepth:=9) [Gp, *];done)
def Gz(c:AB 64)(X9:BitVec 64)(X10:AB 64)(j19:Nat):BitVec 64×AB 64:=(Cj (nth X10 j19) (if j19<4 then nth c j19 else 0#64) X9,put X10 j19 ((nth X10 j19)+(if j19<4 then nth c j19 else 0#64)+X9))
def BH(c Y8:AB 64):Nat→BitVec 64×AB 64
 |0=>(0#64,Y8)
 |j19+1=>Gz c (BH c Y8 j19).1 (BH c Y8 j19).2 j19
theorem Ia(c Y8:AB 64)(_hc:c.length=4)(hY8:Y8.length=9)(j19:Nat):(BH c Y8 j19).2.length=9:=by
 induction j19 with
 |zero=>(simp (maxDischargeDepth:=9) [BH, *];done)
 |succ j19 ih=>rw [BH.eq_2,Gz];(simp (maxDischargeDepth:=9) [ih];done)
def I7(Y14:AB 64)(X16:AB 8)(j28:Nat):AB 8:=X16++[((nth Y14 (j28/8))>>>(8*(j28%8))).setWidth 8]
def CM(Y14:AB 64):Nat→AB 8
 |0=>[]
 |j28+1=>I7 Y14 (CM Y14 j28) j28
theorem Fc(Y14:AB 64)(_hY14:Y14.length=9)(j28:Nat):(CM Y14 j28).length=j28:=by
 induction j28 with
 |zero=>(simp (maxDischargeDepth:=9) [CM, *];done)
 |succ j28 ih=>rw [CM.eq_2,I7];(simp (maxDischargeDepth:=9) [ih];done)
def Gx(a b c:AB 64):AB 8:=(CM ((BH c (Bl a b 4) 9).2) 72)
theorem UN(c Y:AB 64)(j:Nat):(BH c Y j).1.toNat≤1:=by
 induction j with
 |zero=>show (0#64).toNat≤1;decide
 |succ j ih=>rw [BH.eq_2,Gz];exact pL _ _ _ ih
theorem RR(k:r)(h:Hid r→g:=by intro h;refine AE (AP rfl rfl underlying155 BN O_) rfl ?_;exact h.out):g:=h ⟨k⟩
theorem Ni(k:r)(h:Hid r→g:=by intro h;refine AA (AP rfl rfl underlying226 BN O_) rfl ?_;exact h.out):g:=h ⟨k⟩
theorem W2(k:r)(h:Hid r→g:=by intro h;refine AA (AP rfl rfl underlying155 BN O_) rfl ?_;exact h.out):g:=h ⟨k⟩
theorem jI(a b c:AB 64)(ha:a.length=4)(hb:b.length=4)(hc:c.length=4):Ev prog (.call 183 [EE (a),EE (b),EE (c)] []) (.val (.c (.sl 0 0 72 72 1)) [CP (Gx a b c)]):=by
 have hP:=Hid.mk (Gx.eq_1 a b c)
 refine AJ func183 rfl ntmps183 rfl AN ?_;refine B5 ?_;refine bp ?_;refine Ad ?_;refine A2 (BR vK AN) AK rfl ?_;refine DF ?_;refine AT [3,4,5,7,20] (fun (zz:Nat×AB 64)=>⟨112,AQ [3,4,5,7,20] [Ai 0,Ai 1,Ai 2,Ai 3,Aj (((zz.1:Nat):Int))],[CA (a),CA (b),CA (c),CA (zz.2)]⟩) (fun j3=>(j3,Bl a b j3)) (4) K_ ?_ ?_
 ·intro j3 hj3
  try dsimp only
  have hX1:(Bl a b j3).length=9:=by rw [K9 a b ha hb _];try omega
  rw [Bl.eq_2,KS]
  generalize Bl a b j3=X1 at*
  refine AG ?_;refine NA ?_;refine AW ?_;refine Ad ?_;refine AY ?_;refine A1 ?_;refine AT [3,4,5,7,8,9,20,23] (fun (zz:Nat×BitVec 64×AB 64)=>⟨112,AQ [3,4,5,7,8,9,20,23] [Ai 0,Ai 1,Ai 2,Ai 3,Aj (((j3:Nat):Int)),.c (.val (BP (zz.2.1))),Aj (((j3:Nat):Int)),Aj (((zz.1:Nat):Int))],[CA (a),CA (b),CA (c),CA (zz.2.2)]⟩) (fun j7=>(j7,Bm a b X1 j3 j7)) (4) K_ ?_ ?_
  ·intro j7 hj7
   try dsimp only
   have hX3:(Bm a b X1 j3 j7).2.length=9:=by rw [Gp a b X1 j3 ha hb hX1 _];try omega
   rw [Bm.eq_2,KG]
   generalize Bm a b X1 j3 j7=Z4 at*
   obtain ⟨X2,X3⟩:=Z4
   try dsimp only at*
   refine AG ?_;refine NA ?_;refine CU ?_;refine L4 ?_;refine A0 ?_;refine RR ?_;refine Hm ?_;refine RR ?_;refine G6 ?_;refine At (Te (nth a j3) (nth b j7)) ci ?_;refine Kt ?_;refine J9 ?_;refine Ky ?_;refine AS ?_;refine Fm ?_;refine BB ?_;refine Hu ?_;refine Fa ?_;refine Hu ?_;refine Ni ?_;refine Db ?_;refine Ui ?_;refine CD ?_;refine Ni ?_;refine FO ?_;refine BB ?_;refine Hu ?_;refine Fa ?_;refine Hu ?_;refine Ni ?_;refine Db ?_;refine Ui ?_;refine CD ?_;refine Ni ?_;refine FO ?_;refine BB ?_;refine DR ?_;refine AO ?_;refine DR ?_;refine Ad ?_;refine FW ?_;exact ⟨(j7+1,_),K_,rfl⟩
  ·try dsimp only
   have hY6:(Bm a b X1 j3 4).2.length=9:=by rw [Gp a b X1 j3 ha hb hX1 _];try omega
   generalize Bm a b X1 j3 4=Z7 at*
   obtain ⟨Y5,Y6⟩:=Z7
   try dsimp only at*
   refine AG ?_;refine P1 ?_;refine AW ?_;refine UT ?_;refine AO ?_;refine Ni ?_;refine FR ?_;exact ⟨(j3+1,_),K_,rfl⟩
 ·try dsimp only
  have hY8:(Bl a b 4).length=9:=by rw [K9 a b ha hb _];try omega
  generalize Bl a b 4=Y8 at*
  refine AG ?_;refine P1 ?_;refine AS ?_;refine AY ?_;refine A1 ?_;refine AT [5,7,15,75] (fun (zz:Nat×BitVec 64×AB 64)=>⟨112,AQ [5,7,15,75] [Ai 0,Ai 1,.c (.val (BP (zz.2.1))),Aj (((zz.1:Nat):Int))],[CA (c),CA (zz.2.2)]⟩) (fun j19=>(j19,BH c Y8 j19)) (9) K_ ?_ ?_
  ·intro j19 hj19
   try dsimp only
   have hX10:(BH c Y8 j19).2.length=9:=by rw [Ia c Y8 hc hY8 _];try omega
   have hcc:=UN c Y8 j19
   rw [BH.eq_2,Gz]
   generalize BH c Y8 j19=Z11 at*
   obtain ⟨X9,X10⟩:=Z11
   try dsimp only at*
   refine AG ?_;refine AA (BE (b:=9) rfl rfl) rfl ?_;refine AW ?_;refine Ad ?_;refine AY ?_;refine NA ?_;refine E6 ?_;refine Id [5,7,15,16,17,75] (fun (zz:BitVec 64)=>⟨112,AQ [5,7,15,16,17,75] [Ai 0,Ai 1,.c (.val (BP (X9))),Aj (((j19:Nat):Int)),.c (.val (BP (zz))),Aj (((j19:Nat):Int))],[CA (c),CA (X10)]⟩) (if j19<4 then nth c j19 else 0#64) rfl (fun hb=>?_) (fun hb=>?_) ?_
   ·have hb_:=of_decide_eq_true hb
    refine BC ?_;refine W2 ?_;refine BM ?_;refine A7 ?_;refine ⟨(nth c j19),K_,?_⟩
    rw [if_pos (of_decide_eq_true hb)]
   ·have hb_:=of_decide_eq_false hb
    refine S_ ?_;refine ⟨0#64,K_,?_⟩
    rw [if_neg (of_decide_eq_false hb)]
   generalize (if j19<4 then nth c j19 else 0#64)=J12 at*
   refine BD ?_;refine Ni ?_;refine Db ?_;refine AO ?_;refine Bq (fu Ta rfl rfl rfl (rfl:_=BP (X9)) (by repeat ((assumption)))) AK rfl ?_
   refine CD ?_;refine Ni ?_;refine FO ?_;refine Ad ?_;refine FW ?_;exact ⟨(j19+1,_),K_,rfl⟩
  ·try dsimp only
   have hY14:(BH c Y8 9).2.length=9:=by rw [Ia c Y8 hc hY8 _];try omega
   have hcc:=UN c Y8 9
   generalize BH c Y8 9=Z15 at*
   obtain ⟨Y13,Y14⟩:=Z15
   try dsimp only at*
   refine AG ?_;refine AA (BE (a:=9) (b:=9) rfl rfl) rfl ?_;refine AS ?_;refine AY ?_;refine A1 ?_;refine Jn 18 1 (.a8 ([])) rfl rfl AN rfl ?_;refine S_ ?_;refine AT [7,18,95] (fun (zz:Nat×AB 8)=>⟨112,AQ [7,18,95] [Ai 0,.c (.sl 1 0 zz.1 zz.1 1),Aj (((zz.1:Nat):Int))],[CA (Y14),CP (zz.2)]⟩) (fun j28=>(j28,CM Y14 j28)) (72) K_ ?_ ?_
   ·intro j28 hj28
    try dsimp only
    have hX16:(CM Y14 j28).length=j28:=by rw [Fc Y14 hY14 _];try omega
    rw [CM.eq_2,I7]
    generalize CM Y14 j28=X16 at*
    refine AG ?_;refine AA (BE (b:=72) rfl rfl) rfl ?_;refine AW ?_;refine BB ?_;refine MW ?_;refine Ni ?_;refine Db ?_;refine NZ ?_;refine JP ?_;refine Qn ?_;refine SZ ?_;refine RZ ?_;refine Cl ?_;refine Ad ?_;refine FW ?_;exact ⟨(j28+1,_),K_,rfl⟩
   ·try dsimp only
    have hY17:(CM Y14 72).length=72:=by rw [Fc Y14 hY14 _];try omega
    generalize CM Y14 72=Y17 at*
    refine AG ?_;refine AA (BE (a:=72) (b:=72) rfl rfl) rfl ?_;refine CU ?_;rw [hP.out]
    exact FB
@[simp] theorem uQ(a b c:AB 64)(ha:a.length=4)(hb:b.length=4)(hc:c.length=4):(Gx a b c).length=72:=by
 unfold Gx
 (simp (maxDischargeDepth:=9) [K9,Ia,Fc, *];done)
attribute [irreducible] Gx
def B8:AB 64:=[6346243789798364141#64,1503914060200516822#64,0#64,1152921504606846976#64]
theorem QI(k:r)(h:Hid r→g:=by intro h;refine A2 (BR tc AN) AK rfl ?_;exact h.out):g:=h ⟨k⟩
theorem RN(k:r)(h:Hid r→g:=by intro h;refine B0 rfl rfl rfl rfl XD C7 C7 AK ?_;exact h.out):g:=h ⟨k⟩
theorem T7(h:g:=by exact fS (Iy rfl rfl Xz XD C7 D_) (by (kernel_rfl))):g:=h
theorem QF:Ev prog (.call 125 [] []) (.val (EE (B8)) []):=by
 have hP:=Hid.mk (B8.eq_1)
 refine AJ func125 rfl ntmps125 rfl AN ?_;refine AG ?_;refine QI ?_;refine AS ?_;refine AA (PE (l:=[6346243789798364141#64,1503914060200516822#64,0#64,1152921504606846976#64]) uo underlying155 BN rfl rfl D_) rfl ?_;refine RN ?_;refine A1 ?_;rw [hP.out]
 exact T7
@[simp] theorem sN:(B8).length=4:=by
 unfold B8
 (simp [*];done)
attribute [irreducible] B8
def KI(a b:AB 64)(X1:BitVec 64)(j3:Nat):BitVec 64:=Hl (nth a j3) (nth b j3) X1
def Ch(a b:AB 64):Nat→BitVec 64
 |0=>0#64
 |j3+1=>KI a b (Ch a b j3) j3
theorem ZM(a b:AB 64)(j:Nat):(Ch a b j).toNat≤1:=by
 induction j with
 |zero=>show (0#64).toNat≤1;decide
 |succ j ih=>rw [Ch.eq_2,KI];exact fm _ _ _
theorem WR(a b:AB 64)(ha:a.length=4)(hb:b.length=4):Ev prog (.call 124 [EE (a),EE (b)] []) (.val (.c (.val (.bool (((Ch a b 4)==1#64))))) []):=by
 refine AJ func124 rfl ntmps124 rfl AN ?_;refine B5 ?_;refine Ad ?_;refine AY ?_;refine A1 ?_;refine AT [2,3,5,7] (fun (zz:Nat×BitVec 64)=>⟨24,AQ [2,3,5,7] [Ai 0,Ai 1,.c (.val (BP (zz.2))),Aj (((zz.1:Nat):Int))],[CA (a),CA (b)]⟩) (fun j3=>(j3,Ch a b j3)) (4) K_ ?_ ?_
 ·intro j3 hj3
  try dsimp only
  have hc:=ZM a b j3
  rw [Ch.eq_2,KI]
  generalize Ch a b j3=X1 at*
  refine AG ?_;refine NA ?_;refine CU ?_;refine L4 ?_;refine A0 ?_;refine RR ?_;refine Hm ?_;refine RR ?_;refine Hm ?_;refine Iv (ru eC rfl rfl rfl (rfl:_=BP (X1)) (by repeat ((assumption)))) AK rfl ?_
  refine Kt ?_;refine J9 ?_;refine Mh ?_;refine Do ?_;exact ⟨(j3+1,_),K_,rfl⟩
 ·try dsimp only
  have hc:=ZM a b 4
  generalize Ch a b 4=Y2 at*
  refine AG ?_;refine P1 ?_;refine AW ?_;refine AA (pA (b:=1#64) rfl rfl) rfl ?_;exact DP
def I8(a:AB 64)(X1:AB 8)(j3:Nat):AB 8:=put X1 j3 (((nth a (j3/8))>>>(8*(j3%8))).setWidth 8)
def Cp(a:AB 64):Nat→AB 8
 |0=>Am 32
 |j3+1=>I8 a (Cp a j3) j3
@[simp] theorem Ju(a:AB 64)(j3:Nat):(Cp a j3).length=32:=by
 induction j3 with
 |zero=>(simp [Cp, *];done)
 |succ j3 ih=>rw [Cp.eq_2,I8];(simp [ih];done)
def GA(a:AB 64):AB 8:=(Cp a 32)
theorem UY(a:AB 64)(ha:a.length=4):Ev prog (.call 173 [EE (a)] []) (.val (Co (GA a)) []):=by
 have hP:=Hid.mk (GA.eq_1 a)
 refine AJ func173 rfl ntmps173 rfl AN ?_;refine Bk ?_;refine E7 ?_;refine AS ?_;refine E7 ?_;refine DF ?_;refine AT [1,2,3,5] (fun (zz:Nat×AB 8)=>⟨21,AQ [1,2,3,5] [Ai 0,Ai 1,Ai 2,Aj (((zz.1:Nat):Int))],[CA (a),CP (Am 32),CP (zz.2)]⟩) (fun j3=>(j3,Cp a j3)) (32) K_ ?_ ?_
 ·intro j3 hj3
  try dsimp only
  have hX1:(Cp a j3).length=32:=by rw [Ju a _];try omega
  rw [Cp.eq_2,I8]
  generalize Cp a j3=X1 at*
  refine AG ?_;refine Rc ?_;refine AW ?_;refine BB ?_;refine MW ?_;refine W2 ?_;refine Db ?_;refine NZ ?_;refine JP ?_;refine Qn ?_;refine SZ ?_;refine QB ?_;refine Cq ?_;refine Do ?_;exact ⟨(j3+1,_),K_,rfl⟩
 ·try dsimp only
  have hY2:(Cp a 32).length=32:=by rw [Ju a _];try omega
  generalize Cp a 32=Y2 at*
  refine AG ?_;refine Rn ?_;refine HV ?_;refine EW ?_;rw [hP.out]
  exact Eo
@[simp] theorem re(a:AB 64)(_ha:a.length=4):(GA a).length=32:=by
 unfold GA
 (simp [Ju, *];done)
attribute [irreducible] GA
def Oa(b:AB 8)(X1:AB 64)(j3:Nat):AB 64:=put X1 (j3/8) ((nth X1 (j3/8)) ||| (((nth b j3).setWidth 64)<<<(8*(j3%8))))
def FJ(b:AB 8):Nat→AB 64
 |0=>Af 4
 |j3+1=>Oa b (FJ b j3) j3
@[simp] theorem Nn(b:AB 8)(j3:Nat):(FJ b j3).length=4:=by
 induction j3 with
 |zero=>(simp [FJ, *];done)
 |succ j3 ih=>rw [FJ.eq_2,Oa];(simp [ih];done)
def Fi(b:AB 8):AB 64:=(FJ b 32)
theorem Yh(k:r)(h:Hid r→g:=by intro h;refine AA (Bi rfl rfl Xz XD C7 D_) rfl ?_;exact h.out):g:=h ⟨k⟩
theorem XI(b:AB 8)(hb:b.length=32):Ev prog (.call 123 [Co (b)] []) (.val (EE (Fi b)) []):=by
 have hP:=Hid.mk (Fi.eq_1 b)
 refine AJ func123 rfl ntmps123 rfl AN ?_;refine Bk ?_;refine QI ?_;refine AS ?_;refine QI ?_;refine DF ?_;refine AT [1,2,3,5] (fun (zz:Nat×AB 64)=>⟨24,AQ [1,2,3,5] [Ai 0,Ai 1,Ai 2,Aj (((zz.1:Nat):Int))],[CP (b),CA (Af 4),CA (zz.2)]⟩) (fun j3=>(j3,FJ b j3)) (32) K_ ?_ ?_
 ·intro j3 hj3
  try dsimp only
  have hX1:(FJ b j3).length=4:=by rw [Nn b _];try omega
  rw [FJ.eq_2,Oa]
  generalize FJ b j3=X1 at*
  refine AG ?_;refine Rc ?_;refine CU ?_;refine EQ 14 mixed K_ rfl rfl rfl ?_;refine A0 ?_;refine Rq ?_;refine RR ?_;refine Hm ?_;refine OD ?_;refine Kx ?_;refine be ?_;refine A0 ?_;refine Rl ?_;refine AE (Ls (a:=8) rfl rfl O_) rfl ?_;refine AE (B2 rfl rfl) rfl ?_;refine AE (VD rfl rfl) rfl ?_;refine RR ?_;refine Bc ?_;refine FR ?_;exact ⟨(j3+1,_),K_,rfl⟩
 ·try dsimp only
  have hY2:(FJ b 32).length=4:=by rw [Nn b _];try omega
  generalize FJ b 32=Y2 at*
  refine AG ?_;refine Rn ?_;refine AS ?_;refine Yh ?_;refine RN ?_;refine A1 ?_;rw [hP.out]
  exact T7
@[simp] theorem yN(b:AB 8)(_hb:b.length=32):(Fi b).length=4:=by
 unfold Fi
 (simp [Nn, *];done)
attribute [irreducible] Fi
def Rd(X1:BitVec 64)(X2:AB 64)(j2:Nat):BitVec 64×AB 64:=((nth X2 j2)>>>63,put X2 j2 (((nth X2 j2)<<<1) ||| X1))
def Dm(a:AB 64)(bit:BitVec 64):Nat→BitVec 64×AB 64
 |0=>(bit,a)
 |j2+1=>Rd (Dm a bit j2).1 (Dm a bit j2).2 j2
theorem MY(a:AB 64)(bit:BitVec 64)(ha:a.length=4)(j2:Nat):(Dm a bit j2).2.length=4:=by
 induction j2 with
 |zero=>(simp (maxDischargeDepth:=9) [Dm, *];done)
 |succ j2 ih=>rw [Dm.eq_2,Rd];(simp (maxDischargeDepth:=9) [ih];done)
def cJ(a:AB 64)(bit:BitVec 64):AB 64:=((Dm a bit 4).2)
theorem SF(k:r)(h:Hid r→g:=by intro h;refine Ed (AP rfl rfl underlying155 BN O_) rfl ?_;exact h.out):g:=h ⟨k⟩
theorem dY(k:r)(h:Hid r→g:=by intro h;refine AE (Bi rfl rfl Xz XD C7 D_) rfl ?_;exact h.out):g:=h ⟨k⟩
theorem pv(a:AB 64)(bit:BitVec 64)(ha:a.length=4)(hl:(Ch (Dm a bit 4).2 B8 4==1#64)=true):Ev prog (.call 190 [EE (a),.c (.val (BP bit))] []) (.val (EE (cJ a bit)) []):=by
 have hP:=Hid.mk (cJ.eq_1 a bit)
 refine AJ func190 rfl ntmps190 rfl AN ?_;refine Bk ?_;refine QI ?_;refine DF ?_;refine AT [1,2,4,9] (fun (zz:Nat×BitVec 64×AB 64)=>⟨47,AQ [1,2,4,9] [.c (.val (BP (zz.2.1))),Ai 0,Ai 1,Aj (((zz.1:Nat):Int))],[CA (zz.2.2),CA (Af 4)]⟩) (fun j2=>(j2,Dm a bit j2)) (4) K_ ?_ ?_
 ·intro j2 hj2
  try dsimp only
  have hX2:(Dm a bit j2).2.length=4:=by rw [MY a bit ha _];try omega
  rw [Dm.eq_2,Rd]
  generalize Dm a bit j2=Z3 at*
  obtain ⟨X1,X2⟩:=Z3
  try dsimp only at*
  refine AG ?_;refine NA ?_;refine CU ?_;refine Oz [0] mixed K_ ?_;refine Iw ?_;refine Iw ?_;refine SF ?_;(refine FL K_ (IE rfl rfl Ln Dp) rfl ?_)
  refine Ed (B2 (j:=1) rfl rfl) rfl ?_;refine Iw ?_;refine Ed (VD rfl rfl) rfl ?_;refine Iw ?_;refine SF ?_;(refine FL K_ (IE rfl rfl Ln Dp) rfl ?_)
  refine Ed (CQ (j:=63) rfl rfl) rfl ?_;refine SF ?_;refine WX rfl rfl rfl rfl BN Dp AK ?_;refine Ed (Ae rfl) rfl ?_;refine eE ?_;refine AG ?_;refine FW ?_;exact ⟨(j2+1,_),K_,rfl⟩
 ·try dsimp only
  have hY5:(Dm a bit 4).2.length=4:=by rw [MY a bit ha _];try omega
  generalize Dm a bit 4=Z6 at*
  obtain ⟨Y4,Y5⟩:=Z6
  try dsimp only at*
  refine AG ?_;refine P1 ?_;refine AM ?_;have hQ7:(B8).length=4:=Au
  refine S_ ?_;refine Pq ?_;refine dY ?_;refine At (QF) dn ?_;refine At (WR Y5 B8 AD AD) kH ?_;refine GN ?_;refine EH rfl (hl) ?_;refine AG ?_;refine Yh ?_;refine RN ?_;refine A1 ?_;rw [hP.out]
  exact T7
@[simp] theorem lj(a:AB 64)(bit:BitVec 64)(ha:a.length=4):(cJ a bit).length=4:=by
 unfold cJ
 (simp (maxDischargeDepth:=9) [MY, *];done)
attribute [irreducible] cJ
def Rs(X1:BitVec 64)(X2:AB 64)(j2:Nat):BitVec 64×AB 64:=((nth X2 j2)>>>63,put X2 j2 (((nth X2 j2)<<<1) ||| X1))
def Ei(a:AB 64)(bit:BitVec 64):Nat→BitVec 64×AB 64
 |0=>(bit,a)
 |j2+1=>Rs (Ei a bit j2).1 (Ei a bit j2).2 j2
theorem MB(a:AB 64)(bit:BitVec 64)(ha:a.length=4)(j2:Nat):(Ei a bit j2).2.length=4:=by
 induction j2 with
 |zero=>(simp (maxDischargeDepth:=9) [Ei, *];done)
 |succ j2 ih=>rw [Ei.eq_2,Rs];(simp (maxDischargeDepth:=9) [ih];done)
def MP(X9:BitVec 64)(X10:AB 64)(j10:Nat):BitVec 64×AB 64:=(Hl (nth X10 j10) (nth B8 j10) X9,put X10 j10 ((nth X10 j10)-(nth B8 j10)-X9))
def Df(Y5:AB 64):Nat→BitVec 64×AB 64
 |0=>(0#64,Y5)
 |j10+1=>MP (Df Y5 j10).1 (Df Y5 j10).2 j10
theorem Kg(Y5:AB 64)(hY5:Y5.length=4)(j10:Nat):(Df Y5 j10).2.length=4:=by
 induction j10 with
 |zero=>(simp (maxDischargeDepth:=9) [Df, *];done)
 |succ j10 ih=>rw [Df.eq_2,MP];(simp (maxDischargeDepth:=9) [ih];done)
def ZI(a:AB 64)(bit:BitVec 64):AB 64:=((Df ((Ei a bit 4).2) 4).2)
theorem ns(Y:AB 64)(j:Nat):(Df Y j).1.toNat≤1:=by
 induction j with
 |zero=>show (0#64).toNat≤1;decide
 |succ j ih=>rw [Df.eq_2,MP];exact fm _ _ _
theorem qs(a:AB 64)(bit:BitVec 64)(ha:a.length=4)(hl:(Ch (Ei a bit 4).2 B8 4==1#64)=false):Ev prog (.call 190 [EE (a),.c (.val (BP bit))] []) (.val (EE (ZI a bit)) []):=by
 have hP:=Hid.mk (ZI.eq_1 a bit)
 refine AJ func190 rfl ntmps190 rfl AN ?_;refine Bk ?_;refine QI ?_;refine DF ?_;refine AT [1,2,4,9] (fun (zz:Nat×BitVec 64×AB 64)=>⟨47,AQ [1,2,4,9] [.c (.val (BP (zz.2.1))),Ai 0,Ai 1,Aj (((zz.1:Nat):Int))],[CA (zz.2.2),CA (Af 4)]⟩) (fun j2=>(j2,Ei a bit j2)) (4) K_ ?_ ?_
 ·intro j2 hj2
  try dsimp only
  have hX2:(Ei a bit j2).2.length=4:=by rw [MB a bit ha _];try omega
  rw [Ei.eq_2,Rs]
  generalize Ei a bit j2=Z3 at*
  obtain ⟨X1,X2⟩:=Z3
  try dsimp only at*
  refine AG ?_;refine NA ?_;refine CU ?_;refine Oz [0] mixed K_ ?_;refine Iw ?_;refine Iw ?_;refine SF ?_;(refine FL K_ (IE rfl rfl Ln Dp) rfl ?_)
  refine Ed (B2 (j:=1) rfl rfl) rfl ?_;refine Iw ?_;refine Ed (VD rfl rfl) rfl ?_;refine Iw ?_;refine SF ?_;(refine FL K_ (IE rfl rfl Ln Dp) rfl ?_)
  refine Ed (CQ (j:=63) rfl rfl) rfl ?_;refine SF ?_;refine WX rfl rfl rfl rfl BN Dp AK ?_;refine Ed (Ae rfl) rfl ?_;refine eE ?_;refine AG ?_;refine FW ?_;exact ⟨(j2+1,_),K_,rfl⟩
 ·try dsimp only
  have hY5:(Ei a bit 4).2.length=4:=by rw [MB a bit ha _];try omega
  generalize Ei a bit 4=Z6 at*
  obtain ⟨Y4,Y5⟩:=Z6
  try dsimp only at*
  refine AG ?_;refine P1 ?_;refine AM ?_;have hQ7:(B8).length=4:=Au
  refine S_ ?_;refine Pq ?_;refine dY ?_;refine At (QF) dn ?_;refine At (WR Y5 B8 AD AD) kH ?_;refine GN ?_;refine Bn rfl (hl) ?_;refine AG ?_;refine Bv ?_;have hQ8:(B8).length=4:=Au
  refine AG ?_;refine BL (QF) dn ?_;refine Pn ?_;refine AT [2,4,6,29,30] (fun (zz:Nat×BitVec 64×AB 64)=>⟨47,AQ [2,4,6,29,30] [Ai 0,Ai 1,.c (.val (BP (zz.2.1))),EE (B8),Aj (((zz.1:Nat):Int))],[CA (zz.2.2),CA (Af 4)]⟩) (fun j10=>(j10,Df Y5 j10)) (4) K_ ?_ ?_
  ·intro j10 hj10
   try dsimp only
   have hX10:(Df Y5 j10).2.length=4:=by rw [Kg Y5 hY5 _];try omega
   have hc:=ns Y5 j10
   rw [Df.eq_2,MP]
   generalize Df Y5 j10=Z11 at*
   obtain ⟨X9,X10⟩:=Z11
   try dsimp only at*
   refine AG ?_;refine NA ?_;refine AW ?_;refine AA (uh rfl rfl underlying155 BN Ln O_ Dp) rfl ?_;refine Fm ?_;refine BB ?_;refine W2 ?_;refine Db ?_;refine AO ?_;refine Bq (ru eC rfl rfl rfl (rfl:_=BP (X9)) (by repeat ((assumption)))) AK rfl ?_
   refine CD ?_;refine W2 ?_;refine FO ?_;refine Ad ?_;refine FW ?_;exact ⟨(j10+1,_),K_,rfl⟩
  ·try dsimp only
   have hY13:(Df Y5 4).2.length=4:=by rw [Kg Y5 hY5 _];try omega
   have hc:=ns Y5 4
   generalize Df Y5 4=Z14 at*
   obtain ⟨Y12,Y13⟩:=Z14
   try dsimp only at*
   refine AG ?_;refine P1 ?_;refine AS ?_;refine Yh ?_;refine RN ?_;refine A1 ?_;rw [hP.out]
   exact T7
@[simp] theorem kU(a:AB 64)(bit:BitVec 64)(ha:a.length=4):(ZI a bit).length=4:=by
 unfold ZI
 (simp (maxDischargeDepth:=9) [MB,Kg, *];done)
attribute [irreducible] ZI
def dw(E:Int):Nat→Int
 |0=>E
 |n+1=>dw E n-1
theorem YM(E:Int)(n:Nat):dw E n=E-n:=by
 induction n with
 |zero=>exact (Int.sub_zero E).symm
 |succ n ih=>rw [dw,ih];omega
theorem ZL(a:AB 64)(bit:BitVec 64)(j:Nat):Ei a bit j=Dm a bit j:=by
 induction j with
 |zero=>rfl
 |succ j ih=>rw [Ei,Dm,ih];rfl
def je(a:AB 64)(bit:BitVec 64):AB 64:=(Dm a bit 4).2
def Hy(a:AB 64)(bit:BitVec 64):AB 64:=if (Ch (je a bit) B8 4==1#64)=true then cJ a bit else ZI a bit
@[simp] theorem aF(a:AB 64)(bit:BitVec 64)(ha:a.length=4):(Hy a bit).length=4:=by
 unfold Hy
 split
 ·exact lj a bit ha
 ·exact kU a bit ha
theorem cC(a:AB 64)(bit:BitVec 64)(ha:a.length=4):Ev prog (.call 190 [EE (a),.c (.val (BP bit))] []) (.val (EE (Hy a bit)) []):=by
 unfold Hy je
 cases h:(Ch (Dm a bit 4).2 B8 4==1#64) with
 |true=>exact pv a bit ha h
 |false=>exact qs a bit ha (by rw [ZL];exact h)
attribute [irreducible] Hy
def MN(b:AB 8)(X1:AB 64)(j3:Nat):AB 64:=Hy X1 ((((nth b ((8*b.length-1-j3)/8))>>>((8*b.length-1-j3)%8))&&&1#8).setWidth 64)
def DT(b:AB 8):Nat→AB 64
 |0=>Af 4
 |j3+1=>MN b (DT b j3) j3
@[simp] theorem Mr(b:AB 8)(j3:Nat):(DT b j3).length=4:=by
 induction j3 with
 |zero=>(simp [DT, *];done)
 |succ j3 ih=>rw [DT.eq_2,MN];(simp [ih];done)
def Ix(b:AB 8):AB 64:=(DT b (8*b.length))
theorem Zz(b:AB 8)(n cap:Nat)(hb:b.length=n)(hn:n≤1099511627776):Ev prog (.call 172 [.c (.sl 0 0 n cap 1)] [B1 (b)]) (.val (EE (Ix b)) [B1 (b)]):=by
 have hP:=Hid.mk (Ix.eq_1 b)
 subst hb
 refine AJ func172 rfl ntmps172 rfl AN ?_;refine AG ?_;refine QI ?_;refine AS ?_;refine QI ?_;refine AW ?_;refine Bt ?_;refine JP ?_;refine NG ?_;refine A7 ?_;refine AT [0,2,3,4] (fun (zz:Nat×AB 64)=>⟨26,AQ [0,2,3,4] [.c (.sl 0 0 b.length cap 1),Ai 1,Ai 2,Aj (dw (((8*b.length:Nat):Int)-((1:Nat):Int)) zz.1)],[B1 (b),CA (Af 4),CA (zz.2)]⟩) (fun j3=>(j3,DT b j3)) (8*b.length) K_ ?_ ?_
 ·intro j3 hj3
  try dsimp only
  have hX1:(DT b j3).length=4:=by rw [Mr b _];try omega
  rw [DT.eq_2,MN]
  generalize DT b j3=X1 at*
  rw [show dw (((8*b.length:Nat):Int)-((1:Nat):Int)) j3=((8*b.length-1-j3:Nat):Int) from by rw [YM];omega]
  refine BC ?_;refine RA ?_;refine AM ?_;have hQ2:(Hy X1 ((((nth b ((8*b.length-1-j3)/8))>>>((8*b.length-1-j3)%8))&&&1#8).setWidth 64)).length=4:=Au
  refine S_ ?_;refine L4 ?_;refine dY ?_;refine By ?_;refine Rq ?_;refine bg ?_;refine Kx ?_;refine A0 ?_;refine Rl ?_;refine AE (Ql rfl rfl) rfl ?_;refine AE (Lr (b:=1#8) rfl rfl) rfl ?_;refine be ?_;refine At (cC X1 ((((nth b ((8*b.length-1-j3)/8))>>>((8*b.length-1-j3)%8))&&&1#8).setWidth 64) AD) vb ?_;refine Bc ?_;refine RN ?_;refine AW ?_;refine NG ?_;refine Bv ?_;refine ⟨(j3+1,_),(by
   dsimp only
   rw [show dw (((8*b.length:Nat):Int)-((1:Nat):Int)) (j3+1)=((8*b.length-1-j3:Nat):Int)-1 from by rw [YM];omega]
   kernel_rfl),rfl⟩
 ·try dsimp only
  have hY3:(DT b (8*b.length)).length=4:=by rw [Mr b _];try omega
  generalize DT b (8*b.length)=Y3 at*
  rw [show dw (((8*b.length:Nat):Int)-((1:Nat):Int)) (8*b.length)= -1 from by rw [YM];omega]
  refine BC ?_;refine PK ?_;refine AS ?_;refine Yh ?_;refine RN ?_;refine A1 ?_;rw [hP.out]
  exact T7
@[simp] theorem vl(b:AB 8):(Ix b).length=4:=by
 unfold Ix
 (simp [Mr, *];done)
attribute [irreducible] Ix
def OP(a b c:AB 8):AB 8:=GA (Ix (Gx (Fi a) (Fi b) (Fi c)))
theorem Zb(a b c:AB 8)(ha:a.length=32)(hb:b.length=32)(hc:c.length=32):Ev prog (.call 145 [Co (a),Co (b),Co (c)] []) (.val (Co (OP a b c)) []):=by
 have hP:=Hid.mk (OP.eq_1 a b c)
 refine AJ func145 rfl ntmps145 rfl AN ?_;refine B5 ?_;refine bp ?_;refine E7 ?_;refine AM ?_;have hQ1:(Fi a).length=4:=Au
 have hQ2:(Fi b).length=4:=Au
 have hQ3:(Fi c).length=4:=Au
 have hQ4:(Gx (Fi a) (Fi b) (Fi c)).length=72:=Au
 have hQ5:(Ix (Gx (Fi a) (Fi b) (Fi c))).length=4:=Au
 have hQ6:(GA (Ix (Gx (Fi a) (Fi b) (Fi c)))).length=32:=Au
 refine S_ ?_;refine KA ?_;refine FZ ?_;refine At (XI a AD) dz ?_;refine FZ ?_;refine At (XI b AD) dz ?_;refine FZ ?_;refine At (XI c AD) dz ?_;refine At (jI (Fi a) (Fi b) (Fi c) AD AD AD) sa ?_;refine Iv (AZ (bs:=[4]) (Zz (Gx (Fi a) (Fi b) (Fi c)) 72 72 AD AD) nM K_ K_ rfl Bb) AK rfl ?_;refine At (UY (Ix (Gx (Fi a) (Fi b) (Fi c))) AD) nm ?_;refine Bc ?_;refine EW ?_;rw [hP.out]
 exact Eo
attribute [irreducible] OP
def QZ(b:AB 8):AB 8:=GA (Ix b)
theorem iH(b:AB 8)(n cap:Nat)(hb:b.length=n)(hn:n≤1099511627776)(hN:n≤64):Ev prog (.call 130 [.c (.sl 0 0 n cap 1)] [B1 (b)]) (.val (.tup [Co (QZ b),Aj ((0:Nat):Int)]) [B1 (b)]):=by
 have hP_scModT0:Hid (QZ b=GA (Ix b)):=⟨rfl⟩
 subst hb
 refine AJ func130 rfl ntmps130 rfl AN ?_;refine JU ?_;refine AY ?_;refine Bt ?_;refine AA (Il (b:=64) rfl rfl) rfl ?_;refine AM ?_;have hQ1:(Ix b).length=4:=Au
 have hQ2:(GA (Ix b)).length=32:=Au
 refine BC ?_;refine Mq (Zz b b.length cap AD AD) nM ?_;refine BL (UY (Ix b) AD) nm ?_;refine Is ?_;refine A7 ?_;rw [hP_scModT0.out]
 exact RT
attribute [irreducible] QZ
theorem four{a:AB 64}(h:a.length=4):∃a0 a1 a2 a3,a=[a0,a1,a2,a3]:=by
 match a,h with
 |[a0,a1,a2,a3],_=>exact ⟨_,_,_,_,rfl⟩
theorem Wu(a:AB 64):wV a<115792089237316195423570985008687907853269984665640564039457584007913129639936:=by
 have h0:=(nth a 0).isLt
 have h1:=(nth a 1).isLt
 have h2:=(nth a 2).isLt
 have h3:=(nth a 3).isLt
 unfold wV
 omega
theorem ij{x y c:BitVec 64}(hc:c.toNat≤1):(Cj x y c).toNat=(x.toNat+y.toNat+c.toNat)/18446744073709551616:=by
 have:=x.isLt
 have:=y.isLt
 unfold Cj
 rw [BitVec.toNat_ofNat]
 omega
theorem za(x y c:BitVec 64):(x+y+c).toNat=(x.toNat+y.toNat+c.toNat)%18446744073709551616:=by
 rw [BitVec.toNat_add,BitVec.toNat_add]
 omega
theorem O3(x y c:BitVec 64):(Hl x y c).toNat=if x.toNat<y.toNat+c.toNat then 1 else 0:=by
 unfold Hl
 split<;>rfl
theorem qM(x y c:BitVec 64):(x-y-c).toNat=(x.toNat+36893488147419103232-y.toNat-c.toNat)%18446744073709551616:=by
 have:=x.isLt
 have:=y.isLt
 have:=c.isLt
 rw [BitVec.toNat_sub,BitVec.toNat_sub]
 omega
theorem WT{a b:AB 64}(ha:a.length=4)(hb:b.length=4):wV (Mb a b)+wV b=wV a+(Mj a b).toNat*115792089237316195423570985008687907853269984665640564039457584007913129639936∧(Mj a b).toNat≤1:=by
 obtain ⟨a0,a1,a2,a3,rfl⟩:=four ha
 obtain ⟨b0,b1,b2,b3,rfl⟩:=four hb
 have z:(0#64:BitVec 64).toNat=0:=rfl
 have e0:Mb [a0,a1,a2,a3] [b0,b1,b2,b3]=[a0-b0-0#64,a1-b1-Hl a0 b0 0#64,a2-b2-Hl a1 b1 (Hl a0 b0 0#64),a3-b3-Hl a2 b2 (Hl a1 b1 (Hl a0 b0 0#64))]:=by unfold Mb;rfl
 have e1:Mj [a0,a1,a2,a3] [b0,b1,b2,b3]=Hl a3 b3 (Hl a2 b2 (Hl a1 b1 (Hl a0 b0 0#64))):=by unfold Mj;rfl
 rw [e0,e1]
 have i0:=a0.isLt
 have i1:=a1.isLt
 have i2:=a2.isLt
 have i3:=a3.isLt
 have j0:=b0.isLt
 have j1:=b1.isLt
 have j2:=b2.isLt
 have j3:=b3.isLt
 have c1:=O3 a0 b0 0#64
 have s0:=qM a0 b0 0#64
 generalize Hl a0 b0 0#64=k1 at*
 have c2:=O3 a1 b1 k1
 have s1:=qM a1 b1 k1
 generalize Hl a1 b1 k1=k2 at*
 have c3:=O3 a2 b2 k2
 have s2:=qM a2 b2 k2
 generalize Hl a2 b2 k2=k3 at*
 have c4:=O3 a3 b3 k3
 have s3:=qM a3 b3 k3
 generalize Hl a3 b3 k3=k4 at*
 show (a0-b0-0#64).toNat+(a1-b1-k1).toNat*_+(a2-b2-k2).toNat*_+(a3-b3-k3).toNat*_+(b0.toNat+b1.toNat*_+b2.toNat*_+b3.toNat*_)=a0.toNat+a1.toNat*_+a2.toNat*_+a3.toNat*_+_∧_
 rw [s0,s1,s2,s3]
 rw [z] at*
 split at c1<;>split at c2<;>split at c3<;>split at c4<;>(rw [c1] at*;rw [c2] at*;rw [c3] at*;rw [c4];constructor<;>omega)
end Go.Proofs.YtmbepikkgkcgkaaGreatDoor
