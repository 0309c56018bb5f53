/- Merged and shortened by a program: part 10. -/
import Derived.Test.YtmbepikkgkcgkaaGreatDoorUB9
set_option maxRecDepth 100000
set_option maxHeartbeats 8000000
namespace Go.Proofs.YtmbepikkgkcgkaaGreatDoor
open Go.RowKit
variable {g r : Prop}
open Go.Proofs.Tryz
def S0(X1:BitVec 64)(X2:AB 64)(j2:Nat):BitVec 64×AB 64:=((nth X2 j2)>>>63,put X2 j2 (((nth X2 j2)<<<1) ||| X1))
def E6(a:AB 64)(bit:BitVec 64):Nat→BitVec 64×AB 64
 |0=>(bit,a)
 |j2+1=>S0 (E6 a bit j2).1 (E6 a bit j2).2 j2
theorem ML(a:AB 64)(bit:BitVec 64)(ha:a.length=4)(j2:Nat):(E6 a bit j2).2.length=4:=by
 induction j2 with
 |zero=>(simp (maxDischargeDepth:=9) [E6, *];done)
 |succ j2 ih=>rw [E6.eq_2,S0];(simp (maxDischargeDepth:=9) [ih];done)
def Mb(X9:BitVec 64)(X10:AB 64)(j10:Nat):BitVec 64×AB 64:=(IN (nth X10 j10) (nth Bq j10) X9,put X10 j10 ((nth X10 j10)-(nth Bq j10)-X9))
def Di(Y5:AB 64):Nat→BitVec 64×AB 64
 |0=>(0#64,Y5)
 |j10+1=>Mb (Di Y5 j10).1 (Di Y5 j10).2 j10
theorem K5(Y5:AB 64)(hY5:Y5.length=4)(j10:Nat):(Di Y5 j10).2.length=4:=by
 induction j10 with
 |zero=>(simp (maxDischargeDepth:=9) [Di, *];done)
 |succ j10 ih=>rw [Di.eq_2,Mb];(simp (maxDischargeDepth:=9) [ih];done)
def dQ(a:AB 64)(bit:BitVec 64):AB 64:=((Di ((E6 a bit 4).2) 4).2)
theorem nv(Y:AB 64)(j:Nat):(Di Y j).1.toNat≤1:=by
 induction j with
 |zero=>show (0#64).toNat≤1;decide
 |succ j ih=>rw [Di.eq_2,Mb];exact ik _ _ _
theorem sG(a:AB 64)(bit:BitVec 64)(ha:a.length=4)(hl:(CF (E6 a bit 4).2 Bq 4==1#64)=false):Ev prog (.call 190 [EQ (a),.c (.val (BW bit))] []) (.val (EQ (dQ a bit)) []):=by
 have hP:=Hid.mk (dQ.eq_1 a bit)
 refine AG func190 rfl ntmps190 rfl AH ?_;refine Bg ?_;refine RQ ?_;refine Dd ?_;refine AU [1,2,4,9] (fun (zz:Nat×BitVec 64×AB 64)=>⟨47,AS [1,2,4,9] [.c (.val (BW (zz.2.1))),Al 0,Al 1,Ae (((zz.1:Nat):Int))],[CH (zz.2.2),CH (Aj 4)]⟩) (fun j2=>(j2,E6 a bit j2)) (4) K_ ?_ ?_
 ·intro j2 hj2
  try dsimp only
  have hX2:(E6 a bit j2).2.length=4:=by rw [ML a bit ha _];try omega
  rw [E6.eq_2,S0]
  generalize E6 a bit j2=Z3 at*
  obtain ⟨X1,X2⟩:=Z3
  try dsimp only at*
  refine AK ?_;refine Lu ?_;refine CT ?_;refine Pm [0] mixed K_ ?_;refine JO ?_;refine JO ?_;refine Sy ?_;(refine Fq K_ (Iw rfl rfl NR Dw) rfl ?_)
  refine E3 (CA (j:=1) rfl rfl) rfl ?_;refine JO ?_;refine E3 (Vp rfl rfl) rfl ?_;refine JO ?_;refine Sy ?_;(refine Fq K_ (Iw rfl rfl NR Dw) rfl ?_)
  refine E3 (CY (j:=63) rfl rfl) rfl ?_;refine Sy ?_;refine Xm rfl rfl rfl rfl BX Dw AM ?_;refine E3 (Ac rfl) rfl ?_;refine ib ?_;refine AK ?_;refine F9 ?_;exact ⟨(j2+1,_),K_,rfl⟩
 ·try dsimp only
  have hY5:(E6 a bit 4).2.length=4:=by rw [ML a bit ha _];try omega
  generalize E6 a bit 4=Z6 at*
  obtain ⟨Y4,Y5⟩:=Z6
  try dsimp only at*
  refine AK ?_;refine PV ?_;refine AN ?_;have hQ7:(Bq).length=4:=An
  refine S_ ?_;refine RF ?_;refine fG ?_;refine Am (NX) ZA ?_;refine Am (Tq Y5 Bq AD AD) fl ?_;refine Gw ?_;refine Bu rfl (hl) ?_;refine AK ?_;refine Bc ?_;have hQ8:(Bq).length=4:=An
  refine AK ?_;refine A7 (NX) ZA ?_;refine RO ?_;refine AU [2,4,6,29,30] (fun (zz:Nat×BitVec 64×AB 64)=>⟨47,AS [2,4,6,29,30] [Al 0,Al 1,.c (.val (BW (zz.2.1))),EQ (Bq),Ae (((zz.1:Nat):Int))],[CH (zz.2.2),CH (Aj 4)]⟩) (fun j10=>(j10,Di Y5 j10)) (4) K_ ?_ ?_
  ·intro j10 hj10
   try dsimp only
   have hX10:(Di Y5 j10).2.length=4:=by rw [K5 Y5 hY5 _];try omega
   have hc:=nv Y5 j10
   rw [Di.eq_2,Mb]
   generalize Di Y5 j10=Z11 at*
   obtain ⟨X9,X10⟩:=Z11
   try dsimp only at*
   refine AK ?_;refine Lu ?_;refine AZ ?_;refine AA (wU rfl rfl underlying155 BX NR O_ Dw) rfl ?_;refine G4 ?_;refine BH ?_;refine Zi ?_;refine D2 ?_;refine AR ?_;refine Bh (vJ jm rfl rfl rfl (rfl:_=BW (X9)) (by repeat ((assumption)))) AM rfl ?_
   refine Cx ?_;refine Zi ?_;refine Fw ?_;refine Ad ?_;refine F9 ?_;exact ⟨(j10+1,_),K_,rfl⟩
  ·try dsimp only
   have hY13:(Di Y5 4).2.length=4:=by rw [K5 Y5 hY5 _];try omega
   have hc:=nv Y5 4
   generalize Di Y5 4=Z14 at*
   obtain ⟨Y12,Y13⟩:=Z14
   try dsimp only at*
   refine AK ?_;refine PV ?_;refine AQ ?_;refine aE ?_;refine Tg ?_;refine A6 ?_;rw [hP.out]
   exact Vz
@[simp] theorem qK(a:AB 64)(bit:BitVec 64)(ha:a.length=4):(dQ a bit).length=4:=by
 unfold dQ
 (simp (maxDischargeDepth:=9) [ML,K5, *];done)
attribute [irreducible] dQ
def gF(E:Int):Nat→Int
 |0=>E
 |n+1=>gF E n-1
theorem Ze(E:Int)(n:Nat):gF E n=E-n:=by
 induction n with
 |zero=>exact (Int.sub_zero E).symm
 |succ n ih=>rw [gF,ih];omega
theorem cL(a:AB 64)(bit:BitVec 64)(j:Nat):E6 a bit j=D6 a bit j:=by
 induction j with
 |zero=>rfl
 |succ j ih=>rw [E6,D6,ih];rfl
def mV(a:AB 64)(bit:BitVec 64):AB 64:=(D6 a bit 4).2
def Ib(a:AB 64)(bit:BitVec 64):AB 64:=if (CF (mV a bit) Bq 4==1#64)=true then fV a bit else dQ a bit
@[simp] theorem bK(a:AB 64)(bit:BitVec 64)(ha:a.length=4):(Ib a bit).length=4:=by
 unfold Ib
 split
 ·exact qP a bit ha
 ·exact qK a bit ha
theorem eD(a:AB 64)(bit:BitVec 64)(ha:a.length=4):Ev prog (.call 190 [EQ (a),.c (.val (BW bit))] []) (.val (EQ (Ib a bit)) []):=by
 unfold Ib mV
 cases h:(CF (D6 a bit 4).2 Bq 4==1#64) with
 |true=>exact sA a bit ha h
 |false=>exact sG a bit ha (by rw [cL];exact h)
attribute [irreducible] Ib
def Me(b:AB 8)(X1:AB 64)(j3:Nat):AB 64:=Ib X1 ((((nth b ((8*b.length-1-j3)/8))>>>((8*b.length-1-j3)%8))&&&1#8).setWidth 64)
def Dj(b:AB 8):Nat→AB 64
 |0=>Aj 4
 |j3+1=>Me b (Dj b j3) j3
@[simp] theorem MT(b:AB 8)(j3:Nat):(Dj b j3).length=4:=by
 induction j3 with
 |zero=>(simp [Dj, *];done)
 |succ j3 ih=>rw [Dj.eq_2,Me];(simp [ih];done)
def JS(b:AB 8):AB 64:=(Dj b (8*b.length))
theorem bq(b:AB 8)(n cap:Nat)(hb:b.length=n)(hn:n≤1099511627776):Ev prog (.call 172 [.c (.sl 0 0 n cap 1)] [Bw (b)]) (.val (EQ (JS b)) [Bw (b)]):=by
 have hP:=Hid.mk (JS.eq_1 b)
 subst hb
 refine AG func172 rfl ntmps172 rfl AH ?_;refine AK ?_;refine RQ ?_;refine AQ ?_;refine RQ ?_;refine AZ ?_;refine CV ?_;refine TY ?_;refine Nv ?_;refine Ay ?_;refine AU [0,2,3,4] (fun (zz:Nat×AB 64)=>⟨26,AS [0,2,3,4] [.c (.sl 0 0 b.length cap 1),Al 1,Al 2,Ae (gF (((8*b.length:Nat):Int)-((1:Nat):Int)) zz.1)],[Bw (b),CH (Aj 4),CH (zz.2)]⟩) (fun j3=>(j3,Dj b j3)) (8*b.length) K_ ?_ ?_
 ·intro j3 hj3
  try dsimp only
  have hX1:(Dj b j3).length=4:=by rw [MT b _];try omega
  rw [Dj.eq_2,Me]
  generalize Dj b j3=X1 at*
  rw [show gF (((8*b.length:Nat):Int)-((1:Nat):Int)) j3=((8*b.length-1-j3:Nat):Int) from by rw [Ze];omega]
  refine A9 ?_;refine R1 ?_;refine AN ?_;have hQ2:(Ib X1 ((((nth b ((8*b.length-1-j3)/8))>>>((8*b.length-1-j3)%8))&&&1#8).setWidth 64)).length=4:=An
  refine S_ ?_;refine KL ?_;refine fG ?_;refine Bt ?_;refine Tf ?_;refine fw ?_;refine LD ?_;refine Ah ?_;refine TK ?_;refine AE (RX rfl rfl) rfl ?_;refine AE (Ng (b:=1#8) rfl rfl) rfl ?_;refine ed ?_;refine Am (eD X1 ((((nth b ((8*b.length-1-j3)/8))>>>((8*b.length-1-j3)%8))&&&1#8).setWidth 64) AD) xM ?_;refine Bn ?_;refine Tg ?_;refine AZ ?_;refine Nv ?_;refine Bc ?_;refine ⟨(j3+1,_),(by
   dsimp only
   rw [show gF (((8*b.length:Nat):Int)-((1:Nat):Int)) (j3+1)=((8*b.length-1-j3:Nat):Int)-1 from by rw [Ze];omega]
   kernel_rfl),rfl⟩
 ·try dsimp only
  have hY3:(Dj b (8*b.length)).length=4:=by rw [MT b _];try omega
  generalize Dj b (8*b.length)=Y3 at*
  rw [show gF (((8*b.length:Nat):Int)-((1:Nat):Int)) (8*b.length)= -1 from by rw [Ze];omega]
  refine A9 ?_;refine QP ?_;refine AQ ?_;refine aE ?_;refine Tg ?_;refine A6 ?_;rw [hP.out]
  exact Vz
@[simp] theorem yz(b:AB 8):(JS b).length=4:=by
 unfold JS
 (simp [MT, *];done)
attribute [irreducible] JS
def O6(a b c:AB 8):AB 8:=Gn (JS (Hm (FU a) (FU b) (FU c)))
theorem dW(a b c:AB 8)(ha:a.length=32)(hb:b.length=32)(hc:c.length=32):Ev prog (.call 145 [B4 (a),B4 (b),B4 (c)] []) (.val (B4 (O6 a b c)) []):=by
 have hP:=Hid.mk (O6.eq_1 a b c)
 refine AG func145 rfl ntmps145 rfl AH ?_;refine BY ?_;refine dz ?_;refine EB ?_;refine AN ?_;have hQ1:(FU a).length=4:=An
 have hQ2:(FU b).length=4:=An
 have hQ3:(FU c).length=4:=An
 have hQ4:(Hm (FU a) (FU b) (FU c)).length=72:=An
 have hQ5:(JS (Hm (FU a) (FU b) (FU c))).length=4:=An
 have hQ6:(Gn (JS (Hm (FU a) (FU b) (FU c)))).length=32:=An
 refine S_ ?_;refine II ?_;refine DS ?_;refine Am (Ur a AD) Yt ?_;refine DS ?_;refine Am (Ur b AD) Yt ?_;refine DS ?_;refine Am (Ur c AD) Yt ?_;refine Am (km (FU a) (FU b) (FU c) AD AD AD) wL ?_;refine Io (AY (bs:=[4]) (bq (Hm (FU a) (FU b) (FU c)) 72 72 AD AD) qL K_ K_ rfl BT) AM rfl ?_;refine Am (VT (JS (Hm (FU a) (FU b) (FU c))) AD) rY ?_;refine Bn ?_;refine Em ?_;rw [hP.out]
 exact FC
attribute [irreducible] O6
theorem eY(n:AB 8)(hn:n.length=32):Ev prog (.call 90 [B4 (n)] []) (.val (.c (.val (.bool ((CF (FU n) Bq 4)==1#64)))) []):=by
 refine AG func90 rfl ntmps90 rfl AH ?_;refine Bg ?_;refine Bc ?_;have hQ1:(FU n).length=4:=An
 have hQ2:(Bq).length=4:=An
 refine CC ?_;refine A7 (Ur n AD) Yt ?_;refine A7 (NX) ZA ?_;refine A7 (Tq (FU n) Bq AD AD) fl ?_;exact B6
def Ra(b:AB 8):AB 8:=Gn (JS b)
theorem lC(b:AB 8)(n cap:Nat)(hb:b.length=n)(hn:n≤1099511627776)(hN:n≤64):Ev prog (.call 130 [.c (.sl 0 0 n cap 1)] [Bw (b)]) (.val (.tup [B4 (Ra b),Ae ((0:Nat):Int)]) [Bw (b)]):=by
 have hP_scModT0:Hid (Ra b=Gn (JS b)):=⟨rfl⟩
 subst hb
 refine AG func130 rfl ntmps130 rfl AH ?_;refine KP ?_;refine Ab ?_;refine CV ?_;refine AA (Fd (b:=64) rfl rfl) rfl ?_;refine AN ?_;have hQ1:(JS b).length=4:=An
 have hQ2:(Gn (JS b)).length=32:=An
 refine A9 ?_;refine TD (bq b b.length cap AD AD) qL ?_;refine A7 (VT (JS b) AD) rY ?_;refine F5 ?_;refine Ay ?_;rw [hP_scModT0.out]
 exact K6
attribute [irreducible] Ra
theorem four{a:AB 64}(h:a.length=4):∃a0 a1 a2 a3,a=[a0,a1,a2,a3]:=by
 match a,h with
 |[a0,a1,a2,a3],_=>exact ⟨_,_,_,_,rfl⟩
theorem Xu(a:AB 64):wV a<115792089237316195423570985008687907853269984665640564039457584007913129639936:=by
 have h0:=(nth a 0).isLt
 have h1:=(nth a 1).isLt
 have h2:=(nth a 2).isLt
 have h3:=(nth a 3).isLt
 unfold wV
 omega
theorem jv{x y c:BitVec 64}(hc:c.toNat≤1):(Cw x y c).toNat=(x.toNat+y.toNat+c.toNat)/18446744073709551616:=by
 have:=x.isLt
 have:=y.isLt
 unfold Cw
 rw [BitVec.toNat_ofNat]
 omega
theorem AB4(x y c:BitVec 64):(x+y+c).toNat=(x.toNat+y.toNat+c.toNat)%18446744073709551616:=by
 rw [BitVec.toNat_add,BitVec.toNat_add]
 omega
theorem Px(x y c:BitVec 64):(IN x y c).toNat=if x.toNat<y.toNat+c.toNat then 1 else 0:=by
 unfold IN
 split<;>rfl
theorem sK(x y c:BitVec 64):(x-y-c).toNat=(x.toNat+36893488147419103232-y.toNat-c.toNat)%18446744073709551616:=by
 have:=x.isLt
 have:=y.isLt
 have:=c.isLt
 rw [BitVec.toNat_sub,BitVec.toNat_sub]
 omega
theorem YK{a b:AB 64}(ha:a.length=4)(hb:b.length=4):wV (Ml a b)+wV b=wV a+(MR a b).toNat*115792089237316195423570985008687907853269984665640564039457584007913129639936∧(MR a b).toNat≤1:=by
 obtain ⟨a0,a1,a2,a3,rfl⟩:=four ha
 obtain ⟨b0,b1,b2,b3,rfl⟩:=four hb
 have z:(0#64:BitVec 64).toNat=0:=rfl
 have e0:Ml [a0,a1,a2,a3] [b0,b1,b2,b3]=[a0-b0-0#64,a1-b1-IN a0 b0 0#64,a2-b2-IN a1 b1 (IN a0 b0 0#64),a3-b3-IN a2 b2 (IN a1 b1 (IN a0 b0 0#64))]:=by unfold Ml;rfl
 have e1:MR [a0,a1,a2,a3] [b0,b1,b2,b3]=IN a3 b3 (IN a2 b2 (IN a1 b1 (IN a0 b0 0#64))):=by unfold MR;rfl
 rw [e0,e1]
 have i0:=a0.isLt
 have i1:=a1.isLt
 have i2:=a2.isLt
 have i3:=a3.isLt
 have j0:=b0.isLt
 have j1:=b1.isLt
 have j2:=b2.isLt
 have j3:=b3.isLt
 have c1:=Px a0 b0 0#64
 have s0:=sK a0 b0 0#64
 generalize IN a0 b0 0#64=k1 at*
 have c2:=Px a1 b1 k1
 have s1:=sK a1 b1 k1
 generalize IN a1 b1 k1=k2 at*
 have c3:=Px a2 b2 k2
 have s2:=sK a2 b2 k2
 generalize IN a2 b2 k2=k3 at*
 have c4:=Px a3 b3 k3
 have s3:=sK a3 b3 k3
 generalize IN a3 b3 k3=k4 at*
 show (a0-b0-0#64).toNat+(a1-b1-k1).toNat*_+(a2-b2-k2).toNat*_+(a3-b3-k3).toNat*_+(b0.toNat+b1.toNat*_+b2.toNat*_+b3.toNat*_)=a0.toNat+a1.toNat*_+a2.toNat*_+a3.toNat*_+_∧_
 rw [s0,s1,s2,s3]
 rw [z] at*
 split at c1<;>split at c2<;>split at c3<;>split at c4<;>(rw [c1] at*;rw [c2] at*;rw [c3] at*;rw [c4];constructor<;>omega)
def Nr(a:AB 64):Nat→Nat
 |0=>0
 |n+1=>Nr a n+(nth a n).toNat*18446744073709551616^n
theorem aA(a:AB 64)(p:Nat)(v:BitVec 64)(hp:p<a.length):∀n,Nr (put a p v) n+(if p<n then (nth a p).toNat*18446744073709551616^p else 0)=Nr a n+(if p<n then v.toNat*18446744073709551616^p else 0):=by
 intro n
 induction n with
 |zero=>rfl
 |succ n ih=>
  rw [Nr,Nr,DH _ _ _ _ hp]
  by_cases e:p=n
  ·subst e
   rw [if_neg (Nat.lt_irrefl _),if_neg (Nat.lt_irrefl _)] at ih
   rw [if_pos rfl,if_pos (Nat.lt_succ_self _),if_pos (Nat.lt_succ_self _)]
   omega
  ·rw [if_neg e]
   by_cases h:p<n
   ·rw [if_pos h,if_pos h] at ih
    rw [if_pos O_,if_pos O_]
    omega
   ·rw [if_neg h,if_neg h] at ih
    rw [if_neg O_,if_neg O_]
    omega
theorem fx(x y o c:BitVec 64):((EA x y+Cw (A3 x y) o 0#64)+Cw (A3 x y+o+0#64) c 0#64).toNat*18446744073709551616+((A3 x y+o+0#64)+c+0#64).toNat=x.toNat*y.toNat+o.toNat+c.toNat:=by
 have hx:=x.isLt
 have hy:=y.isLt
 have ho:=o.isLt
 have hc:=c.isLt
 have hxy:x.toNat*y.toNat≤18446744073709551615*18446744073709551615:=Nat.mul_le_mul O_ O_
 have e0:=Qk x y
 have e1:=Q3 x y
 generalize x.toNat*y.toNat=q at*
 have f1:=SG (x:=A3 x y) (y:=o)
 have g1:(A3 x y+o+0#64).toNat=((A3 x y).toNat+o.toNat)%18446744073709551616:=by rw [BitVec.add_zero,BitVec.toNat_add]
 generalize A3 x y+o+0#64=l1 at*
 have f2:=SG (x:=l1) (y:=c)
 have g2:(l1+c+0#64).toNat=(l1.toNat+c.toNat)%18446744073709551616:=by rw [BitVec.add_zero,BitVec.toNat_add]
 have s1:=B7 (x:=EA x y) (y:=Cw (A3 x y) o 0#64) (by rw [e0,f1,e1];omega)
 have s2:=B7 (x:=EA x y+Cw (A3 x y) o 0#64) (y:=Cw l1 c 0#64) (by rw [s1,e0,f1,f2,g1,e1];omega)
 rw [s2,s1,e0,f1,f2,g2,g1,e1]
 omega
theorem zv(V W Tp v Q M c' ab c X:Nat)(h1:V+Tp*Q=W+v*Q)(h2:c'*M+v=ab+Tp+c)(hX:W+c*Q=X):V+c'*(Q*M)=X+ab*Q:=by
 grind
theorem dA(a:AB 64):Nr a 4=wV a:=by
 simp only [Nr,wV,Nat.pow_zero,Nat.reducePow]
 omega
theorem Rc(b:AB 8):wV (FU b)=D8 b 32:=by
 have run:=YT b (Fn b) rfl (fun j=>by rw [Fn,P0]) 32 (Nat.le_refl _)
 have v:∀t,t<4→(nth (Fn b 32) t).toNat=jq b t 8:=fun t ht=>by
  have:=run.2 t ht
  rwa [show min 8 (32-8*t)=8 by omega] at this
 unfold FU wV
 rw [v 0 D_,v 1 D_,v 2 D_,v 3 D_,jW]
theorem T9(a:AB 64):Gn a=XZ (wV a):=by
 unfold Gn
 exact Xd a (C4 a) rfl fun j=>by rw [C4,Jh]
theorem Vv:Bq=[6346243789798364141#64,1503914060200516822#64,0#64,1152921504606846976#64]:=by unfold Bq;rfl
theorem Tt:wV Bq=A2:=by rw [Vv];decide+kernel
theorem TZ:Bq.length=4:=by rw [Vv];rfl
theorem nR(a b:AB 64)(j:Nat):CF a b j=(Lv a b j).1:=by
 induction j with
 |zero=>rfl
 |succ j ih=>rw [CF,Ky,Lv,Wn,ih]
theorem ba{a b:AB 64}(ha:a.length=4)(hb:b.length=4):(CF a b 4==1#64)=decide (wV a<wV b):=by
 obtain ⟨e,hc⟩:=YK ha hb
 have h1:CF a b 4=MR a b:=by rw [nR];unfold MR;rfl
 have l1:=Xu (Ml a b)
 have l2:=Xu a
 rw [h1]
 by_cases h:wV a<wV b
 ·rw [decide_eq_true h,beq_iff_eq]
  apply BitVec.eq_of_toNat_eq
  show _=1
  omega
 ·rw [decide_eq_false h,beq_eq_false_iff_ne]
  intro h2
  have:(MR a b).toNat=1:=by rw [h2];rfl
  omega
theorem uB{y:AB 64}(hy:y.length=4):(Di y 4).2=Ml y Bq:=by
 obtain ⟨y0,y1,y2,y3,rfl⟩:=four hy
 unfold Ml
 rfl
theorem R9(x c:BitVec 64)(hc:c.toNat<2):((x<<<1) ||| c).toNat=(2*x.toNat)%18446744073709551616+c.toNat:=by
 rw [BitVec.or_comm,Mj 1 O_]
 omega
theorem jP(x:BitVec 64):(x>>>63).toNat=x.toNat/9223372036854775808:=by
 rw [BitVec.toNat_ushiftRight,Nat.shiftRight_eq_div_pow]
theorem tf{a:AB 64}(ha:a.length=4)(bit:BitVec 64)(hb:bit.toNat<2)(hl:wV a<A2):(mV a bit).length=4∧wV (mV a bit)=2*wV a+bit.toNat:=by
 obtain ⟨a0,a1,a2,a3,rfl⟩:=four ha
 have e:mV [a0,a1,a2,a3] bit=[(a0<<<1) ||| bit,(a1<<<1) ||| (a0>>>63),(a2<<<1) ||| (a1>>>63),(a3<<<1) ||| (a2>>>63)]:=by unfold mV;rfl
 rw [e]
 refine ⟨rfl,?_⟩
 have i0:=a0.isLt
 have i1:=a1.isLt
 have i2:=a2.isLt
 have i3:=a3.isLt
 have s0:=R9 a0 bit hb
 have s1:=R9 a1 (a0>>>63) (by rw [jP];omega)
 have s2:=R9 a2 (a1>>>63) (by rw [jP];omega)
 have s3:=R9 a3 (a2>>>63) (by rw [jP];omega)
 rw [jP] at s1 s2 s3
 change a0.toNat+a1.toNat*18446744073709551616+a2.toNat*340282366920938463463374607431768211456+a3.toNat*6277101735386680763835789423207666416102355444464034512896<7237005577332262213973186563042994240857116359379907606001950938285454250989 at hl
 show ((a0<<<1) ||| bit).toNat+((a1<<<1) ||| (a0>>>63)).toNat*18446744073709551616+((a2<<<1) ||| (a1>>>63)).toNat*340282366920938463463374607431768211456+((a3<<<1) ||| (a2>>>63)).toNat*6277101735386680763835789423207666416102355444464034512896=2*(a0.toNat+a1.toNat*18446744073709551616+a2.toNat*340282366920938463463374607431768211456+a3.toNat*6277101735386680763835789423207666416102355444464034512896)+bit.toNat
 rw [s0,s1,s2,s3]
 omega
theorem lB{a:AB 64}(ha:a.length=4)(bit:BitVec 64)(hb:bit.toNat<2)(hl:wV a<A2):(Ib a bit).length=4∧wV (Ib a bit)=(2*wV a+bit.toNat)%A2:=by
 obtain ⟨dl,dv⟩:=tf ha bit hb hl
 refine ⟨bK a bit ha,?_⟩
 unfold Ib
 rw [ba dl TZ,Tt,dv]
 by_cases h:2*wV a+bit.toNat<A2
 ·rw [if_pos (decide_eq_true h),Nat.mod_eq_of_lt h]
  unfold fV
  exact dv
 ·rw [if_neg (by rw [decide_eq_false h];decide)]
  have e:dQ a bit=Ml (mV a bit) Bq:=by
   unfold dQ
   rw [cL,show (D6 a bit 4).2=mV a bit by unfold mV;rfl,uB dl]
  rw [e]
  obtain ⟨e2,hc⟩:=YK (a:=mV a bit) (b:=Bq) dl TZ
  rw [Tt,dv] at e2
  have l1:=Xu (Ml (mV a bit) Bq)
  change ¬_<7237005577332262213973186563042994240857116359379907606001950938285454250989 at h
  change _<7237005577332262213973186563042994240857116359379907606001950938285454250989 at hl
  change _+7237005577332262213973186563042994240857116359379907606001950938285454250989=_ at e2
  have hc0:(MR (mV a bit) Bq).toNat=0:=by omega
  rw [hc0] at e2
  have hm:(2*wV a+bit.toNat)%A2=2*wV a+bit.toNat-A2:=by
   rw [Nat.mod_eq_sub_mod (by show 7237005577332262213973186563042994240857116359379907606001950938285454250989≤_;omega),Nat.mod_eq_of_lt]
   show _-7237005577332262213973186563042994240857116359379907606001950938285454250989<7237005577332262213973186563042994240857116359379907606001950938285454250989
   omega
  rw [hm]
  show _=_-7237005577332262213973186563042994240857116359379907606001950938285454250989
  omega
theorem yq(e:AB 8)(n i:Nat)(hi:i<8*n):((((nth e (i/8))>>>(i%8))&&&1#8).setWidth 64).toNat=D8 e n/2^i%2:=by
 have e1:(((nth e (i/8))>>>(i%8))&&&1#8).toNat=((nth e (i/8))>>>(i%8)).toNat%2:=by
  rw [BitVec.toNat_and]
  exact Nat.and_two_pow_sub_one_eq_mod _ 1
 rw [BitVec.toNat_setWidth,e1]
 have h1:=MA e n (i/8) O_
 rw [BitVec.toNat_ushiftRight,Nat.shiftRight_eq_div_pow,←h1]
 have h2:(2:Nat)^i=256^(i/8)*2^(i%8):=by
  rw [show (256:Nat)=2^8 from rfl,←Nat.pow_mul,←Nat.pow_add,Nat.div_add_mod]
 rw [h2,←Nat.div_div_eq_div_mul]
 generalize D8 e n/256^(i/8)=x
 rcases (by omega:i%8=0∨i%8=1∨i%8=2∨i%8=3∨i%8=4∨i%8=5∨i%8=6∨i%8=7) with h | h | h | h | h | h | h | h<;>rw [h]<;>simp only [Nat.reducePow]<;>omega
theorem mv:0<A2:=by unfold A2;decide
theorem step_mod(x b:Nat):(2*(x%A2)+b)%A2=(2*x+b)%A2:=by
 unfold A2
 omega
theorem tc(b:AB 8):∀j,j≤8*b.length→(Dj b j).length=4∧wV (Dj b j)=D8 b b.length/2^(8*b.length-j)%A2:=by
 intro j
 induction j with
 |zero=>
  intro _
  rw [Dj]
  refine ⟨rfl,?_⟩
  have h:=O2 b b.length
  rw [Nat.sub_zero,show (2:Nat)^(8*b.length)=256^b.length by rw [Nat.pow_mul],Nat.div_eq_of_lt h]
  rfl
 |succ j ih=>
  intro hj
  obtain ⟨h1,h2⟩:=ih O_
  rw [Dj,Me]
  have hbit:=yq b b.length (8*b.length-1-j) O_
  obtain ⟨g1,g2⟩:=lB h1 ((((nth b ((8*b.length-1-j)/8))>>>((8*b.length-1-j)%8))&&&1#8).setWidth 64) (by rw [hbit];exact Nat.mod_lt _ D_) (by rw [h2];exact Nat.mod_lt _ mv)
  refine ⟨g1,?_⟩
  rw [g2,hbit,h2,step_mod]
  congr 1
  rw [show 8*b.length-j=(8*b.length-1-j)+1 by omega,show 8*b.length-(j+1)=8*b.length-1-j by omega,Nat.pow_succ,←Nat.div_div_eq_div_mul]
  omega
theorem iG(b:AB 8):wV (JS b)=D8 b b.length%A2:=by
 obtain ⟨_,h⟩:=tc b (8*b.length) (Nat.le_refl _)
 unfold JS
 rw [h,Nat.sub_self,Nat.pow_zero,Nat.div_one]
theorem kO(x y o c:BitVec 64):((EA x y+Cw o (A3 x y) 0#64)+Cw (o+A3 x y+0#64) c 0#64).toNat*18446744073709551616+((o+A3 x y+0#64)+c+0#64).toNat=x.toNat*y.toNat+o.toNat+c.toNat:=by
 have h:=fx x y o c
 rw [BitVec.add_comm o (A3 x y),show Cw o (A3 x y) 0#64=Cw (A3 x y) o 0#64 by unfold Cw;rw [Nat.add_comm o.toNat]]
 exact h
theorem dr{a b T:AB 64}(i:Nat)(hi:i<4)(hT:T.length=9):∀k,k≤4→
  (Bx a b T i k).2.length=9∧Nr (Bx a b T i k).2 9+(Bx a b T i k).1.toNat*18446744073709551616^(i+k)=Nr T 9+(nth a i).toNat*Nr b k*18446744073709551616^i∧ ∀t,i+4≤t→nth (Bx a b T i k).2 t=nth T t:=by
 intro k
 induction k with
 |zero=>intro _;exact ⟨hT,by show Nr T 9+0*_=Nr T 9+_*0*_;rw [Nat.zero_mul,Nat.mul_zero,Nat.zero_mul],fun t _=>rfl⟩
 |succ k ih=>
  intro hk
  obtain ⟨h1,h2,h3⟩:=ih O_
  rw [Bx,Km]
  generalize Bx a b T i k=Y at*
  obtain ⟨c,t⟩:=Y
  dsimp only at h1 h2 h3 ⊢
  rw [T5,DH _ _ _ _ O_,if_pos rfl]
  have hw:=kO (nth a i) (nth b k) (nth t (i+k)) c
  generalize nth t (i+k)+A3 (nth a i) (nth b k)+0#64+c+0#64=v at*
  generalize EA (nth a i) (nth b k)+Cw (nth t (i+k)) (A3 (nth a i) (nth b k)) 0#64+Cw (nth t (i+k)+A3 (nth a i) (nth b k)+0#64) c 0#64=c' at*
  have hp:=aA t (i+k) v O_ 9
  rw [if_pos O_,if_pos O_] at hp
  refine ⟨by rw [B1,h1],?_,fun s hs=>?_⟩
  ·have:=zv _ _ _ _ _ _ _ _ _ _ hp hw h2
   have e:(nth a i).toNat*Nr b (k+1)*18446744073709551616^i=(nth a i).toNat*Nr b k*18446744073709551616^i+(nth a i).toNat*(nth b k).toNat*18446744073709551616^(i+k):=by
    rw [show Nr b (k+1)=Nr b k+(nth b k).toNat*18446744073709551616^k from rfl,Nat.pow_add]
    generalize 18446744073709551616^i=p
    generalize 18446744073709551616^k=q
    grind
   rw [←Nat.add_assoc i k 1,Nat.pow_succ,this,e,Nat.add_assoc]
  ·rw [DH _ _ _ _ O_,if_neg O_];exact h3 s hs
theorem eE{a b:AB 64}:∀i,i≤4→(By a b i).length=9∧Nr (By a b i) 9=Nr a i*Nr b 4∧ ∀t,i+4≤t→nth (By a b i) t=0#64:=by
 intro i
 induction i with
 |zero=>
  intro _
  refine ⟨rfl,?_,fun t _=>?_⟩
  ·show Nr (Aj 9) 9=0*_
   rw [Nat.zero_mul];decide
  ·show nth (Aj 9) t=0#64
   unfold nth Aj
   rw [List.getD_eq_getElem?_getD,List.getElem?_replicate]
   split<;>rfl
 |succ i ih=>
  intro hi
  obtain ⟨h1,h2,h3⟩:=ih O_
  obtain ⟨g1,g2,g3⟩:=dr (a:=a) (b:=b) (T:=By a b i) i O_ h1 4 (Nat.le_refl _)
  rw [By,Ks]
  generalize Bx a b (By a b i) i 4=Y at*
  obtain ⟨c,t⟩:=Y
  dsimp only at g1 g2 g3 ⊢
  have hp:=aA t (i+4) c O_ 9
  rw [if_pos O_,if_pos O_,g3 (i+4) O_,h3 (i+4) O_,show (0#64:BitVec 64).toNat=0 from rfl,Nat.zero_mul,Nat.add_zero,g2,h2] at hp
  refine ⟨by rw [B1,g1],?_,fun s hs=>?_⟩
  ·rw [hp,show Nr a (i+1)=Nr a i+(nth a i).toNat*18446744073709551616^i from rfl,Nat.add_mul]
   congr 1
   generalize 18446744073709551616^i=p
   grind
  ·rw [DH _ _ _ _ O_,if_neg O_,g3 s O_,h3 s O_]
def sF(c:AB 64)(j:Nat):BitVec 64:=if j<4 then nth c j else 0#64
def rQ(c:AB 64):Nat→Nat
 |0=>0
 |n+1=>rQ c n+(sF c n).toNat*18446744073709551616^n
theorem rU(c:AB 64):rQ c 9=wV c:=by
 simp only [rQ,sF,wV,Nat.pow_zero,Nat.reducePow,show (0#64:BitVec 64).toNat=0 from rfl,Nat.reduceLT,if_true,if_false]
 omega
theorem qV{c Y:AB 64}(hY:Y.length=9):∀j,j≤9→(BN c Y j).2.length=9∧Nr (BN c Y j).2 9+(BN c Y j).1.toNat*18446744073709551616^j=Nr Y 9+rQ c j∧ ∀t,j≤t→nth (BN c Y j).2 t=nth Y t:=by
 intro j
 induction j with
 |zero=>intro _;exact ⟨hY,by show Nr Y 9+0*_=Nr Y 9+0;rw [Nat.zero_mul],fun t _=>rfl⟩
 |succ j ih=>
  intro hj
  obtain ⟨h1,h2,h3⟩:=ih O_
  have hc:=Vw c Y j
  rw [BN,Ha]
  generalize BN c Y j=X at*
  obtain ⟨k,t⟩:=X
  dsimp only at h1 h2 h3 hc ⊢
  rw [show (if j<4 then nth c j else 0#64)=sF c j from rfl]
  have hv:(nth t j+sF c j+k).toNat+(Cw (nth t j) (sF c j) k).toNat*18446744073709551616=(nth t j).toNat+(sF c j).toNat+k.toNat:=by
   rw [jv hc,AB4]
   omega
  generalize nth t j+sF c j+k=v at*
  generalize Cw (nth t j) (sF c j) k=k' at*
  have hp:=aA t j v O_ 9
  rw [if_pos O_,if_pos O_] at hp
  refine ⟨by rw [B1,h1],?_,fun s hs=>?_⟩
  ·rw [rQ,Nat.pow_succ]
   generalize 18446744073709551616^j=Q at*
   generalize 18446744073709551616=M at*
   generalize Nr (put t j v) 9=V at*
   generalize Nr t 9=W at*
   generalize Nr Y 9=S at*
   clear h1 h3
   have e1:k'.toNat*(Q*M)=(k'.toNat*M)*Q:=by rw [Nat.mul_comm Q M,Nat.mul_assoc]
   have e2:(k'.toNat*M)*Q+v.toNat*Q=(nth t j).toNat*Q+(sF c j).toNat*Q+k.toNat*Q:=by rw [←Nat.add_mul,←Nat.add_mul,←Nat.add_mul,←hv,Nat.add_comm]
   rw [e1]
   omega
  ·rw [DH _ _ _ _ O_,if_neg O_];exact h3 s O_
theorem mn(a:AB 64)(n:Nat):Nr a n<18446744073709551616^n:=by
 induction n with
 |zero=>exact Nat.one_pos
 |succ n ih=>
  rw [Nr,Nat.pow_succ]
  have h:=(nth a n).isLt
  have:(nth a n).toNat*18446744073709551616^n≤18446744073709551615*18446744073709551616^n:=Nat.mul_le_mul_right _ O_
  omega
theorem mI(a:AB 64)(n i:Nat)(h:i<n):Nr a n/18446744073709551616^i%18446744073709551616=(nth a i).toNat:=by
 induction n with
 |zero=>omega
 |succ n ih=>
  rw [Nr]
  have hp:0<18446744073709551616^i:=Nat.pow_pos D_
  by_cases e:i=n
  ·subst e
   rw [Nat.add_mul_div_right _ _ hp,Nat.div_eq_of_lt (mn a i),Nat.zero_add,Nat.mod_eq_of_lt (nth a i).isLt]
  ·obtain ⟨k,hk⟩:∃k,n=i+(k+1):=⟨n-i-1,by omega⟩
   rw [←ih O_,hk,Nat.pow_add,Nat.pow_succ,show (nth a (i+(k+1))).toNat*(18446744073709551616^i*(18446744073709551616^k*18446744073709551616))=((nth a (i+(k+1))).toNat*18446744073709551616^k*18446744073709551616)*18446744073709551616^i from by grobner,Nat.add_mul_div_right _ _ hp,Nat.add_mul_mod_self_right]
theorem byte_of(a:AB 64)(n i:Nat)(hi:i<8*n):(((nth a (i/8))>>>(8*(i%8))).setWidth 8).toNat=Nr a n/256^i%256:=by
 rw [BitVec.toNat_setWidth,BitVec.toNat_ushiftRight,Nat.shiftRight_eq_div_pow,←mI a n (i/8) O_]
 have h2:(256:Nat)^i=18446744073709551616^(i/8)*2^(8*(i%8)):=by
  rw [show (18446744073709551616:Nat)=256^8 from rfl,←Nat.pow_mul,show (2:Nat)^(8*(i%8))=256^(i%8) by rw [Nat.pow_mul],←Nat.pow_add,Nat.div_add_mod]
 rw [h2,←Nat.div_div_eq_div_mul]
 generalize Nr a n/18446744073709551616^(i/8)=x
 rcases (by omega:i%8=0∨i%8=1∨i%8=2∨i%8=3∨i%8=4∨i%8=5∨i%8=6∨i%8=7) with h | h | h | h | h | h | h | h<;>rw [h]<;>simp only [Nat.reducePow,Nat.reduceMul]<;>omega
theorem eA(l:AB 8)(x:BitVec 8)(n:Nat)(h:n≤l.length):D8 (l++[x]) n=D8 l n:=by
 induction n with
 |zero=>rfl
 |succ n ih=>
  rw [D8,D8,ih O_]
  unfold nth
  rw [List.getD_eq_getElem?_getD,List.getD_eq_getElem?_getD,List.getElem?_append_left O_]
theorem mj(l:AB 8)(x:BitVec 8):nth (l++[x]) l.length=x:=by
 unfold nth
 rw [List.getD_eq_getElem?_getD,List.getElem?_append_right (Nat.le_refl _),Nat.sub_self]
 rfl
theorem qT{Y:AB 64}(hY:Y.length=9):∀j,j≤72→D8 (CR Y j) j=Nr Y 9%256^j:=by
 intro j
 induction j with
 |zero=>intro _;rw [D8,Nat.pow_zero,Nat.mod_one]
 |succ j ih=>
  intro hj
  have hl:=Fy Y hY j
  have hn:nth (CR Y j++[((nth Y (j/8))>>>(8*(j%8))).setWidth 8]) j=((nth Y (j/8))>>>(8*(j%8))).setWidth 8:=by
   have:=mj (CR Y j) (((nth Y (j/8))>>>(8*(j%8))).setWidth 8)
   rwa [hl] at this
  have e:= @Nat.mod_mul (256^j) 256 (Nr Y 9)
  rw [CR,Jb,D8,eA _ _ _ O_,hn,ih O_,byte_of Y 9 j O_,Nat.pow_succ,e,Nat.mul_comm (256^j)]
theorem oI(a b c:AB 64):(Hm a b c).length=72∧D8 (Hm a b c) 72=wV a*wV b+wV c:=by
 obtain ⟨h1,h2,_⟩:=eE (a:=a) (b:=b) 4 (Nat.le_refl _)
 obtain ⟨g1,g2,_⟩:=qV (c:=c) h1 9 (Nat.le_refl _)
 rw [h2,rU,dA,dA] at g2
 have la:=Xu a
 have lb:=Xu b
 have lc:=Xu c
 have hab:wV a*wV b≤115792089237316195423570985008687907853269984665640564039457584007913129639935*115792089237316195423570985008687907853269984665640564039457584007913129639935:=Nat.mul_le_mul O_ O_
 have ht:=qT g1 72 (Nat.le_refl _)
 have hv:=mn (BN c (By a b 4) 9).2 9
 unfold Hm
 refine ⟨Fy _ g1 72,?_⟩
 rw [ht,Nat.mod_eq_of_lt (by rw [show (256:Nat)^72=18446744073709551616^9 from rfl];exact hv)]
 generalize Nr (BN c (By a b 4) 9).2 9=V at*
 generalize (BN c (By a b 4) 9).1.toNat=k at*
 generalize wV a*wV b=q at*
 simp only [Nat.reducePow,Nat.reduceMul] at*
 omega
def aR(b:AB 8):AB 8:=XZ (D8 b b.length%A2)
def mD(a b c:AB 8):AB 8:=XZ ((D8 a 32*D8 b 32+D8 c 32)%A2)
def IS(n:AB 8):Bool:=decide (D8 n 32<A2)
@[simp] theorem AA0(b:AB 8):(aR b).length=32:=Kr _
@[simp] theorem tY(a b c:AB 8):(mD a b c).length=32:=Kr _
theorem ku(b:AB 8):Ra b=aR b:=by
 unfold Ra aR
 rw [T9,iG]
theorem ov(a b c:AB 8):O6 a b c=mD a b c:=by
 obtain ⟨h1,h2⟩:=oI (FU a) (FU b) (FU c)
 unfold O6 mD
 rw [T9,iG,h1,h2,Rc,Rc,Rc]
theorem bh{n:AB 8}(hn:n.length=32):((CF (FU n) Bq 4)==1#64)=IS n:=by
 unfold IS
 rw [ba (qR n hn) TZ,Tt,Rc]
attribute [irreducible] mD aR IS
def AP:AB 64:=N6 [163#8,120#8,89#8,19#8,202#8,77#8,235#8,117#8,171#8,216#8,65#8,65#8,77#8,10#8,112#8,0#8,152#8,232#8,121#8,119#8,121#8,64#8,199#8,140#8,115#8,254#8,111#8,43#8,238#8,108#8,3#8,82#8]
theorem G7:Ev prog (.call 165 [] []) (.val (EQ (AP)) []):=by
 have hP:=Hid.mk (AP.eq_1)
 refine AG func165 rfl ntmps165 rfl AH ?_;refine AK ?_;refine C8 ?_;refine AN ?_;have hQ1:(N6 [163#8,120#8,89#8,19#8,202#8,77#8,235#8,117#8,171#8,216#8,65#8,65#8,77#8,10#8,112#8,0#8,152#8,232#8,121#8,119#8,121#8,64#8,199#8,140#8,115#8,254#8,111#8,43#8,238#8,108#8,3#8,82#8]).length=5:=An
 refine AK ?_;refine AA (vn (l:=[163#8,120#8,89#8,19#8,202#8,77#8,235#8,117#8,171#8,216#8,65#8,65#8,77#8,10#8,112#8,0#8,152#8,232#8,121#8,119#8,121#8,64#8,199#8,140#8,115#8,254#8,111#8,43#8,238#8,108#8,3#8,82#8]) AAv underlying37 Bz rfl rfl D_) rfl ?_;refine A7 (ak [163#8,120#8,89#8,19#8,202#8,77#8,235#8,117#8,171#8,216#8,65#8,65#8,77#8,10#8,112#8,0#8,152#8,232#8,121#8,119#8,121#8,64#8,199#8,140#8,115#8,254#8,111#8,43#8,238#8,108#8,3#8,82#8] AD) RC ?_;refine La ?_;rw [hP.out]
 exact MV
@[simp] theorem vl:(AP).length=5:=by
 unfold AP
 (simp [*];done)
attribute [irreducible] AP
def LR:AB 64:=(AI 0#64)++(AI 1#64)++(AI 1#64)++(AI 0#64)
theorem Ff(k:r)(h:Hid r→g:=by intro h;refine BE (BO xS AH) AM rfl ?_;exact h.out):g:=h ⟨k⟩
theorem Ey(k:r)(h:Hid r→g:=by intro h;refine Bm rfl rfl rfl rfl T3 C1 C1 AM ?_;exact h.out):g:=h ⟨k⟩
theorem W2(h:g:=by exact gw (JR rfl rfl SR T3 C1 D_) (by (kernel_rfl))):g:=h
theorem lQ:Ev prog (.call 168 [] []) (.val (EQ (LR)) []):=by
 have hP:=Hid.mk (LR.eq_1)
 refine AG func168 rfl ntmps168 rfl AH ?_;refine AK ?_;refine Ff ?_;refine AN ?_;have hQ1:(AI 0#64).length=5:=An
 have hQ2:(AI 1#64).length=5:=An
 refine AK ?_;refine A7 (DN 0#64) Hs ?_;refine A7 (DN 1#64) Hs ?_;refine A7 (DN 1#64) Hs ?_;refine A7 (DN 0#64) Hs ?_;refine AA (rC rfl rfl rfl rfl (nF GG GG GG GG)) rfl ?_;refine Ey ?_;refine A6 ?_;rw [hP.out]
 exact W2
@[simp] theorem xI:(LR).length=20:=by
 unfold LR
 (simp (maxDischargeDepth:=9) [*];done)
attribute [irreducible] LR
def Kh(b:AB 8):AB 64:=N6 (put b 31 ((nth b 31)&&&127#8))
def Dz(b:AB 8):AB 64:=AF (Kh b) (Kh b)
def SP(b:AB 8):AB 64:=AF (Ao (Dz b) (AI 1#64)) (B3 (AW (AF AP (Dz b)) (AI 1#64)))
def Fr(b:AB 8):AB 64:=Fl (SP b)
def XG(b:AB 8):Bool:=Mq (SP b)
def oP(b:AB 8):Bool:=decide (AO (Kh b)=put b 31 ((nth b 31)&&&127#8))
def vE(b:AB 8):Bool:=decide (AO (Fr b)=AO (AI 0#64))
def mR(b:AB 8):Bool:=((nth b 31)>>>7)==1#8
@[simp] theorem ABZ(b:AB 8)(hb:b.length=32):(Kh b).length=5:=by unfold Kh;simp (maxDischargeDepth:=9) [hb]
@[simp] theorem zO(b:AB 8)(hb:b.length=32):(Dz b).length=5:=by unfold Dz;simp (maxDischargeDepth:=9) [hb]
@[simp] theorem zP(b:AB 8)(hb:b.length=32):(SP b).length=5:=by unfold SP;simp (maxDischargeDepth:=9) [hb]
@[simp] theorem ABV(b:AB 8)(hb:b.length=32):(Fr b).length=5:=by unfold Fr;simp (maxDischargeDepth:=9) [hb]
theorem WE(b:AB 8)(hb:b.length=32):Ev prog (.call 154 [B4 (put b 31 ((nth b 31)&&&127#8))] []) (.val (EQ (Kh b)) []):=ak _ (by simp (maxDischargeDepth:=9) [hb])
theorem U5(b:AB 8)(hb:b.length=32):Ev prog (.call 158 [EQ (Kh b),EQ (Kh b)] []) (.val (EQ (Dz b)) []):=Bp _ _ (by simp (maxDischargeDepth:=9) [hb]) (by simp (maxDischargeDepth:=9) [hb])
theorem Uq(b:AB 8)(hb:b.length=32):Ev prog (.call 158 [EQ (Ao (Dz b) (AI 1#64)),EQ (B3 (AW (AF AP (Dz b)) (AI 1#64)))] []) (.val (EQ (SP b)) []):=Bp _ _ (by simp (maxDischargeDepth:=9) [hb]) (by simp (maxDischargeDepth:=9) [hb])
theorem P6(b:AB 8)(r:Bool)(hr:XG b=r)(hb:b.length=32):Ev prog (.call 164 [EQ (SP b)] []) (.val (.tup [EQ (Fr b),.c (.val (.bool r))]) []):=by
 rw [←hr]
 exact kF _ (by simp (maxDischargeDepth:=9) [hb])
theorem XL(b:AB 8)(r:Bool)(hr:vE b=r)(hb:b.length=32):Ev prog (.call 166 [EQ (Fr b),EQ (AI 0#64)] []) (.val (.c (.val (.bool r))) []):=by
 rw [←hr]
 exact TR _ _ (by simp (maxDischargeDepth:=9) [hb]) (by simp)
theorem WK{b:AB 8}{r:Bool}(h:oP b=r):(!decide (AO (Kh b)=put b 31 ((nth b 31)&&&127#8)))= !r:=by rw [←h];rfl
theorem ei{b:AB 8}{r:Bool}(h:mR b=r):(((nth b 31)>>>7)==1#8)=r:=h
attribute [irreducible] Kh Dz SP Fr XG oP vE mR
def Yq:AB 64:=Aj 20
theorem WX(k:r)(h:Hid r→g:=by intro h;refine AG func126 rfl ntmps126 rfl AH ?_;exact h.out):g:=h ⟨k⟩
theorem Wi(k:r)(h:Hid r→g:=by intro h;refine AA (RX (j:=7) rfl rfl) rfl ?_;exact h.out):g:=h ⟨k⟩
theorem WI(k:r)(h:Hid r→g:=by intro h;refine AE (ZM rfl rfl underlying37 underlying5 Bz C1 C1) rfl ?_;exact h.out):g:=h ⟨k⟩
theorem WS(h:g:=by exact sU (JR rfl rfl SR T3 C1 D_) (EG rfl) (by (kernel_rfl))):g:=h
theorem oE(b:AB 8)(hb:b.length=32)(hC:oP b=false):Ev prog (.call 126 [B4 (b)] []) (.val (.tup [EQ (Yq),.c (.val (.bool (false)))]) []):=by
 have hP_cvUnA0:Hid (Yq=Aj 20):=⟨rfl⟩
 refine WX ?_;refine Bg ?_;refine Ff ?_;refine Ad ?_;refine IE ?_;refine Wi ?_;refine TN ?_;refine Ad ?_;refine IE ?_;refine Qs ?_;refine PA ?_;refine C3 ?_;refine AN ?_;have hQ1:(Kh b).length=5:=An
 refine CC ?_;refine A7 (WE b hb) RC ?_;refine C8 ?_;refine EJ ?_;have hQ2:(AO (Kh b)).length=32:=An
 refine S_ ?_;refine KM ?_;refine Cu ?_;refine Am (EY (Kh b) AD) LV ?_;refine DS ?_;refine WI ?_;refine Gw ?_;refine Ef rfl (WK hC) ?_;refine AK ?_;refine AA (fL fo) rfl ?_;refine Ey ?_;refine Ay ?_;rw [hP_cvUnA0.out]
 exact WS
attribute [irreducible] Yq
def ZZ:AB 64:=Aj 20
theorem Yl(k:r)(h:Hid r→g:=by intro h;refine S7 15 13 mixed K_ K_ rfl rfl rfl ?_;exact h.out):g:=h ⟨k⟩
theorem LK(k:r)(h:Hid r→g:=by intro h;refine Am (DN 1#64) Hs ?_;exact h.out):g:=h ⟨k⟩
theorem pV(b:AB 8)(hb:b.length=32)(hC:oP b=true)(hR:XG b=false):Ev prog (.call 126 [B4 (b)] []) (.val (.tup [EQ (ZZ),.c (.val (.bool (false)))]) []):=by
 have hP_cvUnB0:Hid (ZZ=Aj 20):=⟨rfl⟩
 refine WX ?_;refine Bg ?_;refine Ff ?_;refine Ad ?_;refine IE ?_;refine Wi ?_;refine TN ?_;refine Ad ?_;refine IE ?_;refine Qs ?_;refine PA ?_;refine C3 ?_;refine AN ?_;have hQ1:(Kh b).length=5:=An
 refine CC ?_;refine A7 (WE b hb) RC ?_;refine C8 ?_;refine EJ ?_;have hQ2:(AO (Kh b)).length=32:=An
 refine S_ ?_;refine KM ?_;refine Cu ?_;refine Am (EY (Kh b) AD) LV ?_;refine DS ?_;refine WI ?_;refine Gw ?_;refine Bu rfl (WK hC) ?_;have hQ3:(Dz b).length=5:=An
 refine JF ?_;refine GU ?_;refine A7 (U5 b hb) Bb ?_;refine C8 ?_;refine EJ ?_;have hQ4:(AI 1#64).length=5:=An
 have hQ5:(Ao (Dz b) (AI 1#64)).length=5:=An
 have hQ6:(AP).length=5:=An
 have hQ7:(AF AP (Dz b)).length=5:=An
 have hQ8:(AW (AF AP (Dz b)) (AI 1#64)).length=5:=An
 have hQ9:(B3 (AW (AF AP (Dz b)) (AI 1#64))).length=5:=An
 have hQ10:(SP b).length=5:=An
 have hQ11:(Fr b).length=5:=An
 refine S_ ?_;refine Yl ?_;refine Cu ?_;refine LK ?_;refine Am (Fv (Dz b) (AI 1#64) AD AD) Ht ?_;refine Am (G7) OE ?_;refine Cu ?_;refine Am (Bp AP (Dz b) AD AD) Bb ?_;refine LK ?_;refine Am (FV (AF AP (Dz b)) (AI 1#64) AD AD) Gy ?_;refine Am (Lx (AW (AF AP (Dz b)) (AI 1#64)) AD) Ss ?_;refine Am (Uq b hb) Bb ?_;refine Am (P6 b false hR hb) aQ ?_;refine Fi ?_;refine ID ?_;refine Gv ?_;refine Ay ?_;refine Qe ?_;refine Ah ?_;refine OW ?_;refine Ah ?_;refine Jx Nz ?_;refine Jx Nz ?_;refine Jx Nz ?_;refine Jx Nz ?_;refine Jx Nz ?_;refine Jx Nz ?_;refine AE (JU rfl dj rfl) rfl ?_;refine Bn ?_;refine AQ ?_;refine AA (fL fo) rfl ?_;refine Ey ?_;refine Ay ?_;rw [hP_cvUnB0.out]
 exact WS
attribute [irreducible] ZZ
def ZC:AB 64:=Aj 20
theorem Mx(k:r)(h:Hid r→g:=by intro h;refine AE (Af rfl) rfl ?_;refine Je Nz ?_;exact h.out):g:=h ⟨k⟩
theorem Q1(k:r)(h:Hid r→g:=by intro h;refine AE (MU rfl dj rfl) rfl ?_;exact h.out):g:=h ⟨k⟩
theorem pi(b:AB 8)(hb:b.length=32)(hC:oP b=true)(hR:XG b=true)(hO:mR b=true)(hZ:vE b=true):Ev prog (.call 126 [B4 (b)] []) (.val (.tup [EQ (ZC),.c (.val (.bool (false)))]) []):=by
 have hP_cvUnD0:Hid (ZC=Aj 20):=⟨rfl⟩
 refine WX ?_;refine Bg ?_;refine Ff ?_;refine Bc ?_;have hE1:((((nth b 31)>>>7)==1#8))=true:=ei hO
 refine AK ?_;refine IE ?_;refine Wi ?_;refine AA (Ov (aK (b:=1#8) rfl rfl) hE1) rfl ?_;refine Ad ?_;refine IE ?_;refine Qs ?_;refine PA ?_;refine C3 ?_;refine AN ?_;have hQ2:(Kh b).length=5:=An
 refine CC ?_;refine A7 (WE b hb) RC ?_;refine C8 ?_;refine EJ ?_;have hQ3:(AO (Kh b)).length=32:=An
 refine S_ ?_;refine KM ?_;refine Cu ?_;refine Am (EY (Kh b) AD) LV ?_;refine DS ?_;refine WI ?_;refine Gw ?_;refine Bu rfl (WK hC) ?_;have hQ4:(Dz b).length=5:=An
 refine JF ?_;refine GU ?_;refine A7 (U5 b hb) Bb ?_;refine C8 ?_;refine EJ ?_;have hQ5:(AI 1#64).length=5:=An
 have hQ6:(Ao (Dz b) (AI 1#64)).length=5:=An
 have hQ7:(AP).length=5:=An
 have hQ8:(AF AP (Dz b)).length=5:=An
 have hQ9:(AW (AF AP (Dz b)) (AI 1#64)).length=5:=An
 have hQ10:(B3 (AW (AF AP (Dz b)) (AI 1#64))).length=5:=An
 have hQ11:(SP b).length=5:=An
 have hQ12:(Fr b).length=5:=An
 refine S_ ?_;refine Yl ?_;refine Cu ?_;refine LK ?_;refine Am (Fv (Dz b) (AI 1#64) AD AD) Ht ?_;refine Am (G7) OE ?_;refine Cu ?_;refine Am (Bp AP (Dz b) AD AD) Bb ?_;refine LK ?_;refine Am (FV (AF AP (Dz b)) (AI 1#64) AD AD) Gy ?_;refine Am (Lx (AW (AF AP (Dz b)) (AI 1#64)) AD) Ss ?_;refine Am (Uq b hb) Bb ?_;refine Am (P6 b true hR hb) aQ ?_;refine Fi ?_;refine ID ?_;refine Gv ?_;refine Bc ?_;have hQ13:(AI 0#64).length=5:=An
 refine S_ ?_;refine Qe ?_;refine Ah ?_;refine OW ?_;refine Mx ?_;refine Mx ?_;refine Mx ?_;refine Cu ?_;refine Je Nz ?_;refine Am (DN 0#64) Hs ?_;refine Je Nz ?_;refine Am (XL b true hZ hb) aj ?_;refine Je Nz ?_;refine AE (JU rfl dj rfl) rfl ?_;refine Q1 ?_;refine Bn ?_;refine AQ ?_;refine AA (fL fo) rfl ?_;refine Ey ?_;refine Ay ?_;rw [hP_cvUnD0.out]
 exact WS
attribute [irreducible] ZC
def Om(b:AB 8):AB 64:=(if (!((((nth (AO (Fr b)) 0)&&&1#8)==1#8)==false))=true then Ao (AI 0#64) (Fr b) else Fr b)++(Kh b)++(AI 1#64)++(AF (if (!((((nth (AO (Fr b)) 0)&&&1#8)==1#8)==false))=true then Ao (AI 0#64) (Fr b) else Fr b) (Kh b))
theorem eO(k:r)(h:Hid r→g:=by intro h;refine AE (rC rfl rfl rfl rfl (nF GG GG GG GG)) rfl ?_;exact h.out):g:=h ⟨k⟩
theorem nZ(b:AB 8)(hb:b.length=32)(hC:oP b=true)(hR:XG b=true)(hO:mR b=false):Ev prog (.call 126 [B4 (b)] []) (.val (.tup [EQ (Om b),.c (.val (.bool (true)))]) []):=by
 have hP_cvUnE0:Hid (Om b=(if (!((((nth (AO (Fr b)) 0)&&&1#8)==1#8)==false))=true then Ao (AI 0#64) (Fr b) else Fr b)++(Kh b)++(AI 1#64)++(AF (if (!((((nth (AO (Fr b)) 0)&&&1#8)==1#8)==false))=true then Ao (AI 0#64) (Fr b) else Fr b) (Kh b))):=⟨rfl⟩
 refine WX ?_;refine Bg ?_;refine Ff ?_;refine Bc ?_;have hE1:((((nth b 31)>>>7)==1#8))=false:=ei hO
 refine AK ?_;refine IE ?_;refine Wi ?_;refine AA (Ov (aK (b:=1#8) rfl rfl) hE1) rfl ?_;refine Ad ?_;refine IE ?_;refine Qs ?_;refine PA ?_;refine C3 ?_;refine AN ?_;have hQ2:(Kh b).length=5:=An
 refine CC ?_;refine A7 (WE b hb) RC ?_;refine C8 ?_;refine EJ ?_;have hQ3:(AO (Kh b)).length=32:=An
 refine S_ ?_;refine KM ?_;refine Cu ?_;refine Am (EY (Kh b) AD) LV ?_;refine DS ?_;refine WI ?_;refine Gw ?_;refine Bu rfl (WK hC) ?_;have hQ4:(Dz b).length=5:=An
 refine JF ?_;refine GU ?_;refine A7 (U5 b hb) Bb ?_;refine C8 ?_;refine EJ ?_;have hQ5:(AI 1#64).length=5:=An
 have hQ6:(Ao (Dz b) (AI 1#64)).length=5:=An
 have hQ7:(AP).length=5:=An
 have hQ8:(AF AP (Dz b)).length=5:=An
 have hQ9:(AW (AF AP (Dz b)) (AI 1#64)).length=5:=An
 have hQ10:(B3 (AW (AF AP (Dz b)) (AI 1#64))).length=5:=An
 have hQ11:(SP b).length=5:=An
 have hQ12:(Fr b).length=5:=An
 refine S_ ?_;refine Yl ?_;refine Cu ?_;refine LK ?_;refine Am (Fv (Dz b) (AI 1#64) AD AD) Ht ?_;refine Am (G7) OE ?_;refine Cu ?_;refine Am (Bp AP (Dz b) AD AD) Bb ?_;refine LK ?_;refine Am (FV (AF AP (Dz b)) (AI 1#64) AD AD) Gy ?_;refine Am (Lx (AW (AF AP (Dz b)) (AI 1#64)) AD) Ss ?_;refine Am (Uq b hb) Bb ?_;refine Am (P6 b true hR hb) aQ ?_;refine Fi ?_;refine ID ?_;refine Gv ?_;refine Ay ?_;refine Qe ?_;refine Ah ?_;refine OW ?_;refine Mx ?_;refine Mx ?_;refine Ah ?_;refine Jx Nz ?_;refine Jx Nz ?_;refine Jx Nz ?_;refine Je Nz ?_;refine Q1 ?_;refine Q1 ?_;refine Bn ?_;refine AQ ?_;refine GU ?_;refine A7 (VX (Fr b) AD) fj ?_;refine AR ?_;refine AA (mg rfl rfl underlying4) rfl ?_;refine FA ?_;refine I1 [2,5,7] (fun (zz:AB 64)=>⟨66,AS [2,5,7] [Al 0,Al 1,Al 2],[CH (Aj 20),CH (Kh b),CH (zz)]⟩) (if (!((((nth (AO (Fr b)) 0)&&&1#8)==1#8)==false))=true then Ao (AI 0#64) (Fr b) else Fr b) rfl (fun hb=>?_) (fun hb=>?_) ?_
 ·have hQ14:(AI 0#64).length=5:=An
  have hQ15:(Ao (AI 0#64) (Fr b)).length=5:=An
  refine S_ ?_;refine RF ?_;refine Am (DN 0#64) Hs ?_;refine Cu ?_;refine Am (Fv (AI 0#64) (Fr b) AD AD) Ht ?_;refine Gv ?_;refine A6 ?_;refine ⟨(Ao (AI 0#64) (Fr b)),K_,?_⟩
  rw [if_pos (hb)]
 ·refine S_ ?_
  refine ⟨(Fr b),K_,?_⟩
  rw [if_neg (by (rw [hb];decide))]
 have hJ13:(if (!((((nth (AO (Fr b)) 0)&&&1#8)==1#8)==false))=true then Ao (AI 0#64) (Fr b) else Fr b).length=5:=by split<;>simp [*]
 generalize (if (!((((nth (AO (Fr b)) 0)&&&1#8)==1#8)==false))=true then Ao (AI 0#64) (Fr b) else Fr b)=J13 at*
 have hQ16:(AI 1#64).length=5:=An
 have hQ17:(AF J13 (Kh b)).length=5:=An
 refine S_ ?_;refine aB ?_;refine Cc ?_;refine LK ?_;refine Cc ?_;refine Am (Bp J13 (Kh b) AD AD) Bb ?_;refine eO ?_;refine Bn ?_;refine Ey ?_;refine Ay ?_;rw [hP_cvUnE0.out]
 exact WS
@[simp] theorem ec(b:AB 8)(hb:b.length=32):(Om b).length=20:=by
 unfold Om
 (split<;>(simp (maxDischargeDepth:=9) [*];done))
attribute [irreducible] Om
def PD(b:AB 8):AB 64:=(if (!((((nth (AO (Fr b)) 0)&&&1#8)==1#8)==true))=true then Ao (AI 0#64) (Fr b) else Fr b)++(Kh b)++(AI 1#64)++(AF (if (!((((nth (AO (Fr b)) 0)&&&1#8)==1#8)==true))=true then Ao (AI 0#64) (Fr b) else Fr b) (Kh b))
theorem qO(b:AB 8)(hb:b.length=32)(hC:oP b=true)(hR:XG b=true)(hO:mR b=true)(hZ:vE b=false):Ev prog (.call 126 [B4 (b)] []) (.val (.tup [EQ (PD b),.c (.val (.bool (true)))]) []):=by
 have hP_cvUnF0:Hid (PD b=(if (!((((nth (AO (Fr b)) 0)&&&1#8)==1#8)==true))=true then Ao (AI 0#64) (Fr b) else Fr b)++(Kh b)++(AI 1#64)++(AF (if (!((((nth (AO (Fr b)) 0)&&&1#8)==1#8)==true))=true then Ao (AI 0#64) (Fr b) else Fr b) (Kh b))):=⟨rfl⟩
 refine WX ?_;refine Bg ?_;refine Ff ?_;refine Bc ?_;have hE1:((((nth b 31)>>>7)==1#8))=true:=ei hO
 refine AK ?_;refine IE ?_;refine Wi ?_;refine AA (Ov (aK (b:=1#8) rfl rfl) hE1) rfl ?_;refine Ad ?_;refine IE ?_;refine Qs ?_;refine PA ?_;refine C3 ?_;refine AN ?_;have hQ2:(Kh b).length=5:=An
 refine CC ?_;refine A7 (WE b hb) RC ?_;refine C8 ?_;refine EJ ?_;have hQ3:(AO (Kh b)).length=32:=An
 refine S_ ?_;refine KM ?_;refine Cu ?_;refine Am (EY (Kh b) AD) LV ?_;refine DS ?_;refine WI ?_;refine Gw ?_;refine Bu rfl (WK hC) ?_;have hQ4:(Dz b).length=5:=An
 refine JF ?_;refine GU ?_;refine A7 (U5 b hb) Bb ?_;refine C8 ?_;refine EJ ?_;have hQ5:(AI 1#64).length=5:=An
 have hQ6:(Ao (Dz b) (AI 1#64)).length=5:=An
 have hQ7:(AP).length=5:=An
 have hQ8:(AF AP (Dz b)).length=5:=An
 have hQ9:(AW (AF AP (Dz b)) (AI 1#64)).length=5:=An
 have hQ10:(B3 (AW (AF AP (Dz b)) (AI 1#64))).length=5:=An
 have hQ11:(SP b).length=5:=An
 have hQ12:(Fr b).length=5:=An
 refine S_ ?_;refine Yl ?_;refine Cu ?_;refine LK ?_;refine Am (Fv (Dz b) (AI 1#64) AD AD) Ht ?_;refine Am (G7) OE ?_;refine Cu ?_;refine Am (Bp AP (Dz b) AD AD) Bb ?_;refine LK ?_;refine Am (FV (AF AP (Dz b)) (AI 1#64) AD AD) Gy ?_;refine Am (Lx (AW (AF AP (Dz b)) (AI 1#64)) AD) Ss ?_;refine Am (Uq b hb) Bb ?_;refine Am (P6 b true hR hb) aQ ?_;refine Fi ?_;refine ID ?_;refine Gv ?_;refine Bc ?_;have hQ13:(AI 0#64).length=5:=An
 refine S_ ?_;refine Qe ?_;refine Ah ?_;refine OW ?_;refine Mx ?_;refine Mx ?_;refine Mx ?_;refine Cu ?_;refine Je Nz ?_;refine Am (DN 0#64) Hs ?_;refine Je Nz ?_;refine Am (XL b false hZ hb) aj ?_;refine Je Nz ?_;refine AE (JU rfl dj rfl) rfl ?_;refine Q1 ?_;refine Bn ?_;refine AQ ?_;refine GU ?_;refine A7 (VX (Fr b) AD) fj ?_;refine AR ?_;refine AA (mg rfl rfl underlying4) rfl ?_;refine FA ?_;refine I1 [2,5,7] (fun (zz:AB 64)=>⟨66,AS [2,5,7] [Al 0,Al 1,Al 2],[CH (Aj 20),CH (Kh b),CH (zz)]⟩) (if (!((((nth (AO (Fr b)) 0)&&&1#8)==1#8)==true))=true then Ao (AI 0#64) (Fr b) else Fr b) rfl (fun hb=>?_) (fun hb=>?_) ?_
 ·have hQ15:(AI 0#64).length=5:=An
  have hQ16:(Ao (AI 0#64) (Fr b)).length=5:=An
  refine S_ ?_;refine RF ?_;refine Am (DN 0#64) Hs ?_;refine Cu ?_;refine Am (Fv (AI 0#64) (Fr b) AD AD) Ht ?_;refine Gv ?_;refine A6 ?_;refine ⟨(Ao (AI 0#64) (Fr b)),K_,?_⟩
  rw [if_pos (hb)]
 ·refine S_ ?_
  refine ⟨(Fr b),K_,?_⟩
  rw [if_neg (by (rw [hb];decide))]
 have hJ14:(if (!((((nth (AO (Fr b)) 0)&&&1#8)==1#8)==true))=true then Ao (AI 0#64) (Fr b) else Fr b).length=5:=by split<;>simp [*]
 generalize (if (!((((nth (AO (Fr b)) 0)&&&1#8)==1#8)==true))=true then Ao (AI 0#64) (Fr b) else Fr b)=J14 at*
 have hQ17:(AI 1#64).length=5:=An
 have hQ18:(AF J14 (Kh b)).length=5:=An
 refine S_ ?_;refine aB ?_;refine Cc ?_;refine LK ?_;refine Cc ?_;refine Am (Bp J14 (Kh b) AD AD) Bb ?_;refine eO ?_;refine Bn ?_;refine Ey ?_;refine Ay ?_;rw [hP_cvUnF0.out]
 exact WS
@[simp] theorem eo(b:AB 8)(hb:b.length=32):(PD b).length=20:=by
 unfold PD
 (split<;>(simp (maxDischargeDepth:=9) [*];done))
attribute [irreducible] PD
def Fa(b:AB 8):Bool:=oP b&&(XG b&& !(mR b&&vE b))
def Kn(b:AB 8):AB 64:=if Fa b=true then (if mR b=true then PD b else Om b) else Aj 20
@[simp] theorem ABY(b:AB 8)(hb:b.length=32):(Kn b).length=20:=by
 unfold Kn
 split
 ·split
  ·exact eo b hb
  ·exact ec b hb
 ·exact List.length_replicate ..
theorem Wy(b:AB 8)(hb:b.length=32):Ev prog (.call 126 [B4 (b)] []) (.val (.tup [EQ (Kn b),.c (.val (.bool (Fa b)))]) []):=by
 cases hC:oP b with
 |false=>
  have e:Fa b=false:=by unfold Fa;rw [hC];rfl
  have e2:Kn b=Aj 20:=by unfold Kn;rw [e];rfl
  have h:=oE b hb hC
  unfold Yq at h
  rw [e,e2];exact h
 |true=>
  cases hR:XG b with
  |false=>
   have e:Fa b=false:=by unfold Fa;rw [hC,hR];rfl
   have e2:Kn b=Aj 20:=by unfold Kn;rw [e];rfl
   have h:=pV b hb hC hR
   unfold ZZ at h
   rw [e,e2];exact h
  |true=>
   cases hO:mR b with
   |false=>
    have e:Fa b=true:=by unfold Fa;rw [hC,hR,hO];rfl
    have e2:Kn b=Om b:=by unfold Kn;rw [e,hO];rfl
    rw [e,e2];exact nZ b hb hC hR hO
   |true=>
    cases hZ:vE b with
    |true=>
     have e:Fa b=false:=by unfold Fa;rw [hC,hR,hO,hZ];rfl
     have e2:Kn b=Aj 20:=by unfold Kn;rw [e];rfl
     have h:=pi b hb hC hR hO hZ
     unfold ZC at h
     rw [e,e2];exact h
    |false=>
     have e:Fa b=true:=by unfold Fa;rw [hC,hR,hO,hZ];rfl
     have e2:Kn b=PD b:=by unfold Kn;rw [e,hO];rfl
     rw [e,e2];exact qO b hb hC hR hO hZ
def Ci(p q k:AB 64):AB 64:=(AF (Ao (AF (AW (cut p 5 5) (cut p 0 5)) (AW (cut q 5 5) (cut q 0 5))) (AF (Ao (cut p 5 5) (cut p 0 5)) (Ao (cut q 5 5) (cut q 0 5)))) (Ao (AF (AW (cut p 10 5) (cut p 10 5)) (cut q 10 5)) (AF (AF k (cut p 15 5)) (cut q 15 5))))++(AF (AW (AF (AW (cut p 10 5) (cut p 10 5)) (cut q 10 5)) (AF (AF k (cut p 15 5)) (cut q 15 5))) (AW (AF (AW (cut p 5 5) (cut p 0 5)) (AW (cut q 5 5) (cut q 0 5))) (AF (Ao (cut p 5 5) (cut p 0 5)) (Ao (cut q 5 5) (cut q 0 5)))))++(AF (Ao (AF (AW (cut p 10 5) (cut p 10 5)) (cut q 10 5)) (AF (AF k (cut p 15 5)) (cut q 15 5))) (AW (AF (AW (cut p 10 5) (cut p 10 5)) (cut q 10 5)) (AF (AF k (cut p 15 5)) (cut q 15 5))))++(AF (Ao (AF (AW (cut p 5 5) (cut p 0 5)) (AW (cut q 5 5) (cut q 0 5))) (AF (Ao (cut p 5 5) (cut p 0 5)) (Ao (cut q 5 5) (cut q 0 5)))) (AW (AF (AW (cut p 5 5) (cut p 0 5)) (AW (cut q 5 5) (cut q 0 5))) (AF (Ao (cut p 5 5) (cut p 0 5)) (Ao (cut q 5 5) (cut q 0 5)))))
theorem IP(k:r)(h:Hid r→g:=by intro h;refine AE (Xr rfl rfl GM Fe UD D_) rfl ?_;exact h.out):g:=h ⟨k⟩
theorem Tj(p q k:AB 64)(hp:p.length=20)(hq:q.length=20)(hk:k.length=5):Ev prog (.call 169 [EQ (p),EQ (q),EQ (k)] []) (.val (EQ (Ci p q k)) []):=by
 have hP:=Hid.mk (Ci.eq_1 p q k)
 refine AG func169 rfl ntmps169 rfl AH ?_;refine BY ?_;refine dz ?_;refine Ff ?_;refine AN ?_;have hQ1:(cut p 5 5).length=5:=An
 have hQ2:(cut p 0 5).length=5:=An
 have hQ3:(Ao (cut p 5 5) (cut p 0 5)).length=5:=An
 have hQ4:(cut q 5 5).length=5:=An
 have hQ5:(cut q 0 5).length=5:=An
 have hQ6:(Ao (cut q 5 5) (cut q 0 5)).length=5:=An
 have hQ7:(AF (Ao (cut p 5 5) (cut p 0 5)) (Ao (cut q 5 5) (cut q 0 5))).length=5:=An
 refine S_ ?_;refine KL ?_;refine AE (Ai rfl (Ol _ _)) rfl ?_;refine IP ?_;refine AE (Ai rfl (O9 _ _)) rfl ?_;refine IP ?_;refine Am (Fv (cut p 5 5) (cut p 0 5) AD AD) Ht ?_;refine AE (Ai rfl (Ol _ _)) rfl ?_;refine IP ?_;refine AE (Ai rfl (O9 _ _)) rfl ?_;refine IP ?_;refine Am (Fv (cut q 5 5) (cut q 0 5) AD AD) Ht ?_;refine Am (Bp (Ao (cut p 5 5) (cut p 0 5)) (Ao (cut q 5 5) (cut q 0 5)) AD AD) Bb ?_;refine ID ?_;refine Bn ?_;refine EJ ?_;have hQ8:(cut p 5 5).length=5:=An
 have hQ9:(cut p 0 5).length=5:=An
 have hQ10:(AW (cut p 5 5) (cut p 0 5)).length=5:=An
 have hQ11:(cut q 5 5).length=5:=An
 have hQ12:(cut q 0 5).length=5:=An
 have hQ13:(AW (cut q 5 5) (cut q 0 5)).length=5:=An
 have hQ14:(AF (AW (cut p 5 5) (cut p 0 5)) (AW (cut q 5 5) (cut q 0 5))).length=5:=An
 refine S_ ?_;refine KL ?_;refine AE (Ai rfl (Ol _ _)) rfl ?_;refine IP ?_;refine AE (Ai rfl (O9 _ _)) rfl ?_;refine IP ?_;refine Am (FV (cut p 5 5) (cut p 0 5) AD AD) Gy ?_;refine AE (Ai rfl (Ol _ _)) rfl ?_;refine IP ?_;refine AE (Ai rfl (O9 _ _)) rfl ?_;refine IP ?_;refine Am (FV (cut q 5 5) (cut q 0 5) AD AD) Gy ?_;refine Am (Bp (AW (cut p 5 5) (cut p 0 5)) (AW (cut q 5 5) (cut q 0 5)) AD AD) Bb ?_;refine ID ?_;refine Bn ?_;refine EJ ?_;have hQ15:(cut p 15 5).length=5:=An
 have hQ16:(AF k (cut p 15 5)).length=5:=An
 have hQ17:(cut q 15 5).length=5:=An
 have hQ18:(AF (AF k (cut p 15 5)) (cut q 15 5)).length=5:=An
 refine S_ ?_;refine I7 ?_;refine Cu ?_;refine AE (Ai rfl (cQ _ _)) rfl ?_;refine IP ?_;refine Am (Bp k (cut p 15 5) AD AD) Bb ?_;refine AE (Ai rfl (cQ _ _)) rfl ?_;refine IP ?_;refine Am (Bp (AF k (cut p 15 5)) (cut q 15 5) AD AD) Bb ?_;refine ID ?_;refine Bn ?_;refine EJ ?_;have hQ19:(cut p 10 5).length=5:=An
 have hQ20:(AW (cut p 10 5) (cut p 10 5)).length=5:=An
 have hQ21:(cut q 10 5).length=5:=An
 have hQ22:(AF (AW (cut p 10 5) (cut p 10 5)) (cut q 10 5)).length=5:=An
 refine S_ ?_;refine II ?_;refine AE (Ai rfl (SD _ _)) rfl ?_;refine IP ?_;refine AE (Ai rfl (SD _ _)) rfl ?_;refine IP ?_;refine Am (FV (cut p 10 5) (cut p 10 5) AD AD) Gy ?_;refine AE (Ai rfl (SD _ _)) rfl ?_;refine IP ?_;refine Am (Bp (AW (cut p 10 5) (cut p 10 5)) (cut q 10 5) AD AD) Bb ?_;refine ID ?_;refine Bn ?_;refine EJ ?_;have hQ23:(Ao (AF (AW (cut p 5 5) (cut p 0 5)) (AW (cut q 5 5) (cut q 0 5))) (AF (Ao (cut p 5 5) (cut p 0 5)) (Ao (cut q 5 5) (cut q 0 5)))).length=5:=An
 have hQ24:(Ao (AF (AW (cut p 10 5) (cut p 10 5)) (cut q 10 5)) (AF (AF k (cut p 15 5)) (cut q 15 5))).length=5:=An
 have hQ25:(AW (AF (AW (cut p 10 5) (cut p 10 5)) (cut q 10 5)) (AF (AF k (cut p 15 5)) (cut q 15 5))).length=5:=An
 have hQ26:(AW (AF (AW (cut p 5 5) (cut p 0 5)) (AW (cut q 5 5) (cut q 0 5))) (AF (Ao (cut p 5 5) (cut p 0 5)) (Ao (cut q 5 5) (cut q 0 5)))).length=5:=An
 refine S_ ?_;refine OF ?_;refine Cc ?_;refine Am (Fv (AF (AW (cut p 5 5) (cut p 0 5)) (AW (cut q 5 5) (cut q 0 5))) (AF (Ao (cut p 5 5) (cut p 0 5)) (Ao (cut q 5 5) (cut q 0 5))) AD AD) Ht ?_;refine Cc ?_;refine Am (Fv (AF (AW (cut p 10 5) (cut p 10 5)) (cut q 10 5)) (AF (AF k (cut p 15 5)) (cut q 15 5)) AD AD) Ht ?_;refine Cc ?_;refine Am (FV (AF (AW (cut p 10 5) (cut p 10 5)) (cut q 10 5)) (AF (AF k (cut p 15 5)) (cut q 15 5)) AD AD) Gy ?_;refine Cc ?_;refine Am (FV (AF (AW (cut p 5 5) (cut p 0 5)) (AW (cut q 5 5) (cut q 0 5))) (AF (Ao (cut p 5 5) (cut p 0 5)) (Ao (cut q 5 5) (cut q 0 5))) AD AD) Gy ?_;refine ID ?_;refine ID ?_;refine ID ?_;refine ID ?_;refine Gv ?_;refine Hy ?_;refine Hy ?_;refine EJ ?_;have hQ27:(AF (Ao (AF (AW (cut p 5 5) (cut p 0 5)) (AW (cut q 5 5) (cut q 0 5))) (AF (Ao (cut p 5 5) (cut p 0 5)) (Ao (cut q 5 5) (cut q 0 5)))) (Ao (AF (AW (cut p 10 5) (cut p 10 5)) (cut q 10 5)) (AF (AF k (cut p 15 5)) (cut q 15 5)))).length=5:=An
 have hQ28:(AF (AW (AF (AW (cut p 10 5) (cut p 10 5)) (cut q 10 5)) (AF (AF k (cut p 15 5)) (cut q 15 5))) (AW (AF (AW (cut p 5 5) (cut p 0 5)) (AW (cut q 5 5) (cut q 0 5))) (AF (Ao (cut p 5 5) (cut p 0 5)) (Ao (cut q 5 5) (cut q 0 5))))).length=5:=An
 have hQ29:(AF (Ao (AF (AW (cut p 10 5) (cut p 10 5)) (cut q 10 5)) (AF (AF k (cut p 15 5)) (cut q 15 5))) (AW (AF (AW (cut p 10 5) (cut p 10 5)) (cut q 10 5)) (AF (AF k (cut p 15 5)) (cut q 15 5)))).length=5:=An
 have hQ30:(AF (Ao (AF (AW (cut p 5 5) (cut p 0 5)) (AW (cut q 5 5) (cut q 0 5))) (AF (Ao (cut p 5 5) (cut p 0 5)) (Ao (cut q 5 5) (cut q 0 5)))) (AW (AF (AW (cut p 5 5) (cut p 0 5)) (AW (cut q 5 5) (cut q 0 5))) (AF (Ao (cut p 5 5) (cut p 0 5)) (Ao (cut q 5 5) (cut q 0 5))))).length=5:=An
 refine S_ ?_;refine KT ?_;refine Cc ?_;refine Am (Bp (Ao (AF (AW (cut p 5 5) (cut p 0 5)) (AW (cut q 5 5) (cut q 0 5))) (AF (Ao (cut p 5 5) (cut p 0 5)) (Ao (cut q 5 5) (cut q 0 5)))) (Ao (AF (AW (cut p 10 5) (cut p 10 5)) (cut q 10 5)) (AF (AF k (cut p 15 5)) (cut q 15 5))) AD AD) Bb ?_;refine Cc ?_;refine Am (Bp (AW (AF (AW (cut p 10 5) (cut p 10 5)) (cut q 10 5)) (AF (AF k (cut p 15 5)) (cut q 15 5))) (AW (AF (AW (cut p 5 5) (cut p 0 5)) (AW (cut q 5 5) (cut q 0 5))) (AF (Ao (cut p 5 5) (cut p 0 5)) (Ao (cut q 5 5) (cut q 0 5)))) AD AD) Bb ?_;refine Cc ?_;refine Am (Bp (Ao (AF (AW (cut p 10 5) (cut p 10 5)) (cut q 10 5)) (AF (AF k (cut p 15 5)) (cut q 15 5))) (AW (AF (AW (cut p 10 5) (cut p 10 5)) (cut q 10 5)) (AF (AF k (cut p 15 5)) (cut q 15 5))) AD AD) Bb ?_;refine Cc ?_;refine Am (Bp (Ao (AF (AW (cut p 5 5) (cut p 0 5)) (AW (cut q 5 5) (cut q 0 5))) (AF (Ao (cut p 5 5) (cut p 0 5)) (Ao (cut q 5 5) (cut q 0 5)))) (AW (AF (AW (cut p 5 5) (cut p 0 5)) (AW (cut q 5 5) (cut q 0 5))) (AF (Ao (cut p 5 5) (cut p 0 5)) (Ao (cut q 5 5) (cut q 0 5)))) AD AD) Bb ?_;refine eO ?_;refine Bn ?_;refine Ey ?_;refine A6 ?_;rw [hP.out]
 exact W2
@[simp] theorem xq(p q k:AB 64)(hp:p.length=20)(hq:q.length=20)(hk:k.length=5):(Ci p q k).length=20:=by
 unfold Ci
 (simp (maxDischargeDepth:=9) [*];done)
attribute [irreducible] Ci
def L8(p q:AB 64):AB 64:=Ci p q (AW AP AP)
theorem me(p q:AB 64)(hp:p.length=20)(hq:q.length=20):Ev prog (.call 131 [EQ (p),EQ (q)] []) (.val (EQ (L8 p q)) []):=by
 have hP:=Hid.mk (L8.eq_1 p q)
 refine AG func131 rfl ntmps131 rfl AH ?_;refine BY ?_;refine Ff ?_;refine AN ?_;have hQ1:(AP).length=5:=An
 have hQ2:(AW AP AP).length=5:=An
 have hQ3:(Ci p q (AW AP AP)).length=20:=An
 refine S_ ?_;refine Qn ?_;refine AE (Bj rfl rfl SR T3 C1 D_) rfl ?_;refine AE (Bj rfl rfl SR T3 C1 D_) rfl ?_;refine Am (G7) OE ?_;refine Am (G7) OE ?_;refine Am (FV AP AP AD AD) Gy ?_;refine Am (Tj p q (AW AP AP) AD AD AD) gM ?_;refine Bn ?_;refine Ey ?_;refine A6 ?_;rw [hP.out]
 exact W2
@[simp] theorem zF(p q:AB 64)(hp:p.length=20)(hq:q.length=20):(L8 p q).length=20:=by
 unfold L8
 (simp (maxDischargeDepth:=9) [*];done)
attribute [irreducible] L8
def JV(n:AB 8)(p X4:AB 64)(j3:Nat):AB 64:=(if ((((nth n ((255-j3)/8))>>>((255-j3)%8))&&&1#8)==1#8)=true then Ci (Ci X4 X4 (AW AP AP)) p (AW AP AP) else Ci X4 X4 (AW AP AP))
def CU(n:AB 8)(p:AB 64):Nat→AB 64
 |0=>LR
 |j3+1=>JV n p (CU n p j3) j3
theorem KC(n:AB 8)(p:AB 64)(_hn:n.length=32)(hp:p.length=20)(j3:Nat):(CU n p j3).length=20:=by
 induction j3 with
 |zero=>(simp (maxDischargeDepth:=9) [CU, *];done)
 |succ j3 ih=>rw [CU.eq_2,JV];(split<;>first | (simp (maxDischargeDepth:=9) [ih];done) | (simp (maxDischargeDepth:=9) [ih];omega) | (simp (maxDischargeDepth:=9) [*];done))
def ET(n:AB 8)(p:AB 64):AB 64:=(CU n p 256)
theorem ND(k:r)(h:Hid r→g:=by intro h;refine AA (Bj rfl rfl SR T3 C1 D_) rfl ?_;exact h.out):g:=h ⟨k⟩
theorem WH(n:AB 8)(p:AB 64)(hn:n.length=32)(hp:p.length=20):Ev prog (.call 127 [B4 (n),EQ (p)] []) (.val (EQ (ET n p)) []):=by
 have hP:=Hid.mk (ET.eq_1 n p)
 refine AG func127 rfl ntmps127 rfl AH ?_;refine BY ?_;refine Ff ?_;refine AN ?_;have hQ1:(LR).length=20:=An
 have hQ2:(AP).length=5:=An
 have hQ3:(AW AP AP).length=5:=An
 refine AK ?_;refine A7 (lQ) yp ?_;refine A7 (G7) OE ?_;refine A7 (G7) OE ?_;refine A7 (FV AP AP AD AD) Gy ?_;refine Ff ?_;refine C8 ?_;refine Ey ?_;refine Hy ?_;refine AQ ?_;refine Ay ?_;refine AU [2,3,4,5,6,7] (fun (zz:Nat×AB 64)=>⟨34,AS [2,3,4,5,6,7] [Al 0,Al 1,Al 2,Al 3,Al 4,Ae (((255:Nat):Int)-((zz.1:Nat):Int))],[CM (n),CH (p),CH (Aj 20),CH (zz.2),CH (AW AP AP)]⟩) (fun j3=>(j3,CU n p j3)) (256) K_ ?_ ?_
 ·intro j3 hj3
  try dsimp only
  have hX4:(CU n p j3).length=20:=by rw [KC n p hn hp _];try omega
  rw [CU.eq_2,JV]
  generalize CU n p j3=X4 at*
  rw [show ((255:Nat):Int)-((j3:Nat):Int)=((255-j3:Nat):Int) from by omega]
  refine A9 ?_;refine R1 ?_;refine AN ?_;have hQ5:(Ci X4 X4 (AW AP AP)).length=20:=An
  refine AK ?_;refine ND ?_;refine ND ?_;refine GU ?_;refine A7 (Tj X4 X4 (AW AP AP) AD AD AD) gM ?_;refine Ey ?_;refine AZ ?_;refine Nh ?_;refine Q5 ?_;refine GZ ?_;refine AR ?_;refine Oe ?_;refine AA (RX rfl rfl) rfl ?_;refine AA (Ng (b:=1#8) rfl rfl) rfl ?_;refine TN ?_;refine FA ?_;refine I1 [2,3,4,5,6,7] (fun (zz:AB 64)=>⟨34,AS [2,3,4,5,6,7] [Al 0,Al 1,Al 2,Al 3,Al 4,Ae (((255-j3:Nat):Int))],[CM (n),CH (p),CH (Aj 20),CH (zz),CH (AW AP AP)]⟩) (if ((((nth n ((255-j3)/8))>>>((255-j3)%8))&&&1#8)==1#8)=true then Ci (Ci X4 X4 (AW AP AP)) p (AW AP AP) else Ci X4 X4 (AW AP AP)) rfl (fun hb=>?_) (fun hb=>?_) ?_
  ·have hQ7:(Ci (Ci X4 X4 (AW AP AP)) p (AW AP AP)).length=20:=An
   refine AK ?_;refine ND ?_;refine ND ?_;refine GU ?_;refine A7 (Tj (Ci X4 X4 (AW AP AP)) p (AW AP AP) AD AD AD) gM ?_;refine Ey ?_;refine A6 ?_;refine ⟨(Ci (Ci X4 X4 (AW AP AP)) p (AW AP AP)),K_,?_⟩
   rw [if_pos (hb)]
  ·refine S_ ?_
   refine ⟨(Ci X4 X4 (AW AP AP)),K_,?_⟩
   rw [if_neg (by (rw [hb];decide))]
  have hJ6:(if ((((nth n ((255-j3)/8))>>>((255-j3)%8))&&&1#8)==1#8)=true then Ci (Ci X4 X4 (AW AP AP)) p (AW AP AP) else Ci X4 X4 (AW AP AP)).length=20:=by split<;>simp [*]
  generalize (if ((((nth n ((255-j3)/8))>>>((255-j3)%8))&&&1#8)==1#8)=true then Ci (Ci X4 X4 (AW AP AP)) p (AW AP AP) else Ci X4 X4 (AW AP AP))=J6 at*
  refine A9 ?_;refine Nv ?_;refine Bc ?_;refine ⟨(j3+1,_),(by
   dsimp only
   rw [show ((255:Nat):Int)-((j3+1:Nat):Int)=((255-j3:Nat):Int)-1 from by omega]
   kernel_rfl),rfl⟩
 ·try dsimp only
  have hY8:(CU n p 256).length=20:=by rw [KC n p hn hp _];try omega
  generalize CU n p 256=Y8 at*
  refine A9 ?_;refine QP ?_;refine AQ ?_;refine ND ?_;refine Ey ?_;refine A6 ?_;rw [hP.out]
  exact W2
@[simp] theorem ug(n:AB 8)(p:AB 64)(hn:n.length=32)(hp:p.length=20):(ET n p).length=20:=by
 unfold ET
 (simp (maxDischargeDepth:=9) [KC, *];done)
attribute [irreducible] ET
def PF(X1:AB 8)(j3:Nat):AB 8:=put X1 (1+j3) 102#8
def EM:Nat→AB 8
 |0=>put (Ag 32) 0 88#8
 |j3+1=>PF (EM j3) j3
@[simp] theorem LB  (j3:Nat):(EM j3).length=32:=by
 induction j3 with
 |zero=>(simp (maxDischargeDepth:=9) [EM, *];done)
 |succ j3 ih=>rw [EM.eq_2,PF];(simp (maxDischargeDepth:=9) [ih];done)
def Hg:AB 64:=Kn (EM 31)
theorem kg:Ev prog (.call 132 [] []) (.val (EQ (Hg)) []):=by
 have hP:=Hid.mk (Hg.eq_1)
 refine AG func132 rfl ntmps132 rfl AH ?_;refine AK ?_;refine Ff ?_;refine AQ ?_;refine AA (Yu (l:=(put (Ag 32) 0 (88#8))) pO underlying37 Bz rfl rfl) rfl ?_;refine EC ?_;refine AQ ?_;refine Ay ?_;refine AU [0,1,2] (fun (zz:Nat×AB 8)=>⟨18,AS [0,1,2] [Al 0,Al 1,Ae (((1+zz.1:Nat):Int))],[CH (Aj 20),CM (zz.2)]⟩) (fun j3=>(j3,EM j3)) (31) K_ ?_ ?_
 ·intro j3 hj3
  try dsimp only
  have hX1:(EM j3).length=32:=by rw [LB _];try omega
  rw [EM.eq_2,PF]
  generalize EM j3=X1 at*
  refine A9 ?_;refine Tz ?_;refine AZ ?_;refine Q5 ?_;refine bE (w:=102#8) rfl rfl rfl Bz Dw AM ?_;refine AZ ?_;refine Cl ?_;exact ⟨(j3+1,_),K_,rfl⟩
 ·try dsimp only
  have hY2:(EM 31).length=32:=by rw [LB _];try omega
  generalize EM 31=Y2 at*
  refine A9 ?_;refine Sr ?_;refine AN ?_;have hQ3:(Kn Y2).length=20:=An
  refine CC ?_;refine A7 (Wy Y2 AD) RE ?_;refine Cx ?_;refine Ff ?_;refine Ey ?_;refine Ad ?_;refine ND ?_;refine Ey ?_;refine A6 ?_;rw [hP.out]
  exact W2
@[simp] theorem wo:(Hg).length=20:=by
 unfold Hg
 (simp (maxDischargeDepth:=9) [LB, *];done)
attribute [irreducible] Hg
def Dt(p:AB 64):AB 8:=(if (((nth (AO (AF (cut p 0 5) (B3 (cut p 10 5)))) 0)&&&1#8)==1#8)=true then put (AO (AF (cut p 5 5) (B3 (cut p 10 5)))) 31 ((nth (AO (AF (cut p 5 5) (B3 (cut p 10 5)))) 31) ||| 128#8) else AO (AF (cut p 5 5) (B3 (cut p 10 5))))
theorem dp(k:r)(h:Hid r→g:=by intro h;refine AA (Xr rfl rfl GM Fe UD D_) rfl ?_;exact h.out):g:=h ⟨k⟩
theorem PC(p:AB 64)(hp:p.length=20):Ev prog (.call 128 [EQ (p)] []) (.val (B4 (Dt p)) []):=by
 have hP:=Hid.mk (Dt.eq_1 p)
 refine AG func128 rfl ntmps128 rfl AH ?_;refine Bg ?_;refine EB ?_;refine AN ?_;have hQ1:(cut p 10 5).length=5:=An
 have hQ2:(B3 (cut p 10 5)).length=5:=An
 refine AK ?_;refine AA (Ai rfl (SD _ _)) rfl ?_;refine dp ?_;refine A7 (Lx (cut p 10 5) AD) Ss ?_;refine C8 ?_;refine EJ ?_;have hQ3:(cut p 5 5).length=5:=An
 have hQ4:(AF (cut p 5 5) (B3 (cut p 10 5))).length=5:=An
 have hQ5:(AO (AF (cut p 5 5) (B3 (cut p 10 5)))).length=32:=An
 refine AK ?_;refine AA (Ai rfl (Ol _ _)) rfl ?_;refine dp ?_;refine GU ?_;refine A7 (Bp (cut p 5 5) (B3 (cut p 10 5)) AD AD) Bb ?_;refine A7 (EY (AF (cut p 5 5) (B3 (cut p 10 5))) AD) LV ?_;refine EC ?_;refine AN ?_;have hQ6:(cut p 0 5).length=5:=An
 have hQ7:(AF (cut p 0 5) (B3 (cut p 10 5))).length=5:=An
 refine AK ?_;refine AA (Ai rfl (O9 _ _)) rfl ?_;refine dp ?_;refine GU ?_;refine A7 (Bp (cut p 0 5) (B3 (cut p 10 5)) AD AD) Bb ?_;refine A7 (VX (AF (cut p 0 5) (B3 (cut p 10 5))) AD) fj ?_;refine FA ?_;refine I1 [2,4] (fun (zz:AB 8)=>⟨23,AS [2,4] [Al 0,Al 1],[CM (Ag 32),CM (zz)]⟩) (if (((nth (AO (AF (cut p 0 5) (B3 (cut p 10 5)))) 0)&&&1#8)==1#8)=true then put (AO (AF (cut p 5 5) (B3 (cut p 10 5)))) 31 ((nth (AO (AF (cut p 5 5) (B3 (cut p 10 5)))) 31) ||| 128#8) else AO (AF (cut p 5 5) (B3 (cut p 10 5)))) rfl (fun hb=>?_) (fun hb=>?_) ?_
 ·refine S_ ?_
  refine Aq ?_;refine IE ?_;refine AA (bO (b:=128#8) rfl rfl) rfl ?_;refine PA ?_;refine C3 ?_;refine A6 ?_;refine ⟨(put (AO (AF (cut p 5 5) (B3 (cut p 10 5)))) 31 ((nth (AO (AF (cut p 5 5) (B3 (cut p 10 5)))) 31) ||| 128#8)),K_,?_⟩
  rw [if_pos (hb)]
 ·refine S_ ?_
  refine ⟨(AO (AF (cut p 5 5) (B3 (cut p 10 5)))),K_,?_⟩
  rw [if_neg (by (rw [hb];decide))]
 have hJ8:(if (((nth (AO (AF (cut p 0 5) (B3 (cut p 10 5)))) 0)&&&1#8)==1#8)=true then put (AO (AF (cut p 5 5) (B3 (cut p 10 5)))) 31 ((nth (AO (AF (cut p 5 5) (B3 (cut p 10 5)))) 31) ||| 128#8) else AO (AF (cut p 5 5) (B3 (cut p 10 5)))).length=32:=by split<;>simp [*]
 generalize (if (((nth (AO (AF (cut p 0 5) (B3 (cut p 10 5)))) 0)&&&1#8)==1#8)=true then put (AO (AF (cut p 5 5) (B3 (cut p 10 5)))) 31 ((nth (AO (AF (cut p 5 5) (B3 (cut p 10 5)))) 31) ||| 128#8) else AO (AF (cut p 5 5) (B3 (cut p 10 5))))=J8 at*
 refine CC ?_;refine Em ?_;rw [hP.out]
 exact FC
@[simp] theorem sR(p:AB 64)(hp:p.length=20):(Dt p).length=32:=by
 unfold Dt
 (split<;>(simp (maxDischargeDepth:=9) [*];done))
attribute [irreducible] Dt
def HF(p q:AB 8):AB 8:=Dt (L8 (Kn p) (Kn q))
theorem Tn(k:r)(h:Hid r→g:=by intro h;refine AA (Bs rfl rfl) rfl ?_;exact h.out):g:=h ⟨k⟩
theorem DM(k:r)(h:Hid r→g:=by intro h;refine AA (SU rfl) rfl ?_;refine AA (MU rfl dj rfl) rfl ?_;exact h.out):g:=h ⟨k⟩
theorem lN(p q:AB 8)(hp:p.length=32)(hq:q.length=32)(hk:Fa p=true)(hq_:Fa q=true):Ev prog (.call 93 [B4 (p),B4 (q)] []) (.val (.tup [B4 (HF p q),Ae ((0:Nat):Int)]) []):=by
 have hP_cvAddT0:Hid (HF p q=Dt (L8 (Kn p) (Kn q))):=⟨rfl⟩
 refine AG func93 rfl ntmps93 rfl AH ?_;refine BY ?_;refine EB ?_;refine Bc ?_;have hQ2:(Kn p).length=20:=An
 have hE1:(Fa p)=true:=hk
 refine CC ?_;refine A7 (Wy p AD) RE ?_;refine AA (E9 rfl) rfl ?_;refine Tn ?_;refine AA (Ov (Bs rfl rfl) hE1) rfl ?_;refine Ff ?_;refine Ey ?_;refine Bc ?_;have hQ4:(Kn q).length=20:=An
 have hE3:(Fa q)=true:=hq_
 refine CC ?_;refine A7 (Wy q AD) RE ?_;refine AA (E9 rfl) rfl ?_;refine Tn ?_;refine AA (Ov (Bs rfl rfl) hE3) rfl ?_;refine Ff ?_;refine Ey ?_;refine Ab ?_;refine FO ?_;refine Db ?_;refine Db ?_;refine DM ?_;refine AN ?_;have hQ5:(L8 (Kn p) (Kn q)).length=20:=An
 have hQ6:(Dt (L8 (Kn p) (Kn q))).length=32:=An
 refine AK ?_;refine ND ?_;refine ND ?_;refine A7 (me (Kn p) (Kn q) AD AD) yW ?_;refine A7 (PC (L8 (Kn p) (Kn q)) AD) fz ?_;refine F5 ?_;refine Ay ?_;rw [hP_cvAddT0.out]
 exact K6
@[simp] theorem up(p q:AB 8)(hp:p.length=32)(hq:q.length=32):(HF p q).length=32:=by
 unfold HF
 (simp (maxDischargeDepth:=9) [*];done)
attribute [irreducible] HF
def Pz:AB 8:=Ag 32
theorem Zc(k:r)(h:Hid r→g:=by intro h;refine AA (Yu (l:=(Ag 32)) pO underlying37 Bz rfl rfl) rfl ?_;exact h.out):g:=h ⟨k⟩
theorem kz(p q:AB 8)(hp:p.length=32)(hq:q.length=32)(hk:Fa p=false):Ev prog (.call 93 [B4 (p),B4 (q)] []) (.val (.tup [B4 (Pz),Ae ((4:Nat):Int)]) []):=by
 have hP_cvAddN0:Hid (Pz=Ag 32):=⟨rfl⟩
 refine AG func93 rfl ntmps93 rfl AH ?_;refine BY ?_;refine EB ?_;refine Bc ?_;have hQ2:(Kn p).length=20:=An
 have hE1:(Fa p)=false:=hk
 refine CC ?_;refine A7 (Wy p AD) RE ?_;refine AA (E9 rfl) rfl ?_;refine Tn ?_;refine AA (Ov (Bs rfl rfl) hE1) rfl ?_;refine Ff ?_;refine Ey ?_;refine Bc ?_;have hQ3:(Kn q).length=20:=An
 refine CC ?_;refine A7 (Wy q AD) RE ?_;refine Cx ?_;refine Ff ?_;refine Ey ?_;refine Ab ?_;refine FO ?_;refine AR ?_;refine N5 Nz rfl ?_;refine N5 Nz rfl ?_;refine Cg ?_;refine AQ ?_;refine Zc ?_;refine F5 ?_;refine Ay ?_;rw [hP_cvAddN0.out]
 exact K6
@[simp] theorem uS:(Pz).length=32:=by
 unfold Pz
 (simp (maxDischargeDepth:=9) [*];done)
attribute [irreducible] Pz
def Ed(n p:AB 8):AB 8:=Dt (ET n (Kn p))
theorem YE(n p:AB 8)(hn:n.length=32)(hp:p.length=32)(hk:Fa p=true):Ev prog (.call 91 [B4 (n),B4 (p)] []) (.val (.tup [B4 (Ed n p),Ae ((0:Nat):Int)]) []):=by
 have hP_cvTmsT0:Hid (Ed n p=Dt (ET n (Kn p))):=⟨rfl⟩
 refine AG func91 rfl ntmps91 rfl AH ?_;refine BY ?_;refine EB ?_;refine Bc ?_;have hQ2:(Kn p).length=20:=An
 have hE1:(Fa p)=true:=hk
 refine CC ?_;refine A7 (Wy p AD) RE ?_;refine AA (E9 rfl) rfl ?_;refine Tn ?_;refine AA (Ov (Bs rfl rfl) hE1) rfl ?_;refine Ff ?_;refine Ey ?_;refine Ab ?_;refine FO ?_;refine AN ?_;have hQ3:(ET n (Kn p)).length=20:=An
 have hQ4:(Dt (ET n (Kn p))).length=32:=An
 refine CC ?_;refine ND ?_;refine A7 (WH n (Kn p) AD AD) qk ?_;refine A7 (PC (ET n (Kn p)) AD) fz ?_;refine F5 ?_;refine Ay ?_;rw [hP_cvTmsT0.out]
 exact K6
@[simp] theorem ur(n p:AB 8)(hn:n.length=32)(hp:p.length=32):(Ed n p).length=32:=by
 unfold Ed
 (simp (maxDischargeDepth:=9) [*];done)
attribute [irreducible] Ed
def P3:AB 8:=Ag 32
theorem kx(n p:AB 8)(_hn:n.length=32)(hp:p.length=32)(hk:Fa p=false):Ev prog (.call 91 [B4 (n),B4 (p)] []) (.val (.tup [B4 (P3),Ae ((4:Nat):Int)]) []):=by
 have hP_cvTmsF0:Hid (P3=Ag 32):=⟨rfl⟩
 refine AG func91 rfl ntmps91 rfl AH ?_;refine BY ?_;refine EB ?_;refine Bc ?_;have hQ2:(Kn p).length=20:=An
 have hE1:(Fa p)=false:=hk
 refine CC ?_;refine A7 (Wy p AD) RE ?_;refine AA (E9 rfl) rfl ?_;refine Tn ?_;refine AA (Ov (Bs rfl rfl) hE1) rfl ?_;refine Ff ?_;refine Ey ?_;refine Ab ?_;refine FO ?_;refine AQ ?_;refine Zc ?_;refine F5 ?_;refine Ay ?_;rw [hP_cvTmsF0.out]
 exact K6
@[simp] theorem uY:(P3).length=32:=by
 unfold P3
 (simp (maxDischargeDepth:=9) [*];done)
attribute [irreducible] P3
def po(n:AB 8):AB 8:=Dt (ET n Hg)
theorem sX(n:AB 8)(hn:n.length=32):Ev prog (.call 94 [B4 (n)] []) (.val (B4 (po n)) []):=by
 have hP:=Hid.mk (po.eq_1 n)
 refine AG func94 rfl ntmps94 rfl AH ?_;refine Bg ?_;refine EB ?_;refine AN ?_;have hQ1:(Hg).length=20:=An
 have hQ2:(ET n Hg).length=20:=An
 have hQ3:(Dt (ET n Hg)).length=32:=An
 refine S_ ?_;refine KM ?_;refine DS ?_;refine Am (kg) wm ?_;refine Am (WH n Hg AD AD) qk ?_;refine Am (PC (ET n Hg) AD) fz ?_;refine Bn ?_;refine Em ?_;rw [hP.out]
 exact FC
attribute [irreducible] po
def pB:AB 8:=XZ PP
attribute [irreducible] pB
theorem zs1:zf (1#64:BitVec 64).toNat=1:=rfl
theorem aw(b:AB 8)(i:Nat)(v:BitVec 8)(n:Nat)(h:n≤i)(hl:i<b.length):D8 (put b i v) n=D8 b n:=by
 induction n with
 |zero=>rfl
 |succ n ih=>rw [D8,D8,ih O_,DH _ _ _ _ hl,if_neg O_]
theorem XT{b:AB 8}(hb:b.length=32)(v:BitVec 8):D8 (put b 31 v) 32=D8 b 31+v.toNat*452312848583266388373324160190187140051835877600158453279131187530910662656:=by
 rw [D8,aw _ _ _ _ (Nat.le_refl _) O_,DH _ _ _ _ O_,if_pos rfl]
theorem Uy(b:AB 8):D8 b 32=D8 b 31+(nth b 31).toNat*452312848583266388373324160190187140051835877600158453279131187530910662656:=by rw [D8]
theorem V1(b:AB 8):D8 b 31<452312848583266388373324160190187140051835877600158453279131187530910662656:=O2 b 31
theorem xN(x:BitVec 8):(x&&&127#8).toNat=x.toNat%128:=by revert x;decide+kernel
theorem ACO(x:BitVec 8):(x>>>7==1#8)=decide (128≤x.toNat):=by revert x;decide+kernel
theorem AA2(x:BitVec 8)(h:x.toNat<128):(x ||| 128#8).toNat=x.toNat+128:=by revert x;decide+kernel
abbrev MM:Nat:=57896044618658097711785492504343953926634992332820282019728792003956564819968
theorem jK{b:AB 8}(hb:b.length=32):D8 (put b 31 (nth b 31&&&127#8)) 32=D8 b 32%MM:=by
 rw [XT hb,Uy b,xN]
 have h:=V1 b
 show _=_%57896044618658097711785492504343953926634992332820282019728792003956564819968
 omega
theorem st(b:AB 8):(nth b 31>>>7==1#8)=decide (MM≤D8 b 32):=by
 rw [ACO,Uy b]
 have h:=V1 b
 refine decide_eq_decide.2 ?_;show _↔57896044618658097711785492504343953926634992332820282019728792003956564819968≤_
 omega
theorem yC{b:AB 8}(hb:b.length=32)(hv:D8 b 32<MM):D8 (put b 31 (nth b 31 ||| 128#8)) 32=D8 b 32+MM:=by
 have h:=V1 b
 rw [XT hb,Uy b]
 rw [Uy b] at hv
 change _<57896044618658097711785492504343953926634992332820282019728792003956564819968 at hv
 rw [AA2 _ O_]
 show _=_+57896044618658097711785492504343953926634992332820282019728792003956564819968
 omega
theorem jC{u:Fp}(hu:u≠0):(-u).val%2=1-u.val%2:=by
 have hp:0<u.val:=by
  rcases Nat.eq_zero_or_pos u.val with h | h
  ·exact absurd (Fin.ext h) hu
  ·exact h
 have hlt:=u.isLt
 have e:(-u).val=PP-u.val:=by
  rw [show-u=0-u from by grobner,Fin.sub_def]
  show (PP-u.val+0)%PP=_
  rw [Nat.add_zero,Nat.mod_eq_of_lt (Nat.sub_lt D_ hp)]
 rw [e]
 change u.val<57896044618658097711785492504343953926634992332820282019728792003956564819949 at hlt
 show (57896044618658097711785492504343953926634992332820282019728792003956564819949-u.val)%2=_
 omega
theorem sk(u:Fp): -u* -u=u*u:=by grobner
theorem kW: -(0:Fp)=0:=by grobner
theorem yA{u v:Fp}(h:u*u=v*v)(hp:u.val%2=v.val%2):u=v:=by
 rcases uX h with h1 | h1
 ·exact h1
 ·by_cases hv:v=0
  ·rw [h1,hv,kW]
  ·have:=jC hv
   rw [←h1] at this
   omega
structure OR where
 p:Pt
 on:On p
theorem OR.same{P Q:OR}(h:P.p=Q.p):P=Q:=by
 cases P;cases Q;cases h;rfl
def lO(P Q:OR):OR:=⟨ED P.p Q.p,TA P.on Q.on⟩
def TO(P:OR)(n:Nat):OR:=⟨F8 P.p n,JA P.on n⟩
def Vk:OR:=⟨TS,Gl⟩
theorem lM(P Q:OR):lO P Q=lO Q P:=OR.same (Sj _ _)
theorem qh(P:OR)(m n:Nat):TO P (m+n)=lO (TO P m) (TO P n):=OR.same (Fs P.on m n)
theorem qB(P:OR)(m n:Nat):TO P (m*n)=TO (TO P m) n:=OR.same (Oi P.on m n)
theorem ki(n:Nat):TO Vk (n%A2)=TO Vk n:=OR.same (rk n)
def Qi(P:OR):Nat:=P.p.y.val+P.p.x.val%2*MM
def enc(P:OR):AB 8:=XZ (Qi P)
@[simp] theorem Uh(P:OR):(enc P).length=32:=Kr _
theorem M9(P:OR):Qi P<115792089237316195423570985008687907853269984665640564039457584007913129639936∧Qi P%MM=P.p.y.val∧(MM≤Qi P↔P.p.x.val%2=1):=by
 have h:=P.p.y.isLt
 unfold Qi
 change _<57896044618658097711785492504343953926634992332820282019728792003956564819949 at h
 change _+_*57896044618658097711785492504343953926634992332820282019728792003956564819968<_∧(_+_*57896044618658097711785492504343953926634992332820282019728792003956564819968)%57896044618658097711785492504343953926634992332820282019728792003956564819968=_∧(57896044618658097711785492504343953926634992332820282019728792003956564819968≤_+_*57896044618658097711785492504343953926634992332820282019728792003956564819968↔_)
 omega
theorem aq(P:OR):D8 (enc P) 32=Qi P:=by
 unfold enc
 rw [QB _ _ (Nat.le_refl _),Nat.mod_eq_of_lt]
 exact (M9 P).1
theorem fp{b:AB 8}(hb:b.length=32){P:OR}(h:Qi P=D8 b 32):enc P=b:=by
 unfold enc
 rw [h,im hb]
def LX(y:Fp):Fp:=(y*y-1)*CE (dF*(y*y)+1)
theorem oq(P:OR):P.p.x*P.p.x=LX P.p.y:=(rP _ _).1 P.on
theorem AAo{x y:Fp}(h:x*x=LX y):On ⟨x,y⟩:=(rP _ _).2 h
theorem sS{P Q:OR}(h:Qi P=Qi Q):P=Q:=by
 obtain ⟨_,y1,b1⟩:=M9 P
 obtain ⟨_,y2,b2⟩:=M9 Q
 rw [h] at y1 b1
 have hy:P.p.y=Q.p.y:=Fin.ext (y1.symm.trans y2)
 have hx:P.p.x=Q.p.x:=by
  refine yA (by rw [oq,oq,hy]) ?_
  have:=Nat.mod_two_eq_zero_or_one P.p.x.val
  have:=Nat.mod_two_eq_zero_or_one Q.p.x.val
  have:=b1.symm.trans b2
  omega
 refine OR.same ?_
 cases hp:P.p
 cases hq:Q.p
 rw [hp,hq] at hx hy
 simp only at hx hy
 rw [hx,hy]
theorem ww{P Q:OR}:enc P=enc Q↔P=Q:=⟨fun h=>sS (by rw [←aq,h,aq]),fun h=>by rw [h]⟩
def zC(n:Nat):Bool:=decide (n%MM<PP)&&(decide (Fm (LX (zf (n%MM)))*Fm (LX (zf (n%MM)))=LX (zf (n%MM)))&& !(decide (MM≤n)&&decide (Fm (LX (zf (n%MM)))=0)))
def dX(n:Nat):Fp:=if (Fm (LX (zf (n%MM)))).val%2=n/MM then Fm (LX (zf (n%MM))) else-Fm (LX (zf (n%MM)))
theorem tE(P:OR):zC (Qi P)=true:=by
 obtain ⟨h1,h2,h3⟩:=M9 P
 unfold zC
 rw [h2,Kj,←oq,decide_eq_true P.p.y.isLt,decide_eq_true (co _),Bool.true_and,Bool.true_and,Bool.not_eq_true',Bool.and_eq_false_iff]
 by_cases ho:MM≤Qi P
 ·refine .inr (decide_eq_false fun h0=>?_)
  have hx:P.p.x*P.p.x=0:=by rw [←co P.p.x,h0];exact FY _
  have hx0:P.p.x=0:=by rcases Ga hx with h | h<;>exact h
  have:=h3.1 ho
  rw [hx0] at this
  change 0%2=1 at this
  omega
 ·exact .inl (decide_eq_false ho)
theorem vp{n:Nat}(hn:n<115792089237316195423570985008687907853269984665640564039457584007913129639936)(h:zC n=true):∃P:OR,Qi P=n∧P.p.y=zf (n%MM)∧P.p.x=dX n:=by
 unfold zC at h
 simp only [Bool.and_eq_true,Bool.not_eq_true',Bool.and_eq_false_iff,decide_eq_true_eq,decide_eq_false_iff_not] at h
 obtain ⟨hy,hr,ho⟩:=h
 have hd:n/MM≤1:=by
  show n/57896044618658097711785492504343953926634992332820282019728792003956564819968≤1
  omega
 have hm:MM≤n↔n/MM=1:=by
  show 57896044618658097711785492504343953926634992332820282019728792003956564819968≤n↔n/57896044618658097711785492504343953926634992332820282019728792003956564819968=1
  omega
 have hs:dX n*dX n=LX (zf (n%MM)):=by
  rw [←hr]
  unfold dX
  split
  ·rfl
  ·exact sk _
 have hp:(dX n).val%2=n/MM:=by
  unfold dX
  split
  ·assumption
  ·rename_i hc
   have h2:=Nat.mod_two_eq_zero_or_one (Fm (LX (zf (n%MM)))).val
   have hne:Fm (LX (zf (n%MM)))≠0:=fun e=>by
    rcases ho with h | h
    ·rw [e] at hc
     change ¬0%2=n/MM at hc
     rw [hm] at h
     generalize n/MM=q at*
     omega
    ·exact h e
   rw [jC hne]
   generalize n/MM=q at*
   omega
 refine ⟨⟨⟨dX n,zf (n%MM)⟩,AAo hs⟩,?_,rfl,rfl⟩
 unfold Qi
 show (zf (n%MM)).val+(dX n).val%2*MM=n
 rw [hp,IA,Nat.mod_eq_of_lt hy]
 have:=Nat.div_add_mod n MM
 rw [Nat.mul_comm] at this
 omega
attribute [irreducible] enc
def Fj(p:AB 64):Prop:=p.length=20∧C7 (cut p 0 5)∧C7 (cut p 5 5)∧C7 (cut p 10 5)∧C7 (cut p 15 5)
def LQ(p:AB 64):Qt:=⟨LF (cut p 0 5),LF (cut p 5 5),LF (cut p 10 5),LF (cut p 15 5)⟩
theorem AAe{a b c d:AB 64}(ha:a.length=5)(hb:b.length=5)(hc:c.length=5)(hd:d.length=5):(a++b++c++d).length=20∧cut (a++b++c++d) 0 5=a∧cut (a++b++c++d) 5 5=b∧cut (a++b++c++d) 10 5=c∧cut (a++b++c++d) 15 5=d:=by
 obtain ⟨a0,a1,a2,a3,a4,rfl⟩:=Ub ha
 obtain ⟨b0,b1,b2,b3,b4,rfl⟩:=Ub hb
 obtain ⟨c0,c1,c2,c3,c4,rfl⟩:=Ub hc
 obtain ⟨d0,d1,d2,d3,d4,rfl⟩:=Ub hd
 exact ⟨rfl,rfl,rfl,rfl,rfl⟩
theorem OQ{a b c d:AB 64}(ha:C7 a)(hb:C7 b)(hc:C7 c)(hd:C7 d):Fj (a++b++c++d)∧LQ (a++b++c++d)=⟨LF a,LF b,LF c,LF d⟩:=by
 obtain ⟨l,e1,e2,e3,e4⟩:=AAe ha.1 hb.1 hc.1 hd.1
 unfold Fj LQ
 rw [e1,e2,e3,e4]
 exact ⟨⟨l,ha,hb,hc,hd⟩,rfl⟩
theorem Lz:C7 AP∧LF AP=dF:=by
 have h:∀b,b=[163#8,120#8,89#8,19#8,202#8,77#8,235#8,117#8,171#8,216#8,65#8,65#8,77#8,10#8,112#8,0#8,152#8,232#8,121#8,119#8,121#8,64#8,199#8,140#8,115#8,254#8,111#8,43#8,238#8,108#8,3#8,82#8]→C7 (N6 b)∧LF (N6 b)=dF:=fun b hb=>by
  refine ⟨(Us b).1,?_⟩
  rw [(Us b).2,hb]
  unfold dF
  decide+kernel
 unfold AP
 exact h _ rfl
theorem Q7:C7 (AW AP AP)∧LF (AW AP AP)=dF+dF:=by
 have h:=Ij Lz.1 Lz.1
 rw [Lz.2] at h
 exact h
theorem Ta{p q k:AB 64}(hp:Fj p)(hq:Fj q)(hk:C7 k∧LF k=dF+dF):Fj (Ci p q k)∧LQ (Ci p q k)=cA (LQ p) (LQ q):=by
 obtain ⟨_,p0,p1,p2,p3⟩:=hp
 obtain ⟨_,q0,q1,q2,q3⟩:=hq
 obtain ⟨k1,k2⟩:=hk
 have a1:=KO p1 p0
 have a2:=KO q1 q0
 have a:=CL a1.1 a2.1
 have b1:=Ij p1 p0
 have b2:=Ij q1 q0
 have b:=CL b1.1 b2.1
 have c1:=CL k1 p3
 have c:=CL c1.1 q3
 have d1:=Ij p2 p2
 have d:=CL d1.1 q2
 have e:=KO b.1 a.1
 have f:=KO d.1 c.1
 have g:=Ij d.1 c.1
 have h:=Ij b.1 a.1
 have ef:=CL e.1 f.1
 have gh:=CL g.1 h.1
 have fg:=CL f.1 g.1
 have eh:=CL e.1 h.1
 unfold Ci
 refine ⟨(OQ ef.1 gh.1 fg.1 eh.1).1,?_⟩
 rw [(OQ ef.1 gh.1 fg.1 eh.1).2,ef.2,gh.2,fg.2,eh.2,e.2,f.2,g.2,h.2,a.2,b.2,c.2,d.2,a1.2,a2.2,b1.2,b2.2,c1.2,d1.2,k2]
 rfl
theorem kG:Fj LR∧LQ LR=nh:=by
 have s0:=Ds (x:=0#64) D_
 have s1:=Ds (x:=1#64) D_
 unfold LR
 refine ⟨(OQ s0.1 s1.1 s1.1 s0.1).1,?_⟩
 rw [(OQ s0.1 s1.1 s1.1 s0.1).2,s0.2,s1.2]
 rfl
theorem kZ(n:AB 8){p:AB 64}(hp:Fj p):∀j,j≤256→Fj (CU n p j)∧LQ (CU n p j)=Uf (LQ p) (D8 n 32) j:=by
 intro j
 induction j with
 |zero=>
  intro _
  rw [CU,Uf]
  exact kG
 |succ j ih=>
  intro hj
  obtain ⟨h1,h2⟩:=ih O_
  have h3:=Ta h1 h1 Q7
  have h4:=Ta h3.1 hp Q7
  rw [CU,JV,Uf,Yb n (255-j) O_]
  by_cases hc:D8 n 32/2^(255-j)%2=1
  ·rw [if_pos (decide_eq_true hc),if_pos hc,h4.2,h3.2,h2]
   exact ⟨h4.1,rfl⟩
  ·rw [if_neg (by rw [decide_eq_false hc];decide),if_neg hc,h3.2,h2]
   exact ⟨h3.1,rfl⟩
theorem rb(n:AB 8):D8 n 32<2^256:=O2 n 32
theorem Vd(n:AB 8){p:AB 64}(hp:Fj p){P:OR}(hr:W5 (LQ p) P.p):Fj (ET n p)∧W5 (LQ (ET n p)) (TO P (D8 n 32)).p:=by
 obtain ⟨h1,h2⟩:=kZ n hp 256 (Nat.le_refl _)
 unfold ET
 rw [h2]
 exact ⟨h1,YG P.on hr _ (rb n)⟩
theorem ou{p q:AB 64}(hp:Fj p)(hq:Fj q){P Q:OR}(h1:W5 (LQ p) P.p)(h2:W5 (LQ q) Q.p):Fj (L8 p q)∧W5 (LQ (L8 p q)) (lO P Q).p:=by
 have h:=Ta hp hq Q7
 unfold L8
 rw [h.2]
 exact ⟨h.1,aP P.on Q.on h1 h2⟩
theorem ul(u:Fp):((nth (F u) 0&&&1#8)==1#8)=decide (u.val%2=1):=by
 rw [iH,wP,BitVec.toNat_ofNat]
 refine decide_eq_decide.2 ?_;omega
theorem oW(u:Fp):D8 (F u) 32=u.val:=by
 unfold F
 rw [QB _ _ (Nat.le_refl _),Nat.mod_eq_of_lt (Nat.lt_trans u.isLt D_)]
theorem Qp{p:AB 64}(hp:Fj p){P:OR}(hr:W5 (LQ p) P.p):Dt p=enc P:=by
 obtain ⟨_,p0,p1,p2,p3⟩:=hp
 obtain ⟨z,ex,ey,_⟩:=hr
 have i:=W0 p2
 have x:=CL p0 i.1
 have y:=CL p1 i.1
 have hx:LF (AF (cut p 0 5) (B3 (cut p 10 5)))=P.p.x:=by rw [x.2,i.2];exact SK z ex
 have hy:LF (AF (cut p 5 5) (B3 (cut p 10 5)))=P.p.y:=by rw [y.2,i.2];exact SK z ey
 have hl:D8 (F P.p.y) 32<MM:=by
  rw [oW]
  exact Nat.lt_trans P.p.y.isLt D_
 unfold Dt
 rw [KH x.1,KH y.1,hx,hy,ul]
 by_cases ho:P.p.x.val%2=1
 ·rw [if_pos (decide_eq_true ho)]
  refine (fp (by rw [B1,bz]) ?_).symm
  rw [yC (bz _) hl,oW]
  unfold Qi
  rw [ho,Nat.one_mul]
 ·rw [if_neg (by rw [decide_eq_false ho];decide)]
  refine (fp (bz _) ?_).symm
  rw [oW]
  unfold Qi
  rw [show P.p.x.val%2=0 by omega,Nat.zero_mul,Nat.add_zero]
def MF(b:AB 8):Nat:=D8 b 32%MM
theorem MB{b:AB 8}(hb:b.length=32):C7 (Kh b)∧LF (Kh b)=zf (MF b):=by
 have h:=Us (put b 31 (nth b 31&&&127#8))
 rw [jK hb] at h
 unfold Kh MF
 exact h
theorem lS{b:AB 8}(hb:b.length=32):C7 (Dz b)∧LF (Dz b)=zf (MF b)*zf (MF b):=by
 have h:=CL (MB hb).1 (MB hb).1
 rw [(MB hb).2] at h
 unfold Dz
 exact h
theorem QD{b:AB 8}(hb:b.length=32):C7 (SP b)∧LF (SP b)=LX (zf (MF b)):=by
 have s1:=Ds (x:=1#64) D_
 have y:=lS hb
 have n:=KO y.1 s1.1
 have d1:=CL Lz.1 y.1
 have d2:=Ij d1.1 s1.1
 have d3:=W0 d2.1
 have h:=CL n.1 d3.1
 unfold SP
 refine ⟨h.1,?_⟩
 rw [h.2,n.2,d3.2,d2.2,d1.2,y.2,Lz.2,s1.2]
 rfl
theorem WV{b:AB 8}(hb:b.length=32):C7 (Fr b)∧LF (Fr b)=Fm (LX (zf (MF b))):=by
 have h:=(Xs (QD hb).1).1
 rw [(QD hb).2] at h
 unfold Fr
 exact h
theorem sQ{b:AB 8}(hb:b.length=32):XG b=decide (Fm (LX (zf (MF b)))*Fm (LX (zf (MF b)))=LX (zf (MF b))):=by
 have h:=(Xs (QD hb).1).2
 rw [(QD hb).2] at h
 unfold XG
 exact h
theorem xc{b:AB 8}(hb:b.length=32):vE b=decide (Fm (LX (zf (MF b)))=0):=by
 have s0:=Ds (x:=0#64) D_
 unfold vE
 rw [KH (WV hb).1,KH s0.1,(WV hb).2,s0.2]
 exact decide_eq_decide.2 je
theorem so(b:AB 8):MF b<MM:=Nat.mod_lt _ D_
theorem rv{b:AB 8}(hb:b.length=32):put b 31 (nth b 31&&&127#8)=XZ (MF b):=by
 have h:=im (b:=put b 31 (nth b 31&&&127#8)) (by rw [B1,hb])
 rw [jK hb] at h
 exact h.symm
theorem zm{n:Nat}(hn:n<MM):(F (zf n)=XZ n)↔n<PP:=by
 unfold F
 rw [IA]
 have hM:MM<256^32:=by decide
 constructor
 ·intro h
  have h1:D8 (XZ (n%PP)) 32=D8 (XZ n) 32:=by rw [h]
  rw [QB _ _ (Nat.le_refl _),QB _ _ (Nat.le_refl _),Nat.mod_eq_of_lt (Nat.lt_trans hn hM),Nat.mod_eq_of_lt (Nat.lt_trans (Nat.mod_lt _ gQ) D_)] at h1
  rw [←h1]
  exact Nat.mod_lt _ gQ
 ·intro h
  rw [Nat.mod_eq_of_lt h]
theorem ABl{b:AB 8}(hb:b.length=32):oP b=decide (MF b<PP):=by
 unfold oP
 rw [KH (MB hb).1,(MB hb).2,rv hb]
 exact decide_eq_decide.2 (zm (so b))
theorem ABE(b:AB 8):mR b=decide (MM≤D8 b 32):=by
 unfold mR
 exact st b
theorem dN{b:AB 8}(hb:b.length=32):Fa b=zC (D8 b 32):=by
 unfold Fa zC
 rw [ABl hb,sQ hb,ABE,xc hb]
 rfl
theorem Rb(P:OR):Fa (enc P)=true:=by
 rw [dN (Uh P),aq]
 exact tE P
theorem ia{x y:Fp}:W5 ⟨x,y,1,x*y⟩ ⟨x,y⟩:=⟨P9,(Rp _).symm,(Rp _).symm,(Rp _).symm⟩
theorem pj{b:AB 8}(hb:b.length=32){X:AB 64}(hX:C7 X):Fj (X++Kh b++AI 1#64++AF X (Kh b))∧LQ (X++Kh b++AI 1#64++AF X (Kh b))=⟨LF X,zf (MF b),1,LF X*zf (MF b)⟩:=by
 have s1:=Ds (x:=1#64) D_
 have y:=MB hb
 have m:=CL hX y.1
 have h:=OQ hX y.1 s1.1 m.1
 refine ⟨h.1,?_⟩
 rw [h.2,y.2,s1.2,m.2,y.2,zs1]
theorem ar(u:Fp):0-u= -u:=by grobner
theorem xZ{α:Type}(m:Nat)(o:Bool)(h:m=0∨m=1)(S R:α):(if (!((decide (m=1))==o))=true then S else R)=(if m=(if o then 1 else 0) then R else S):=by
 rcases h with rfl | rfl<;>cases o<;>rfl
theorem AAB{b:AB 8}(hb:b.length=32)(o:Bool)(ho:mR b=o):C7 (if (!((((nth (AO (Fr b)) 0)&&&1#8)==1#8)==o))=true then Ao (AI 0#64) (Fr b) else Fr b)∧LF (if (!((((nth (AO (Fr b)) 0)&&&1#8)==1#8)==o))=true then Ao (AI 0#64) (Fr b) else Fr b)=dX (D8 b 32):=by
 have r:=WV hb
 have s0:=Ds (x:=0#64) D_
 have s:=KO s0.1 r.1
 have hs:LF (Ao (AI 0#64) (Fr b))= -Fm (LX (zf (MF b))):=by
  rw [s.2,s0.2,r.2]
  exact ar _
 have hn:D8 b 32<115792089237316195423570985008687907853269984665640564039457584007913129639936:=O2 b 32
 rw [KH r.1,r.2,ul]
 unfold dX
 rw [show D8 b 32%MM=MF b from rfl]
 rw [ABE] at ho
 have hd:D8 b 32/MM=if o then 1 else 0:=by
  cases o with
  |true=>
   have h:=of_decide_eq_true ho
   change 57896044618658097711785492504343953926634992332820282019728792003956564819968≤_ at h
   show _/57896044618658097711785492504343953926634992332820282019728792003956564819968=1
   omega
  |false=>
   have h:=of_decide_eq_false ho
   change ¬57896044618658097711785492504343953926634992332820282019728792003956564819968≤_ at h
   show _/57896044618658097711785492504343953926634992332820282019728792003956564819968=0
   omega
 rw [hd,xZ _ o (Nat.mod_two_eq_zero_or_one (Fm (LX (zf (MF b)))).val)]
 by_cases hc:(Fm (LX (zf (MF b)))).val%2=if o then 1 else 0
 ·rw [if_pos hc,if_pos hc]
  exact r
 ·rw [if_neg hc,if_neg hc]
  exact ⟨s.1,hs⟩
theorem jc{b:AB 8}(hb:b.length=32)(h:Fa b=true):∃P:OR,b=enc P∧Fj (Kn b)∧W5 (LQ (Kn b)) P.p:=by
 obtain ⟨P,h1,h2,h3⟩:=vp (O2 b 32) (by rw [←dN hb];exact h)
 refine ⟨P,(fp hb h1).symm,?_⟩
 have hP:P.p=⟨dX (D8 b 32),zf (MF b)⟩:=by
  cases hp:P.p with
  |mk x y=>rw [hp] at h2 h3;simp only at h2 h3;rw [h2,h3];rfl
 rw [hP]
 unfold Kn
 rw [if_pos h]
 cases ho:mR b with
 |true=>
  rw [if_pos rfl]
  obtain ⟨x1,x2⟩:=AAB hb true ho
  have e:=pj hb x1
  unfold PD
  refine ⟨e.1,?_⟩
  rw [e.2,x2]
  exact ia
 |false=>
  rw [if_neg D_]
  obtain ⟨x1,x2⟩:=AAB hb false ho
  have e:=pj hb x1
  unfold Om
  refine ⟨e.1,?_⟩
  rw [e.2,x2]
  exact ia
theorem VA(P:OR):Fj (Kn (enc P))∧W5 (LQ (Kn (enc P))) P.p:=by
 obtain ⟨Q,e,h⟩:=jc (Uh P) (Rb P)
 rw [ww.1 e] at h ⊢
 exact h
theorem ke:EM 31=enc Vk:=by decide+kernel
theorem rf:Fj Hg∧W5 (LQ Hg) Vk.p:=by
 unfold Hg
 rw [ke]
 exact VA Vk
theorem uJ(P Q:OR):HF (enc P) (enc Q)=enc (lO P Q):=by
 obtain ⟨f1,r1⟩:=VA P
 obtain ⟨f2,r2⟩:=VA Q
 obtain ⟨f3,r3⟩:=ou f1 f2 r1 r2
 unfold HF
 exact Qp f3 r3
theorem iZ(n:AB 8)(P:OR):Ed n (enc P)=enc (TO P (D8 n 32)):=by
 obtain ⟨f1,r1⟩:=VA P
 obtain ⟨f3,r3⟩:=Vd n f1 r1
 unfold Ed
 exact Qp f3 r3
theorem wn(n:AB 8):po n=enc (TO Vk (D8 n 32)):=by
 obtain ⟨f1,r1⟩:=rf
 obtain ⟨f3,r3⟩:=Vd n f1 r1
 unfold po
 exact Qp f3 r3
def oB(n:AB 8):OR:=TO Vk (D8 n 32)
theorem ZY(n:AB 8)(hn:n.length=32):Ev prog (.call 94 [B4 n] []) (.val (B4 (enc (oB n))) []):=by
 have h:=sX n hn
 rw [wn] at h
 exact h
attribute [irreducible] oB
theorem wF(a b c:AB 8)(ha:a.length=32)(hb:b.length=32)(hc:c.length=32):Ev prog (.call 145 [B4 a,B4 b,B4 c] []) (.val (B4 (mD a b c)) []):=by
 rw [←ov];exact dW a b c ha hb hc
theorem lm(n:AB 8)(hn:n.length=32):Ev prog (.call 90 [B4 n] []) (.val (.c (.val (.bool (IS n)))) []):=by
 rw [←bh hn];exact eY n hn
theorem ic(b:AB 8)(n cap:Nat)(hb:b.length=n)(hn:n≤64):Ev prog (.call 130 [.c (.sl 0 0 n cap 1)] [Bw b]) (.val (.tup [B4 (aR b),Ae ((0:Nat):Int)]) [Bw b]):=by
 rw [←ku];exact lC b n cap hb O_ hn
theorem AB2:A2<256^32:=by unfold A2;decide
theorem rc(x:Nat):D8 (XZ (x%A2)) 32=x%A2:=by
 rw [QB _ _ (Nat.le_refl _),Nat.mod_eq_of_lt (Nat.lt_trans (Nat.mod_lt _ mv) AB2)]
theorem jS(a b c:AB 8):D8 (mD a b c) 32=(D8 a 32*D8 b 32+D8 c 32)%A2:=by unfold mD;exact rc _
theorem jz(a b c:AB 8):IS (mD a b c)=true:=by
 unfold IS
 rw [jS]
 exact decide_eq_true (Nat.mod_lt _ mv)
def Dx(ta b:AB 8):AB 8:=aR (D9 (ta++b))
theorem Xt{A B:Prop}(a:A)(b:B)(k:r)(h:A→B→Hid r→g:=by intro a b h;refine Bh (AY (bs:=[6]) a b K_ K_ rfl BT) AM rfl ?_;exact h.out):g:=h a b ⟨k⟩
theorem fA(k:r)(h:Hid r→g:=by intro h;refine AA (DI (j:=0) rfl rfl underlying22 Nn O_) rfl ?_;exact h.out):g:=h ⟨k⟩
theorem VD(k:r)(h:Hid r→g:=by intro h;refine AA (B9 rfl rfl Qq Dw rfl) rfl ?_;exact h.out):g:=h ⟨k⟩
theorem fU(k:r)(h:Hid r→g:=by intro h;refine AA (Gz (l:=0) (h:=64) (len:=64) (cp:=64) rfl underlying105 Bz rfl rfl rfl O_ O_ Q2 rfl rfl) rfl ?_;exact h.out):g:=h ⟨k⟩
theorem lX(a:AB 8)(oa na ca:Nat)(b:AB 8)(nb cb:Nat)(ha:oa+na≤a.length)(hna:na≤1099511627)(hb:b.length=nb)(hnb:nb≤1099511627):Ev prog (.call 92 [.c (.sl 0 0 2 2 1)] [.row false (.ac [.sl 1 oa na ca 1,.sl 2 0 nb cb 1]),Bw (a),Bw (b)]) (.val (B4 (Dx (cut a oa na) b)) [.row false (.ac [.sl 1 oa na ca 1,.sl 2 0 nb cb 1]),Bw (a),Bw (b)]):=by
 have hP:=Hid.mk (Dx.eq_1 (cut a oa na) b)
 have hta:(cut a oa na).length=na:=by rw [Ck];omega
 subst hb
 try simp only [hta] at hP
 refine AG func92 rfl ntmps92 rfl AH ?_;refine KP ?_;refine AQ ?_;refine Ab ?_;refine HH ?_;refine Rq ?_;refine Q_ ?_;refine RI ?_;refine AK ?_;refine AA (BA (a:=0) (b:=2) rfl rfl) rfl ?_;refine AQ ?_;refine fA ?_;refine VD ?_;refine BH ?_;refine BE (ot rfl rfl rfl underlying23 underlying23 Gb UD O_ AH) AM rfl ?_;refine Ad ?_;refine AA (EH (a:=0) (b:=1) rfl rfl O_) rfl ?_;refine Rq ?_;show WC _ _ _ _ _
 refine Q_ ?_;refine RI ?_;refine AK ?_;refine AA (BA (a:=1) (b:=2) rfl rfl) rfl ?_;refine AQ ?_;refine AA (DI (j:=1) rfl rfl underlying22 Nn O_) rfl ?_;refine VD ?_;refine BH ?_;refine Cr ?_;refine Ad ?_;refine AA (EH (a:=1) (b:=1) rfl rfl O_) rfl ?_;refine Rq ?_;show WC _ _ _ _ _
 refine Q_ ?_;refine RI ?_;refine AK ?_;refine AA (BA (a:=2) (b:=2) rfl rfl) rfl ?_;refine AN ?_;have hQ1:(D9 ((cut a oa na)++b)).length=64:=An
 refine A9 ?_;refine Bh (AY (bs:=[5]) (RU ((cut a oa na)++b) (na+b.length) (na+b.length) AD AD) fD K_ K_ rfl BT) AM rfl ?_;refine J0 ?_;refine Md ?_;refine AN ?_;have hQ2:(aR (D9 ((cut a oa na)++b))).length=32:=An
 refine AK ?_;refine fU ?_;refine Xt (ic (D9 ((cut a oa na)++b)) 64 64 AD AD) qo ?_;refine Cx ?_;refine EC ?_;refine Ad ?_;refine Fu ?_;refine Em ?_;rw [hP.out]
 exact FC
@[simp] theorem wg(ta b:AB 8):(Dx ta b).length=32:=by
 unfold Dx
 (simp [*];done)
attribute [irreducible] Dx
def DP(a b c:AB 8):AB 8:=aR (D9 ((a++b)++c))
theorem Pv(a:AB 8)(na ca:Nat)(b:AB 8)(nb cb:Nat)(c:AB 8)(nc cc:Nat)(ha:a.length=na)(hna:na≤1099511627)(hb:b.length=nb)(hnb:nb≤1099511627)(hc:c.length=nc)(hnc:nc≤1099511627):Ev prog (.call 92 [.c (.sl 0 0 3 3 1)] [.row false (.ac [.sl 1 0 na ca 1,.sl 2 0 nb cb 1,.sl 3 0 nc cc 1]),Bw (a),Bw (b),Bw (c)]) (.val (B4 (DP a b c)) [.row false (.ac [.sl 1 0 na ca 1,.sl 2 0 nb cb 1,.sl 3 0 nc cc 1]),Bw (a),Bw (b),Bw (c)]):=by
 have hP:=Hid.mk (DP.eq_1 a b c)
 subst ha
 subst hb
 subst hc
 refine AG func92 rfl ntmps92 rfl AH ?_;refine KP ?_;refine AQ ?_;refine Ab ?_;refine HH ?_;refine Rq ?_;refine Q_ ?_;refine RI ?_;refine AK ?_;refine AA (BA (a:=0) (b:=3) rfl rfl) rfl ?_;refine AQ ?_;refine fA ?_;refine VD ?_;refine BH ?_;refine BE (sD rfl rfl rfl underlying23 underlying23 Gb GG O_ AH) AM rfl ?_;refine Ad ?_;refine AA (EH (a:=0) (b:=1) rfl rfl O_) rfl ?_;refine Rq ?_;show WC _ _ _ _ _
 refine Q_ ?_;refine RI ?_;refine AK ?_;refine AA (BA (a:=1) (b:=3) rfl rfl) rfl ?_;refine AQ ?_;refine AA (DI (j:=1) rfl rfl underlying22 Nn O_) rfl ?_;refine VD ?_;refine BH ?_;refine Cr ?_;refine Ad ?_;refine AA (EH (a:=1) (b:=1) rfl rfl O_) rfl ?_;refine Rq ?_;show WC _ _ _ _ _
 refine Q_ ?_;refine RI ?_;refine AK ?_;refine AA (BA (a:=2) (b:=3) rfl rfl) rfl ?_;refine AQ ?_;refine AA (DI (j:=2) rfl rfl underlying22 Nn O_) rfl ?_;refine VD ?_;refine BH ?_;refine Cr ?_;refine Ad ?_;refine AA (EH (a:=2) (b:=1) rfl rfl O_) rfl ?_;refine Rq ?_;show WC _ _ _ _ _
 refine Q_ ?_;refine RI ?_;refine AK ?_;refine AA (BA (a:=3) (b:=3) rfl rfl) rfl ?_;refine AN ?_;have hQ1:(D9 ((a++b)++c)).length=64:=An
 refine A9 ?_;refine Bh (AY (bs:=[7]) (RU ((a++b)++c) ((a.length+b.length)+c.length) ((a.length+b.length)+c.length) AD AD) fD K_ K_ rfl BT) AM rfl ?_;refine J0 ?_;refine Md ?_;refine AN ?_;have hQ2:(aR (D9 ((a++b)++c))).length=32:=An
 refine AK ?_;refine fU ?_;refine Bh (AY (bs:=[8]) (ic (D9 ((a++b)++c)) 64 64 AD AD) qo K_ K_ rfl BT) AM rfl ?_;refine Cx ?_;refine EC ?_;refine Ad ?_;refine Fu ?_;refine Em ?_;rw [hP.out]
 exact FC
@[simp] theorem ya(a b c:AB 8):(DP a b c).length=32:=by
 unfold DP
 (simp [*];done)
attribute [irreducible] DP
def H3(seed:AB 8):AB 8:=enc (oB (Ca seed))
theorem oD(seed:AB 8)(hseed:seed.length=32):Ev prog (.call 106 [B4 (seed)] []) (.val (B4 (H3 seed)) []):=by
 have hP:=Hid.mk (H3.eq_1 seed)
 refine AG func106 rfl ntmps106 rfl AH ?_;refine Bg ?_;refine EB ?_;refine AN ?_;have hQ1:(CD seed).length=64:=An
 have hQ2:(Ca seed).length=32:=An
 refine CC ?_;refine A7 (XY seed AD) nO ?_;refine Cx ?_;refine EC ?_;refine Bc ?_;have hQ3:(enc (oB (Ca seed))).length=32:=An
 refine CC ?_;refine A7 (ZY (Ca seed) AD) jf ?_;refine Em ?_;rw [hP.out]
 exact FC
@[simp] theorem Pu(seed:AB 8)(_hseed:seed.length=32):(H3 seed).length=32:=by
 unfold H3
 (simp [*];done)
attribute [irreducible] H3
def DK(seed text:AB 8):AB 8:=(enc (oB (Dx (cut (CD seed) 32 32) text)))++(mD (DP (enc (oB (Dx (cut (CD seed) 32 32) text))) (enc (oB (Ca seed))) text) (Ca seed) (Dx (cut (CD seed) 32 32) text))
theorem Iy(k:r)(h:Hid r→g:=by intro h;refine AE (Gz (l:=0) (h:=32) (len:=32) (cp:=32) rfl underlying37 Bz rfl rfl rfl O_ O_ Q2 rfl rfl) rfl ?_;exact h.out):g:=h ⟨k⟩
theorem ao(k:r)(h:Hid r→g:=by intro h;refine G2 (uh underlying22 nA (qA _) rfl CS_ D_ D_ AH) AM rfl ?_;exact h.out):g:=h ⟨k⟩
theorem kV(seed text:AB 8)(tn tcap:Nat)(hseed:seed.length=32)(htext:text.length=tn)(htn:tn≤1099511627)(hT:tn≤65536):Ev prog (.call 107 [B4 (seed),.c (.sl 0 0 tn tcap 1)] [Bw (text)]) (.val (.tup [B4 (DK seed text),Ae ((0:Nat):Int)]) [Bw (text)]):=by
 have hP_sgSign0:Hid (DK seed text=(enc (oB (Dx (cut (CD seed) 32 32) text)))++(mD (DP (enc (oB (Dx (cut (CD seed) 32 32) text))) (enc (oB (Ca seed))) text) (Ca seed) (Dx (cut (CD seed) 32 32) text))):=⟨rfl⟩
 subst htext
 refine AG func107 rfl ntmps107 rfl AH ?_;refine Bg ?_;refine J0 ?_;refine Ab ?_;refine CV ?_;refine FI ?_;refine AN ?_;have hQ1:(CD seed).length=64:=An
 have hQ2:(Ca seed).length=32:=An
 refine CC ?_;refine A7 (XY seed AD) nO ?_;refine Cx ?_;refine EC ?_;refine Bc ?_;have hQ3:(enc (oB (Ca seed))).length=32:=An
 refine CC ?_;refine A7 (ZY (Ca seed) AD) jf ?_;refine EC ?_;refine AN ?_;have hQ4:(Dx (cut (CD seed) 32 32) text).length=32:=An
 refine Ar ?_;refine Zm ?_;refine Bh (AY (bs:=[6,3,0]) (lX (CD seed) 32 32 32 text text.length tcap AD AD AD AD) dO K_ K_ rfl BT) AM rfl ?_;refine EC ?_;refine AN ?_;have hQ5:(enc (oB (Dx (cut (CD seed) 32 32) text))).length=32:=An
 refine CC ?_;refine A7 (ZY (Dx (cut (CD seed) 32 32) text) AD) jf ?_;refine EC ?_;refine AN ?_;have hQ6:(DP (enc (oB (Dx (cut (CD seed) 32 32) text))) (enc (oB (Ca seed))) text).length=32:=An
 have hQ7:(mD (DP (enc (oB (Dx (cut (CD seed) 32 32) text))) (enc (oB (Ca seed))) text) (Ca seed) (Dx (cut (CD seed) 32 32) text)).length=32:=An
 refine S_ ?_;refine II ?_;refine Iy ?_;refine Iy ?_;refine Ah ?_;refine ao ?_;refine Io (AY (bs:=[9,8,5,0]) (Pv (enc (oB (Dx (cut (CD seed) 32 32) text))) 32 32 (enc (oB (Ca seed))) 32 32 text text.length tcap AD AD AD AD AD AD) dO K_ K_ rfl BT) AM rfl ?_;refine DS ?_;refine DS ?_;refine Am (wF (DP (enc (oB (Dx (cut (CD seed) 32 32) text))) (enc (oB (Ca seed))) text) (Ca seed) (Dx (cut (CD seed) 32 32) text) AD AD AD) wb ?_;refine G2 (BO QX AH) AM rfl ?_;refine Bn ?_;refine Em ?_;refine KM ?_;refine G2 (np underlying23 Gb) AM rfl ?_;refine Iy ?_;refine G2 (Zr rfl rfl rfl underlying23 underlying23 Gb GG O_ AH) AM rfl ?_;refine Iy ?_;refine Bn ?_;refine Cr ?_;refine AA (TT rfl underlying105 O_ D_) rfl ?_;refine fQ ?_;refine Md ?_;refine Ay ?_;rw [hP_sgSign0.out]
 exact sU (JR rfl rfl QC Qu C1 D_) (EG rfl) (by (kernel_rfl))
@[simp] theorem Ik(seed text:AB 8)(_hseed:seed.length=32):(DK seed text).length=64:=by
 unfold DK
 (simp [*];done)
attribute [irreducible] DK
theorem ns(n p:AB 8)(hp:p.length=32)(h:Fa p=true):Fa (Ed n p)=true:=by
 obtain ⟨P,rfl,_⟩:=jc hp h
 rw [iZ]
 exact Rb _
theorem NL(n:AB 8)(v:Bool)(hn:n.length=32)(h:IS n=v):Ev prog (.call 90 [B4 n] []) (.val (.c (.val (.bool v))) []):=by
 rw [←h];exact lm n hn
def gv(pub text sig:AB 8):Bool:=IS (cut sig 32 32)&&(Fa pub&&(Fa (cut sig 0 32)&&decide (HF (cut sig 0 32) (Ed (DP (cut sig 0 32) pub text) pub)=enc (oB (cut sig 32 32)))))
theorem Yg(k:r)(h:Hid r→g:=by intro h;refine AG func58 rfl ntmps58 rfl AH ?_;exact h.out):g:=h ⟨k⟩
theorem ZL(k:r)(h:Hid r→g:=by intro h;refine AE (Gz (l:=0) (h:=32) (len:=32) (cp:=64) rfl underlying105 Bz rfl rfl rfl O_ O_ Q2 rfl rfl) rfl ?_;exact h.out):g:=h ⟨k⟩
theorem PW(k:r)(h:Hid r→g:=by intro h;refine AE (TT rfl underlying37 O_ D_) rfl ?_;exact h.out):g:=h ⟨k⟩
theorem Oc(k:r)(h:Hid r→g:=by intro h;refine AE (PO rfl rfl Ld J9 UD D_) rfl ?_;exact h.out):g:=h ⟨k⟩
theorem aI(k:r)(h:Hid r→g:=by intro h;refine AE (Gz (l:=32) (h:=64) (len:=32) (cp:=32) rfl underlying105 Bz rfl rfl rfl O_ O_ Q2 rfl rfl) rfl ?_;exact h.out):g:=h ⟨k⟩
theorem Ws(k:r)(h:Hid r→g:=by intro h;refine G2 (BO QX AH) AM rfl ?_;exact h.out):g:=h ⟨k⟩
theorem JB(k:r)(h:Hid r→g:=by intro h;refine G2 (BO QX AH) AM rfl ?_;refine Bn ?_;refine Bm rfl rfl rfl rfl J9 C1 C1 AM ?_;exact h.out):g:=h ⟨k⟩
theorem mO(pub text:AB 8)(tn tcap:Nat)(sig:AB 8)(_hpub:pub.length=32)(htext:text.length=tn)(htn:tn≤1099511627)(hsig:sig.length=64)(hT:tn≤65536)(hB:IS (cut sig 32 32)=false):Ev prog (.call 58 [B4 (pub),.c (.sl 0 0 tn tcap 1),B4 (sig)] [Bw (text)]) (.val (.c (.val (.bool (false)))) [Bw (text)]):=by
 subst htext
 refine Yg ?_;refine BY ?_;refine Bc ?_;have hQ1:(cut sig 0 32).length=32:=An
 have hQ2:(cut sig 32 32).length=32:=An
 refine S_ ?_;refine I7 ?_;refine ZL ?_;refine PW ?_;refine Oc ?_;refine aI ?_;refine PW ?_;refine Oc ?_;refine Ws ?_;refine JB ?_;refine F5 ?_;refine AZ ?_;refine CV ?_;refine FI ?_;refine Db ?_;refine Fu ?_;refine G9 Nz ?_;refine A7 (NL (cut sig 32 32) false AD hB) jB ?_;refine G9 Nz ?_;refine DM ?_;exact Gc
theorem gD(k:r)(h:Hid r→g:=by intro h;refine S7 11 9 mixed K_ K_ rfl rfl rfl ?_;exact h.out):g:=h ⟨k⟩
theorem mF(pub text:AB 8)(tn tcap:Nat)(sig:AB 8)(hpub:pub.length=32)(htext:text.length=tn)(htn:tn≤1099511627)(hsig:sig.length=64)(hT:tn≤65536)(hB:IS (cut sig 32 32)=true)(hp:Fa pub=false):Ev prog (.call 58 [B4 (pub),.c (.sl 0 0 tn tcap 1),B4 (sig)] [Bw (text)]) (.val (.c (.val (.bool (false)))) [Bw (text)]):=by
 subst htext
 refine Yg ?_;refine BY ?_;refine Bc ?_;have hQ1:(cut sig 0 32).length=32:=An
 have hQ2:(cut sig 32 32).length=32:=An
 refine S_ ?_;refine I7 ?_;refine ZL ?_;refine PW ?_;refine Oc ?_;refine aI ?_;refine PW ?_;refine Oc ?_;refine Ws ?_;refine JB ?_;refine F5 ?_;refine AZ ?_;refine CV ?_;refine FI ?_;refine Db ?_;refine Fu ?_;refine G9 Nz ?_;refine A7 (NL (cut sig 32 32) true AD hB) jB ?_;refine G9 Nz ?_;refine DM ?_;refine AN ?_;have hQ3:(DP (cut sig 0 32) pub text).length=32:=An
 have hQ4:(P3).length=32:=An
 refine S_ ?_;refine gD ?_;refine Iy ?_;refine Iy ?_;refine Ah ?_;refine ao ?_;refine Io (AY (bs:=[5,3,1,0]) (Pv (cut sig 0 32) 32 32 pub 32 32 text text.length tcap AD AD AD AD AD AD) dO K_ K_ rfl BT) AM rfl ?_;refine DS ?_;refine Am (kx (DP (cut sig 0 32) pub text) pub AD AD hp) qt ?_;refine Fi ?_;refine JB ?_;refine Ab ?_;refine AA (EE (a:=4) (b:=0) rfl rfl) rfl ?_;exact Gc
theorem lZ(pub text:AB 8)(tn tcap:Nat)(sig:AB 8)(hpub:pub.length=32)(htext:text.length=tn)(htn:tn≤1099511627)(hsig:sig.length=64)(hT:tn≤65536)(hB:IS (cut sig 32 32)=true)(hp:Fa pub=true)(hr:Fa (cut sig 0 32)=false):Ev prog (.call 58 [B4 (pub),.c (.sl 0 0 tn tcap 1),B4 (sig)] [Bw (text)]) (.val (.c (.val (.bool (false)))) [Bw (text)]):=by
 subst htext
 refine Yg ?_;refine BY ?_;refine Bc ?_;have hQ1:(cut sig 0 32).length=32:=An
 have hQ2:(cut sig 32 32).length=32:=An
 refine S_ ?_;refine I7 ?_;refine ZL ?_;refine PW ?_;refine Oc ?_;refine aI ?_;refine PW ?_;refine Oc ?_;refine Ws ?_;refine JB ?_;refine F5 ?_;refine AZ ?_;refine CV ?_;refine FI ?_;refine Db ?_;refine Fu ?_;refine G9 Nz ?_;refine A7 (NL (cut sig 32 32) true AD hB) jB ?_;refine G9 Nz ?_;refine DM ?_;refine AN ?_;have hQ3:(DP (cut sig 0 32) pub text).length=32:=An
 have hQ4:(Ed (DP (cut sig 0 32) pub text) pub).length=32:=An
 refine S_ ?_;refine gD ?_;refine Iy ?_;refine Iy ?_;refine Ah ?_;refine ao ?_;refine Io (AY (bs:=[5,3,1,0]) (Pv (cut sig 0 32) 32 32 pub 32 32 text text.length tcap AD AD AD AD AD AD) dO K_ K_ rfl BT) AM rfl ?_;refine DS ?_;refine Am (YE (DP (cut sig 0 32) pub text) pub AD AD hp) qt ?_;refine Fi ?_;refine JB ?_;refine Ab ?_;refine AA (EE (a:=0) (b:=0) rfl rfl) rfl ?_;refine AN ?_;have hQ5:(Pz).length=32:=An
 refine CC ?_;refine Fu ?_;refine A7 (kz (cut sig 0 32) (Ed (DP (cut sig 0 32) pub text) pub) AD AD hr) vf ?_;refine Cx ?_;refine EC ?_;refine Ay ?_;refine II ?_;refine Ah ?_;refine AE (Cm (a:=4) (b:=0) rfl rfl) rfl ?_;refine Ah ?_;refine Jx Nz ?_;refine Jx Nz ?_;refine Jx Nz ?_;refine Jx Nz ?_;refine Q1 ?_;refine H6 ?_;refine A6 ?_;exact EZ
theorem lW(pub text:AB 8)(tn tcap:Nat)(sig:AB 8)(hpub:pub.length=32)(htext:text.length=tn)(htn:tn≤1099511627)(hsig:sig.length=64)(hT:tn≤65536)(hB:IS (cut sig 32 32)=true)(hp:Fa pub=true)(hr:Fa (cut sig 0 32)=true):Ev prog (.call 58 [B4 (pub),.c (.sl 0 0 tn tcap 1),B4 (sig)] [Bw (text)]) (.val (.c (.val (.bool (decide (HF (cut sig 0 32) (Ed (DP (cut sig 0 32) pub text) pub)=enc (oB (cut sig 32 32))))))) [Bw (text)]):=by
 subst htext
 refine Yg ?_;refine BY ?_;refine Bc ?_;have hQ1:(cut sig 0 32).length=32:=An
 have hQ2:(cut sig 32 32).length=32:=An
 refine S_ ?_;refine I7 ?_;refine ZL ?_;refine PW ?_;refine Oc ?_;refine aI ?_;refine PW ?_;refine Oc ?_;refine Ws ?_;refine JB ?_;refine F5 ?_;refine AZ ?_;refine CV ?_;refine FI ?_;refine Db ?_;refine Fu ?_;refine G9 Nz ?_;refine A7 (NL (cut sig 32 32) true AD hB) jB ?_;refine G9 Nz ?_;refine DM ?_;refine AN ?_;have hQ3:(DP (cut sig 0 32) pub text).length=32:=An
 have hQ4:(Ed (DP (cut sig 0 32) pub text) pub).length=32:=An
 refine S_ ?_;refine gD ?_;refine Iy ?_;refine Iy ?_;refine Ah ?_;refine ao ?_;refine Io (AY (bs:=[5,3,1,0]) (Pv (cut sig 0 32) 32 32 pub 32 32 text text.length tcap AD AD AD AD AD AD) dO K_ K_ rfl BT) AM rfl ?_;refine DS ?_;refine Am (YE (DP (cut sig 0 32) pub text) pub AD AD hp) qt ?_;refine Fi ?_;refine JB ?_;refine Ab ?_;refine AA (EE (a:=0) (b:=0) rfl rfl) rfl ?_;refine AN ?_;have hQ5:(HF (cut sig 0 32) (Ed (DP (cut sig 0 32) pub text) pub)).length=32:=An
 refine CC ?_;refine Fu ?_;refine Bh (AY (bs:=[]) (lN (cut sig 0 32) (Ed (DP (cut sig 0 32) pub text) pub) AD AD hr (ns _ _ hpub hp)) vf K_ K_ rfl BT) AM rfl ?_;refine Cx ?_;refine EC ?_;refine Bc ?_;have hQ6:(enc (oB (cut sig 32 32))).length=32:=An
 refine S_ ?_;refine II ?_;refine Ah ?_;refine AE (Cm (a:=0) (b:=0) rfl rfl) rfl ?_;refine Mx ?_;refine DS ?_;refine Je Nz ?_;refine DS ?_;refine Je Nz ?_;refine Am (ZY (cut sig 32 32) AD) jf ?_;refine Je Nz ?_;refine AE (am rfl rfl underlying37 underlying5 Bz C1 C1) rfl ?_;refine AE (JU rfl dj rfl) rfl ?_;refine H6 ?_;refine A6 ?_;exact EZ
theorem sP(pub text:AB 8)(tn tcap:Nat)(sig:AB 8)(hpub:pub.length=32)(htext:text.length=tn)(hsig:sig.length=64)(htn:tn≤65536):Ev prog (.call 58 [B4 pub,.c (.sl 0 0 tn tcap 1),B4 sig] [Bw text]) (.val (.c (.val (.bool (gv pub text sig)))) [Bw text]):=by
 have hn:tn≤1099511627:=by omega
 cases hB:IS (cut sig 32 32) with
 |false=>
  rw [show gv pub text sig=false by unfold gv;rw [hB,Bool.false_and]]
  exact mO pub text tn tcap sig hpub htext hn hsig htn hB
 |true=>
  cases hp:Fa pub with
  |false=>
   rw [show gv pub text sig=false by unfold gv;rw [hB,hp,Bool.false_and,Bool.and_false]]
   exact mF pub text tn tcap sig hpub htext hn hsig htn hB hp
  |true=>
   cases hr:Fa (cut sig 0 32) with
   |false=>
    rw [show gv pub text sig=false by unfold gv;rw [hB,hp,hr,Bool.false_and,Bool.and_false,Bool.and_false]]
    exact lZ pub text tn tcap sig hpub htext hn hsig htn hB hp hr
   |true=>
    rw [show gv pub text sig=decide (HF (cut sig 0 32) (Ed (DP (cut sig 0 32) pub text) pub)=enc (oB (cut sig 32 32))) by unfold gv;rw [hB,hp,hr,Bool.true_and,Bool.true_and,Bool.true_and]]
    exact lW pub text tn tcap sig hpub htext hn hsig htn hB hp hr
def zI(key place:AB 8):Nat:=if QL key place=Ag 32 then 5 else 0
theorem bW(key place:AB 8)(hkey:key.length=32)(hplace:place.length=32):Ev prog (.call 79 [B4 key,B4 place] []) (.val (.tup [B4 (QL key place),Ae ((zI key place:Nat):Int)]) []):=by
 have hl:(QL key place).length=32:=IZ key place
 have hP:=nE key place hkey hplace
 unfold zI
 generalize QL key place=u at*
 refine AG func79 rfl ntmps79 rfl AH ?_;refine BY ?_;refine EB ?_;refine Ad ?_;refine Fu ?_;refine Fu ?_;refine A7 (hP) qI ?_;refine EC ?_;refine H5 ?_;refine Zc ?_;refine AA (am rfl rfl underlying37 underlying5 Bz C1 C1) rfl ?_;refine AN ?_;by_cases hz:u=Ag 32
 ·rw [if_pos hz]
  refine Q_ ?_;refine Ef rfl (decide_eq_true hz) ?_;refine CC ?_;refine F5 ?_;refine Ay ?_;exact K6
 ·rw [if_neg hz]
  refine Q_ ?_;refine Bu rfl (decide_eq_false hz) ?_;refine CC ?_;refine F5 ?_;refine Ay ?_;exact K6
def sM:AB 8:=[98#8,111#8,120#8]
def S4(key place:AB 8):AB 8:=HV sM (QL key place)
@[simp] theorem Ki(key place:AB 8):(S4 key place).length=32:=by
 unfold S4;rw [cr];unfold sh;exact Ap _
theorem UE(key place:AB 8)(hkey:key.length=32)(hplace:place.length=32):Ev prog (.call 55 [B4 key,B4 place] []) (.val (.tup [B4 (if QL key place=Ag 32 then Ag 32 else S4 key place),Ae ((zI key place:Nat):Int)]) []):=by
 have hl:(QL key place).length=32:=IZ key place
 have hk:(S4 key place).length=32:=Ki key place
 have hP:=bW key place hkey hplace
 have hM:=mE sM 3 3 (QL key place) 32 32 rfl D_ hl D_
 rw [show HV sM (QL key place)=S4 key place from rfl] at hM
 unfold zI at*
 generalize QL key place=u at*
 generalize S4 key place=q at*
 unfold sM at hM
 by_cases hz:u=Ag 32
 ·rw [if_pos hz] at hP ⊢
  rw [if_pos hz]
  refine AG func55 rfl ntmps55 rfl AH ?_;refine BY ?_;refine EB ?_;refine Ad ?_;refine Fu ?_;refine Fu ?_;refine A7 (hP) vV ?_;refine Cx ?_;refine EC ?_;refine Ab ?_;refine FF ?_;refine AQ ?_;refine Zc ?_;refine AR ?_;refine F5 ?_;refine Ay ?_;exact K6
 ·rw [if_neg hz] at hP ⊢
  rw [if_neg hz]
  refine AG func55 rfl ntmps55 rfl AH ?_;refine BY ?_;refine EB ?_;refine Ad ?_;refine Fu ?_;refine Fu ?_;refine A7 (hP) vV ?_;refine Cx ?_;refine EC ?_;refine Ab ?_;refine FF ?_;refine AQ ?_;refine BE (Xz (l:=[98#8,111#8,120#8]) underlying23 Gb rfl rfl D_ D_ AH) AM rfl ?_;refine wd rfl underlying23 underlying5 rfl rfl D_ AH AM rfl ?_;refine LP ?_;refine Bh (AY (bs:=[5,3]) (hM) AAu K_ K_ rfl BT) AM rfl ?_;refine F5 ?_;refine Ay ?_;exact K6
def yO(key box:AB 8):List (AB 8)×Nat:=
 if box.length<48 then ([],2) else if QL key (box.take 32)=Ag 32 then ([],5) else ni (S4 key (box.take 32)) (box.drop 32)
theorem ZQ(k:r)(h:Hid r→g:=by intro h;refine AE (Yx (h:=32) rfl rfl underlying23 Bz UD) rfl ?_;exact h.out):g:=h ⟨k⟩
theorem S2(k:r)(h:Hid r→g:=by intro h;refine AE (dt rfl underlying37 O_ D_) rfl ?_;exact h.out):g:=h ⟨k⟩
theorem Sx(k:r)(h:Hid r→g:=by intro h;refine AE (Wa rfl Ld J9 O_ D_) rfl ?_;exact h.out):g:=h ⟨k⟩
theorem eu(k:r)(h:Hid r→g:=by intro h;refine AE (Sl (l:=32) rfl rfl underlying23 Bz UD) rfl ?_;exact h.out):g:=h ⟨k⟩
theorem eX(key box:AB 8)(hkey:key.length=32)(hbn:box.length≤1099511627):Ev prog (.call 28 [B4 key,.c (.bs box)] []) (.val (.tup [.c (.sl 0 0 (yO key box).1.length (yO key box).1.length 1),Ae (((yO key box).2:Nat):Int)]) [.row true (.ab (yO key box).1)]):=by
 unfold yO
 by_cases h48:box.length<48
 ·rw [if_pos h48]
  refine AG func28 rfl ntmps28 rfl AH ?_;refine Bg ?_;refine OI ?_;refine Cy ?_;refine AA (BA (b:=48) rfl rfl) rfl ?_;refine AQ ?_;refine Er ?_;refine FP 4 1 (.ab []) rfl rfl AH rfl ?_;exact Ep
 rw [if_neg h48]
 have ht:(box.take 32).length=32:=by simp;omega
 have hd:(box.drop 32).length=box.length-32:=by simp
 have hS:=UE key (box.take 32) hkey ht
 have hkl:=Ki key (box.take 32)
 have hO:=TQ (S4 key (box.take 32)) (box.drop 32) hkl O_
 unfold zI at hS
 generalize ni (S4 key (box.take 32)) (box.drop 32)=r at*
 generalize S4 key (box.take 32)=q at*
 by_cases hz:QL key (box.take 32)=Ag 32
 ·rw [if_pos hz]
  rw [if_pos hz,if_pos hz] at hS
  refine AG func28 rfl ntmps28 rfl AH ?_;refine Bg ?_;refine OI ?_;refine Cy ?_;refine AA (BA (b:=48) rfl rfl) rfl ?_;refine A6 ?_;refine S7 10 8 mixed K_ K_ rfl rfl rfl ?_;refine DS ?_;refine Ah ?_;refine ZQ ?_;refine S2 ?_;refine Sx ?_;refine Am (hS) ii ?_;refine Fi ?_;refine JB ?_;refine Ab ?_;refine IM ?_;refine Er ?_;refine FP 4 1 (.ab []) rfl rfl AH rfl ?_;exact Ep
 ·rw [if_neg hz]
  rw [if_neg hz,if_neg hz] at hS
  refine AG func28 rfl ntmps28 rfl AH ?_;refine Bg ?_;refine OI ?_;refine Cy ?_;refine AA (BA (b:=48) rfl rfl) rfl ?_;refine A6 ?_;refine S7 10 8 mixed K_ K_ rfl rfl rfl ?_;refine DS ?_;refine Ah ?_;refine ZQ ?_;refine S2 ?_;refine Sx ?_;refine Am (hS) ii ?_;refine Fi ?_;refine JB ?_;refine Ab ?_;refine FF ?_;refine A6 ?_;refine I7 ?_;refine DS ?_;refine Ah ?_;refine eu ?_;refine Am (hO) rg ?_;refine AE (Bs rfl rfl) rfl ?_;refine AE (Bs rfl rfl) rfl ?_;refine G1 ?_;refine A6 ?_;exact QW
def wv(pub sig:AB 8):List (AB 8)×Nat:=
 if pub.length≠64∨sig.length<64 then ([],2) else if gv (pub.drop 32) (sig.drop 64) (sig.take 64)=true then jr (sig.drop 64) else ([],15)
theorem tS(pub text sig:AB 8)(hpub:pub.length=32)(hsig:sig.length=64)(hn:text.length≤65536):Ev prog (.call 58 [B4 pub,.c (.bs text),B4 sig] []) (.val (.c (.val (.bool (gv pub text sig)))) []):=
 Ev.partsB (m:=[]) (m':=[.row false (.a8 text)]) (N:=[]) (N':=[]) [none] [0] (.no .nil) (.agg rfl (.c (.same rfl) (.agg rfl .nil))) (.same (.bs rfl rfl (.same .nil))) rfl rfl (sP pub text text.length text.length sig hpub rfl hsig hn) rfl rfl
theorem ZO(k:r)(h:Hid r→g:=by intro h;refine AG func30 rfl ntmps30 rfl AH ?_;exact h.out):g:=h ⟨k⟩
theorem cz(pub sig:AB 8)(_hpn:pub.length≤1099511627)(hsn:sig.length≤65600):Ev prog (.call 30 [.c (.bs pub),.c (.bs sig)] []) (.val (.tup [.c (.sl 0 0 (wv pub sig).1.length (wv pub sig).1.length 1),Ae (((wv pub sig).2:Nat):Int)]) [.row true (.ab (wv pub sig).1)]):=by
 unfold wv
 by_cases h1:pub.length≠64
 ·rw [if_pos (.inl h1)]
  refine ZO ?_;refine JQ ?_;refine Cy ?_;refine AA (EE (b:=64) rfl rfl) rfl ?_;refine GN ?_;refine OT ?_;refine Ad ?_;refine Er ?_;refine FP 4 1 (.ab []) rfl rfl AH rfl ?_;exact Ep
 have h1':pub.length=64:=by omega
 by_cases h2:sig.length<64
 ·rw [if_pos (.inr h2)]
  refine ZO ?_;refine JQ ?_;refine Cy ?_;refine AA (EE (b:=64) rfl rfl) rfl ?_;refine BJ ?_;refine Cy ?_;refine BR ?_;refine NI ?_;refine CQ ?_;refine Ad ?_;refine Er ?_;refine FP 4 1 (.ab []) rfl rfl AH rfl ?_;exact Ep
 rw [if_neg O_]
 have hp:(pub.drop 32).length=32:=by simp;omega
 have hs:(sig.take 64).length=64:=by simp;omega
 have hd:(sig.drop 64).length=sig.length-64:=by simp
 have hV:=tS (pub.drop 32) (sig.drop 64) (sig.take 64) hp hs O_
 have hS:=VY (sig.drop 64) O_
 generalize jr (sig.drop 64)=r at*
 generalize gv (pub.drop 32) (sig.drop 64) (sig.take 64)=v at*
 cases v with
 |false=>
  rw [if_neg D_]
  refine ZO ?_;refine JQ ?_;refine Cy ?_;refine AA (EE (b:=64) rfl rfl) rfl ?_;refine BJ ?_;refine Cy ?_;refine BR ?_;refine NI ?_;refine CQ ?_;refine Ay ?_;refine KT ?_;refine Ah ?_;refine eu ?_;refine S2 ?_;refine Sx ?_;refine Ah ?_;refine AE (Sl (l:=64) rfl rfl underlying23 Bz UD) rfl ?_;refine Ah ?_;refine AE (Yx (h:=64) rfl rfl underlying23 Bz UD) rfl ?_;refine AE (dt rfl underlying105 O_ D_) rfl ?_;refine AE (Wa rfl QC Qu O_ D_) rfl ?_;refine Am (hV) va ?_;refine OW ?_;refine H6 ?_;refine AQ ?_;refine Er ?_;refine FP 4 1 (.ab []) rfl rfl AH rfl ?_;exact Ep
 |true=>
  rw [if_pos rfl]
  refine ZO ?_;refine JQ ?_;refine Cy ?_;refine AA (EE (b:=64) rfl rfl) rfl ?_;refine BJ ?_;refine Cy ?_;refine BR ?_;refine NI ?_;refine CQ ?_;refine Ay ?_;refine KT ?_;refine Ah ?_;refine eu ?_;refine S2 ?_;refine Sx ?_;refine Ah ?_;refine AE (Sl (l:=64) rfl rfl underlying23 Bz UD) rfl ?_;refine Ah ?_;refine AE (Yx (h:=64) rfl rfl underlying23 Bz UD) rfl ?_;refine AE (dt rfl underlying105 O_ D_) rfl ?_;refine AE (Wa rfl QC Qu O_ D_) rfl ?_;refine Am (hV) va ?_;refine OW ?_;refine H6 ?_;refine AZ ?_;refine AA (Sl (l:=64) rfl rfl underlying23 Bz UD) rfl ?_;refine A7 (hS) uy ?_;refine T4 ?_;exact Ct
end Go.Proofs.YtmbepikkgkcgkaaGreatDoor
