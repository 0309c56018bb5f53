/- Merged and shortened by a program: part 10. -/
import Derived.Test.YtmbepikkgkcgkaaGreatDoorUR9
set_option maxRecDepth 100000
set_option maxHeartbeats 8000000
namespace Go.Proofs.YtmbepikkgkcgkaaGreatDoor
open Go.RowKit
variable {g r : Prop}
open Go.Proofs.Tryz
def MT(n:AA 64)(X1:AA 8)(j3:Nat):AA 8:=put X1 j3 (((nth n (j3/8))>>>(BitVec.ofNat 64 (8*(j3%8))).toNat).setWidth 8)
def D8(n:AA 64):Nat→AA 8
 |0=>Ac 32
 |j3+1=>MT n (D8 n j3) j3
@[simp] theorem SR(n:AA 64)(j3:Nat):(D8 n j3).length=32:=by
 induction j3 with
 |zero=>(simp [D8, *];done)
 |succ j3 ih=>rw [D8.eq_2,MT];(simp [ih];done)
def Vp(n:AA 64):AA 8:=(D8 n 32)
theorem Xm(k:r)(h:Hid r→g:=by intro h;refine AB (AN rfl rfl underlying128 Am O_) rfl ?_;exact h.out):g:=h ⟨k⟩
theorem qc(n:AA 64)(hn:n.length=4):Ev prog (.call 87 [Aw (n)] []) (.val (BM (Vp n)) []):=by
 have hP:=Hid.mk (Vp.eq_1 n)
 refine AI func87 rfl ntmps87 rfl AM ?_;refine BA ?_;refine It ?_;refine Dr ?_;refine B0 ?_;refine AK [1,2,3,4] (fun (zz:Nat×AA 8)=>⟨22,AU [1,2,3,4] [AY 0,AY 1,AY 2,At (((zz.1:Nat):Int))],[Bb (n),BP (Ac 32),BP (zz.2)]⟩) (fun j3=>(j3,D8 n j3)) (32) K_ ?_ ?_
 ·intro j3 hj3
  try dsimp only
  have hX1:(D8 n j3).length=32:=by rw [SR n _];try omega
  rw [D8.eq_2,MT]
  generalize D8 n j3=X1 at*
  refine A1 ?_;refine Oi ?_;refine GW ?_;refine Oo ?_;refine Xm ?_;refine Ed ?_;refine Qi ?_;refine KN ?_;refine QE ?_;refine Vv ?_;refine RS ?_;refine O2 ?_;refine Ct ?_;refine Cc ?_;exact ⟨(j3+1,_),K_,rfl⟩
 ·try dsimp only
  have hY2:(D8 n 32).length=32:=by rw [SR n _];try omega
  generalize D8 n 32=Y2 at*
  refine A1 ?_;refine Pu ?_;refine Fu ?_;refine GH ?_;rw [hP.out]
  exact Ec
attribute [irreducible] Vp
def BU:AA 64:=[18446744073709551597#64,18446744073709551615#64,18446744073709551615#64,9223372036854775807#64]
theorem I0:Ev prog (.call 118 [] []) (.val (Aw (BU)) []):=by
 have hP:=Hid.mk (BU.eq_1)
 refine AI func118 rfl ntmps118 rfl AM ?_;refine Ab ?_;refine FG ?_;refine AZ ?_;refine AB (JX (l:=[18446744073709551597#64,18446744073709551615#64,18446744073709551615#64,9223372036854775807#64]) nP underlying128 Am rfl rfl D_) rfl ?_;refine Gp ?_;rw [hP.out]
 exact KU
@[simp] theorem AKq:(BU).length=4:=by
 unfold BU
 (simp [*];done)
attribute [irreducible] BU
def NH(a b:AA 64)(X1:BitVec 64)(X2:AA 64)(j4:Nat):BitVec 64×AA 64:=(Cm (nth a j4) (nth b j4) X1,put X2 j4 ((nth a j4)+(nth b j4)+X1))
def De(a b:AA 64):Nat→BitVec 64×AA 64
 |0=>(0#64,AC 4)
 |j4+1=>NH a b (De a b j4).1 (De a b j4).2 j4
theorem OL(a b:AA 64)(_ha:a.length=4)(_hb:b.length=4)(j4:Nat):(De a b j4).2.length=4:=by
 induction j4 with
 |zero=>(simp [De, *];done)
 |succ j4 ih=>rw [De.eq_2,NH];(simp [ih];done)
def AJ(a b:AA 64):AA 64:=((De a b 4).2)
def KA(a b:AA 64):BitVec 64:=((De a b 4).1)
theorem sV(a b:AA 64)(j:Nat):(De a b j).1.toNat≤1:=by
 induction j with
 |zero=>show (0#64).toNat≤1;decide
 |succ j ih=>rw [De.eq_2,NH];exact WW _ _ _ ih
theorem W0(k:r)(h:Hid r→g:=by intro h;refine Df (AN rfl rfl underlying128 Am O_) rfl ?_;exact h.out):g:=h ⟨k⟩
theorem R2(k:r)(h:Hid r→g:=by intro h;refine Df (Bj rfl rfl) rfl ?_;exact h.out):g:=h ⟨k⟩
theorem jM(k:r)(h:Hid r→g:=by intro h;refine wa rfl rfl rfl rfl Am EO AT ?_;exact h.out):g:=h ⟨k⟩
theorem FQ(k:r)(h:Hid r→g:=by intro h;refine Bs rfl rfl rfl rfl EI B7 B7 AT ?_;exact h.out):g:=h ⟨k⟩
theorem aY(h:g:=by exact k_2 (Hu rfl rfl Ei EI B7 D_) (Iu rfl) (by (kernel_rfl))):g:=h
theorem S9(a b:AA 64)(ha:a.length=4)(hb:b.length=4):Ev prog (.call 120 [Aw (a),Aw (b)] []) (.val (.tup [Aw (AJ a b),.c (.val (Bp (KA a b)))]) []):=by
 have hP_rfadd0:Hid (AJ a b=((De a b 4).2)):=⟨rfl⟩
 have hP_rfadd1:Hid (KA a b=((De a b 4).1)):=⟨rfl⟩
 refine AI func120 rfl ntmps120 rfl AM ?_;refine BO ?_;refine FG ?_;refine Ai ?_;refine Ai ?_;refine FG ?_;refine B0 ?_;refine AK [2,3,4,6,7,8] (fun (zz:Nat×BitVec 64×AA 64)=>⟨28,AU [2,3,4,6,7,8] [AY 0,AY 1,AY 2,.c (.val (Bp (zz.2.1))),AY 3,At (((zz.1:Nat):Int))],[Bb (a),Bb (b),Bb (AC 4),Bb (zz.2.2)]⟩) (fun j4=>(j4,De a b j4)) (4) K_ ?_ ?_
 ·intro j4 hj4
  try dsimp only
  have hX2:(De a b j4).2.length=4:=by rw [OL a b ha hb _];try omega
  have hc:=sV a b j4
  rw [De.eq_2,NH]
  generalize De a b j4=Z3 at*
  obtain ⟨X1,X2⟩:=Z3
  try dsimp only at*
  refine A1 ?_;refine IU ?_;refine Ar ?_;refine JF [3] mixed K_ ?_;refine Gz ?_;refine Gz ?_;refine W0 ?_;(refine Df (GS rfl rfl KK EO) rfl ?_)
  refine Gz ?_;refine W0 ?_;(refine Df (GS rfl rfl KK EO) rfl ?_)
  refine Gz ?_;refine XE K_ (qt ZR rfl rfl rfl (rfl:_=Bp (X1)) (by repeat ((assumption)))) rfl ?_
  refine Df (MW rfl) rfl ?_;refine R2 ?_;refine R2 ?_;refine W0 ?_;refine jM ?_;refine Df (A6 rfl) rfl ?_;refine Ye ?_;refine A1 ?_;refine HH ?_;exact ⟨(j4+1,_),K_,rfl⟩
 ·try dsimp only
  have hY5:(De a b 4).2.length=4:=by rw [OL a b ha hb _];try omega
  have hc:=sV a b 4
  generalize De a b 4=Z6 at*
  obtain ⟨Y4,Y5⟩:=Z6
  try dsimp only at*
  refine A1 ?_;refine PO ?_;refine AZ ?_;refine IQ ?_;refine AX ?_;refine FQ ?_;refine Al ?_;rw [hP_rfadd0.out,hP_rfadd1.out]
  exact aY
@[simp] theorem AFg(a b:AA 64)(ha:a.length=4)(hb:b.length=4):(AJ a b).length=4:=by
 unfold AJ
 (simp [OL, *];done)
attribute [irreducible] AJ
attribute [irreducible] KA
def KW(a b:AA 64)(X1:BitVec 64)(X2:AA 64)(j4:Nat):BitVec 64×AA 64:=(Kj (nth a j4) (nth b j4) X1,put X2 j4 ((nth a j4)-(nth b j4)-X1))
def Cy(a b:AA 64):Nat→BitVec 64×AA 64
 |0=>(0#64,AC 4)
 |j4+1=>KW a b (Cy a b j4).1 (Cy a b j4).2 j4
theorem O1(a b:AA 64)(_ha:a.length=4)(_hb:b.length=4)(j4:Nat):(Cy a b j4).2.length=4:=by
 induction j4 with
 |zero=>(simp [Cy, *];done)
 |succ j4 ih=>rw [Cy.eq_2,KW];(simp [ih];done)
def Af(a b:AA 64):AA 64:=((Cy a b 4).2)
def Bu(a b:AA 64):BitVec 64:=((Cy a b 4).1)
theorem sG(a b:AA 64)(j:Nat):(Cy a b j).1.toNat≤1:=by
 cases j with
 |zero=>show (0#64).toNat≤1;decide
 |succ j=>rw [Cy.eq_2,KW];exact iZ _ _ _
theorem NC(a b:AA 64)(ha:a.length=4)(hb:b.length=4):Ev prog (.call 119 [Aw (a),Aw (b)] []) (.val (.tup [Aw (Af a b),.c (.val (Bp (Bu a b)))]) []):=by
 have hP_rfsub0:Hid (Af a b=((Cy a b 4).2)):=⟨rfl⟩
 have hP_rfsub1:Hid (Bu a b=((Cy a b 4).1)):=⟨rfl⟩
 refine AI func119 rfl ntmps119 rfl AM ?_;refine BO ?_;refine FG ?_;refine Ai ?_;refine Ai ?_;refine FG ?_;refine B0 ?_;refine AK [2,3,4,6,7,8] (fun (zz:Nat×BitVec 64×AA 64)=>⟨28,AU [2,3,4,6,7,8] [AY 0,AY 1,AY 2,.c (.val (Bp (zz.2.1))),AY 3,At (((zz.1:Nat):Int))],[Bb (a),Bb (b),Bb (AC 4),Bb (zz.2.2)]⟩) (fun j4=>(j4,Cy a b j4)) (4) K_ ?_ ?_
 ·intro j4 hj4
  try dsimp only
  have hX2:(Cy a b j4).2.length=4:=by rw [O1 a b ha hb _];try omega
  have hc:=sG a b j4
  rw [Cy.eq_2,KW]
  generalize Cy a b j4=Z3 at*
  obtain ⟨X1,X2⟩:=Z3
  try dsimp only at*
  refine A1 ?_;refine IU ?_;refine Ar ?_;refine JF [3] mixed K_ ?_;refine Gz ?_;refine Gz ?_;refine W0 ?_;(refine Df (GS rfl rfl KK EO) rfl ?_)
  refine Gz ?_;refine W0 ?_;(refine Df (GS rfl rfl KK EO) rfl ?_)
  refine Gz ?_;refine XE K_ (zu gR rfl rfl rfl (rfl:_=Bp (X1)) (by repeat ((assumption)))) rfl ?_
  refine Df (MW rfl) rfl ?_;refine R2 ?_;refine R2 ?_;refine W0 ?_;refine jM ?_;refine Df (A6 rfl) rfl ?_;refine Ye ?_;refine A1 ?_;refine HH ?_;exact ⟨(j4+1,_),K_,rfl⟩
 ·try dsimp only
  have hY5:(Cy a b 4).2.length=4:=by rw [O1 a b ha hb _];try omega
  have hc:=sG a b 4
  generalize Cy a b 4=Z6 at*
  obtain ⟨Y4,Y5⟩:=Z6
  try dsimp only at*
  refine A1 ?_;refine PO ?_;refine AZ ?_;refine IQ ?_;refine AX ?_;refine FQ ?_;refine Al ?_;rw [hP_rfsub0.out,hP_rfsub1.out]
  exact aY
@[simp] theorem AFX(a b:AA 64)(ha:a.length=4)(hb:b.length=4):(Af a b).length=4:=by
 unfold Af
 (simp [O1, *];done)
attribute [irreducible] Af
attribute [irreducible] Bu
theorem IK(k:r)(h:Hid r→g:=by intro h;refine S_ ?_;refine A2 ?_;refine AB (A9 rfl rfl Ei EI B7 D_) rfl ?_;refine AB (A9 rfl rfl Ei EI B7 D_) rfl ?_;exact h.out):g:=h ⟨k⟩
theorem Lq(k:r)(h:Hid r→g:=by intro h;refine Ap (Ay IM AM) AT rfl ?_;refine Bs rfl rfl rfl rfl EI B7 B7 AT ?_;exact h.out):g:=h ⟨k⟩
theorem SM(k:r)(h:Hid r→g:=by intro h;refine AB (ABp (b:=1#64) rfl rfl) rfl ?_;exact h.out):g:=h ⟨k⟩
theorem H5(a b:AA 64)(ha:a.length=4)(hb:b.length=4):Ev prog (.call 117 [Aw (a),Aw (b)] []) (.val (.c (.val (.bool (((Bu a b)==1#64))))) []):=by
 refine AI func117 rfl ntmps117 rfl AM ?_;refine BO ?_;refine BZ ?_;have hQ1:(Af a b).length=4:=AP
 refine IK ?_;refine Ae (NC a b AD AD) Uh ?_;refine Ch ?_;refine Lq ?_;refine BF ?_;refine SM ?_;refine Al ?_;exact CF
def C9(X1:AA 64):AA 64:=(if (!((Bu X1 BU)==1#64))=true then Af X1 BU else X1)
def Hy(a:AA 64):Nat→AA 64
 |0=>a
 |j2+1=>C9 (Hy a j2)
theorem Pm(a:AA 64)(ha:a.length=4)(j2:Nat):(Hy a j2).length=4:=by
 induction j2 with
 |zero=>(simp [Hy, *];done)
 |succ j2 ih=>rw [Hy.eq_2,C9];(split<;>first | (simp [ih];done) | (simp [ih];omega) | (simp [*];done))
def Fx(a:AA 64):AA 64:=(Hy a 3)
theorem CO(k:r)(h:Hid r→g:=by intro h;refine AH (A9 rfl rfl Ei EI B7 D_) rfl ?_;exact h.out):g:=h ⟨k⟩
theorem iM(k:r)(h:Hid r→g:=by intro h;refine ABL rfl rfl rfl rfl rfl EI B7 B7 AT ?_;exact h.out):g:=h ⟨k⟩
theorem TE(a:AA 64)(ha:a.length=4):Ev prog (.call 82 [Aw (a)] []) (.val (Aw (Fx a)) []):=by
 have hP:=Hid.mk (Fx.eq_1 a)
 refine AI func82 rfl ntmps82 rfl AM ?_;refine BA ?_;refine FG ?_;refine B0 ?_;refine AK [1,2,3] (fun (zz:Nat×AA 64)=>⟨19,AU [1,2,3] [AY 0,AY 1,At (((zz.1:Nat):Int))],[Bb (zz.2),Bb (AC 4)]⟩) (fun j2=>(j2,Hy a j2)) (3) K_ ?_ ?_
 ·intro j2 hj2
  try dsimp only
  have hX1:(Hy a j2).length=4:=by rw [Pm a ha _];try omega
  rw [Hy.eq_2,C9]
  generalize Hy a j2=X1 at*
  refine A1 ?_;refine AB (A8 (b:=3) rfl rfl) rfl ?_;refine AR ?_;have hQ2:(BU).length=4:=AP
  refine IL ?_;refine CO ?_;refine AO (I0) Ik ?_;refine AO (H5 X1 BU AD AD) Qb ?_;refine Kp ?_;refine Fs ?_;refine Eb [1,2,3] (fun (zz:AA 64)=>⟨19,AU [1,2,3] [AY 0,AY 1,At (((j2:Nat):Int))],[Bb (zz),Bb (AC 4)]⟩) (if (!((Bu X1 BU)==1#64))=true then Af X1 BU else X1) rfl (fun hb=>?_) (fun hb=>?_) ?_
  ·have hQ4:(BU).length=4:=AP
   have hQ5:(Af X1 BU).length=4:=AP
   refine S_ ?_;refine JF [0] mixed K_ ?_;(refine F3 K_ (A9 rfl rfl Ei EI B7 D_) rfl ?_)
   refine XE K_ (Ah (bs:=[]) (I0) Ik K_ K_ rfl B4) rfl ?_;refine XE K_ (Ah (bs:=[]) (NC X1 BU AD AD) Uh K_ K_ rfl B4) rfl ?_;refine Df (MW rfl) rfl ?_;refine R2 ?_;refine R2 ?_;refine iM ?_;refine Ye ?_;refine S_ ?_;refine ⟨(Af X1 BU),K_,?_⟩
   rw [if_pos (hb)]
  ·refine S_ ?_
   refine ⟨X1,K_,?_⟩
   rw [if_neg (by (rw [hb];decide))]
  have hJ3:(if (!((Bu X1 BU)==1#64))=true then Af X1 BU else X1).length=4:=by split<;>simp [*]
  generalize (if (!((Bu X1 BU)==1#64))=true then Af X1 BU else X1)=J3 at*
  refine A1 ?_;refine HH ?_;exact ⟨(j2+1,_),K_,rfl⟩
 ·try dsimp only
  have hY6:(Hy a 3).length=4:=by rw [Pm a ha _];try omega
  generalize Hy a 3=Y6 at*
  refine A1 ?_;refine dH ?_;refine AZ ?_;refine IQ ?_;refine Gp ?_;rw [hP.out]
  exact KU
@[simp] theorem AHj(a:AA 64)(ha:a.length=4):(Fx a).length=4:=by
 unfold Fx
 (simp [Pm, *];done)
attribute [irreducible] Fx
def CE:AA 64:=[6346243789798364141#64,1503914060200516822#64,0#64,1152921504606846976#64]
theorem VP(k:r)(h:Hid r→g:=by intro h;refine Ap (Ay AGi AM) AT rfl ?_;exact h.out):g:=h ⟨k⟩
theorem XR(k:r)(h:Hid r→g:=by intro h;refine Bs rfl rfl rfl rfl gg B7 B7 AT ?_;exact h.out):g:=h ⟨k⟩
theorem aO(h:g:=by exact kG (Hu rfl rfl ga gg B7 D_) (by (kernel_rfl))):g:=h
theorem Qm:Ev prog (.call 125 [] []) (.val (Aw (CE)) []):=by
 have hP:=Hid.mk (CE.eq_1)
 refine AI func125 rfl ntmps125 rfl AM ?_;refine Ab ?_;refine VP ?_;refine AZ ?_;refine AB (JX (l:=[6346243789798364141#64,1503914060200516822#64,0#64,1152921504606846976#64]) AHQ underlying155 Am rfl rfl D_) rfl ?_;refine XR ?_;refine Ar ?_;rw [hP.out]
 exact aO
@[simp] theorem ADb:(CE).length=4:=by
 unfold CE
 (simp [*];done)
attribute [irreducible] CE
def OF(a b:AA 64)(X1:BitVec 64)(j3:Nat):BitVec 64:=Kj (nth a j3) (nth b j3) X1
def Cq(a b:AA 64):Nat→BitVec 64
 |0=>0#64
 |j3+1=>OF a b (Cq a b j3) j3
theorem mF(a b:AA 64)(j:Nat):(Cq a b j).toNat≤1:=by
 induction j with
 |zero=>show (0#64).toNat≤1;decide
 |succ j ih=>rw [Cq.eq_2,OF];exact iZ _ _ _
theorem fv(k:r)(h:Hid r→g:=by intro h;refine AH (AN rfl rfl underlying155 Am O_) rfl ?_;exact h.out):g:=h ⟨k⟩
theorem XM(a b:AA 64)(ha:a.length=4)(hb:b.length=4):Ev prog (.call 124 [Aw (a),Aw (b)] []) (.val (.c (.val (.bool (((Cq a b 4)==1#64))))) []):=by
 refine AI func124 rfl ntmps124 rfl AM ?_;refine BO ?_;refine Ai ?_;refine BF ?_;refine Ar ?_;refine AK [2,3,5,7] (fun (zz:Nat×BitVec 64)=>⟨24,AU [2,3,5,7] [AY 0,AY 1,.c (.val (Bp (zz.2))),At (((zz.1:Nat):Int))],[Bb (a),Bb (b)]⟩) (fun j3=>(j3,Cq a b j3)) (4) K_ ?_ ?_
 ·intro j3 hj3
  try dsimp only
  have hc:=mF a b j3
  rw [Cq.eq_2,OF]
  generalize Cq a b j3=X1 at*
  refine Ab ?_;refine IU ?_;refine Eg ?_;refine Hk ?_;refine AW ?_;refine fv ?_;refine Fm ?_;refine fv ?_;refine Fm ?_;refine Hw (zu gR rfl rfl rfl (rfl:_=Bp (X1)) (by repeat ((assumption)))) AT rfl ?_
  refine Hd ?_;refine Ft ?_;refine Cj ?_;exact ⟨(j3+1,_),K_,rfl⟩
 ·try dsimp only
  have hc:=mF a b 4
  generalize Cq a b 4=Y2 at*
  refine Ab ?_;refine PO ?_;refine Ak ?_;refine SM ?_;refine Al ?_;exact CF
def ME(a:AA 64)(X1:AA 8)(j3:Nat):AA 8:=put X1 j3 (((nth a (j3/8))>>>(8*(j3%8))).setWidth 8)
def Dz(a:AA 64):Nat→AA 8
 |0=>Ac 32
 |j3+1=>ME a (Dz a j3) j3
@[simp] theorem NW(a:AA 64)(j3:Nat):(Dz a j3).length=32:=by
 induction j3 with
 |zero=>(simp [Dz, *];done)
 |succ j3 ih=>rw [Dz.eq_2,ME];(simp [ih];done)
def LJ(a:AA 64):AA 8:=(Dz a 32)
theorem nk(k:r)(h:Hid r→g:=by intro h;refine AB (AN rfl rfl underlying155 Am O_) rfl ?_;exact h.out):g:=h ⟨k⟩
theorem pE(a:AA 64)(ha:a.length=4):Ev prog (.call 173 [Aw (a)] []) (.val (BM (LJ a)) []):=by
 have hP:=Hid.mk (LJ.eq_1 a)
 refine AI func173 rfl ntmps173 rfl AM ?_;refine BA ?_;refine It ?_;refine Dr ?_;refine FA ?_;refine AK [1,2,3,5] (fun (zz:Nat×AA 8)=>⟨21,AU [1,2,3,5] [AY 0,AY 1,AY 2,At (((zz.1:Nat):Int))],[Bb (a),BP (Ac 32),BP (zz.2)]⟩) (fun j3=>(j3,Dz a j3)) (32) K_ ?_ ?_
 ·intro j3 hj3
  try dsimp only
  have hX1:(Dz a j3).length=32:=by rw [NW a _];try omega
  rw [Dz.eq_2,ME]
  generalize Dz a j3=X1 at*
  refine Ab ?_;refine Oi ?_;refine Ak ?_;refine Be ?_;refine Oo ?_;refine nk ?_;refine Ed ?_;refine Qi ?_;refine KN ?_;refine YR ?_;refine RS ?_;refine O2 ?_;refine Ct ?_;refine Cj ?_;exact ⟨(j3+1,_),K_,rfl⟩
 ·try dsimp only
  have hY2:(Dz a 32).length=32:=by rw [NW a _];try omega
  generalize Dz a 32=Y2 at*
  refine Ab ?_;refine Pu ?_;refine Fu ?_;refine GH ?_;rw [hP.out]
  exact Ec
@[simp] theorem ADm(a:AA 64)(_ha:a.length=4):(LJ a).length=32:=by
 unfold LJ
 (simp [NW, *];done)
attribute [irreducible] LJ
def TO(b:AA 8)(X1:AA 64)(j3:Nat):AA 64:=put X1 (j3/8) ((nth X1 (j3/8)) ||| (((nth b j3).setWidth 64)<<<(8*(j3%8))))
def HN(b:AA 8):Nat→AA 64
 |0=>AC 4
 |j3+1=>TO b (HN b j3) j3
@[simp] theorem Rt(b:AA 8)(j3:Nat):(HN b j3).length=4:=by
 induction j3 with
 |zero=>(simp [HN, *];done)
 |succ j3 ih=>rw [HN.eq_2,TO];(simp [ih];done)
def bg(b:AA 8):AA 64:=(HN b 32)
theorem io(k:r)(h:Hid r→g:=by intro h;refine AB (A9 rfl rfl ga gg B7 D_) rfl ?_;exact h.out):g:=h ⟨k⟩
theorem ACP(b:AA 8)(hb:b.length=32):Ev prog (.call 123 [BM (b)] []) (.val (Aw (bg b)) []):=by
 have hP:=Hid.mk (bg.eq_1 b)
 refine AI func123 rfl ntmps123 rfl AM ?_;refine BA ?_;refine VP ?_;refine AZ ?_;refine VP ?_;refine FA ?_;refine AK [1,2,3,5] (fun (zz:Nat×AA 64)=>⟨24,AU [1,2,3,5] [AY 0,AY 1,AY 2,At (((zz.1:Nat):Int))],[BP (b),Bb (AC 4),Bb (zz.2)]⟩) (fun j3=>(j3,HN b j3)) (32) K_ ?_ ?_
 ·intro j3 hj3
  try dsimp only
  have hX1:(HN b j3).length=4:=by rw [Rt b _];try omega
  rw [HN.eq_2,TO]
  generalize HN b j3=X1 at*
  refine Ab ?_;refine Oi ?_;refine Eg ?_;refine B5 14 mixed K_ rfl rfl rfl ?_;refine AW ?_;refine R8 ?_;refine fv ?_;refine Fm ?_;refine OS ?_;refine EK ?_;refine W3 ?_;refine AW ?_;refine Sy ?_;refine Ud ?_;refine AH (CM rfl rfl) rfl ?_;refine Uy ?_;refine fv ?_;refine Kn ?_;refine Cj ?_;exact ⟨(j3+1,_),K_,rfl⟩
 ·try dsimp only
  have hY2:(HN b 32).length=4:=by rw [Rt b _];try omega
  generalize HN b 32=Y2 at*
  refine Ab ?_;refine Pu ?_;refine AZ ?_;refine io ?_;refine XR ?_;refine Ar ?_;rw [hP.out]
  exact aO
@[simp] theorem yw(b:AA 8)(_hb:b.length=32):(bg b).length=4:=by
 unfold bg
 (simp [Rt, *];done)
attribute [irreducible] bg
def Xi(X1:BitVec 64)(X2:AA 64)(j2:Nat):BitVec 64×AA 64:=((nth X2 j2)>>>63,put X2 j2 (((nth X2 j2)<<<1) ||| X1))
def FL(a:AA 64)(bit:BitVec 64):Nat→BitVec 64×AA 64
 |0=>(bit,a)
 |j2+1=>Xi (FL a bit j2).1 (FL a bit j2).2 j2
theorem Qo(a:AA 64)(bit:BitVec 64)(ha:a.length=4)(j2:Nat):(FL a bit j2).2.length=4:=by
 induction j2 with
 |zero=>(simp (maxDischargeDepth:=9) [FL, *];done)
 |succ j2 ih=>rw [FL.eq_2,Xi];(simp (maxDischargeDepth:=9) [ih];done)
def nh(a:AA 64)(bit:BitVec 64):AA 64:=((FL a bit 4).2)
theorem Wm(k:r)(h:Hid r→g:=by intro h;refine Df (AN rfl rfl underlying155 Am O_) rfl ?_;exact h.out):g:=h ⟨k⟩
theorem qW(k:r)(h:Hid r→g:=by intro h;refine AH (A9 rfl rfl ga gg B7 D_) rfl ?_;exact h.out):g:=h ⟨k⟩
theorem ACR(a:AA 64)(bit:BitVec 64)(ha:a.length=4)(hl:(Cq (FL a bit 4).2 CE 4==1#64)=true):Ev prog (.call 190 [Aw (a),.c (.val (Bp bit))] []) (.val (Aw (nh a bit)) []):=by
 have hP:=Hid.mk (nh.eq_1 a bit)
 refine AI func190 rfl ntmps190 rfl AM ?_;refine BA ?_;refine VP ?_;refine FA ?_;refine AK [1,2,4,9] (fun (zz:Nat×BitVec 64×AA 64)=>⟨47,AU [1,2,4,9] [.c (.val (Bp (zz.2.1))),AY 0,AY 1,At (((zz.1:Nat):Int))],[Bb (zz.2.2),Bb (AC 4)]⟩) (fun j2=>(j2,FL a bit j2)) (4) K_ ?_ ?_
 ·intro j2 hj2
  try dsimp only
  have hX2:(FL a bit j2).2.length=4:=by rw [Qo a bit ha _];try omega
  rw [FL.eq_2,Xi]
  generalize FL a bit j2=Z3 at*
  obtain ⟨X1,X2⟩:=Z3
  try dsimp only at*
  refine Ab ?_;refine IU ?_;refine Eg ?_;refine JF [0] mixed K_ ?_;refine Gz ?_;refine Gz ?_;refine Wm ?_;(refine F3 K_ (GS rfl rfl KK EO) rfl ?_)
  refine Df (CM (j:=1) rfl rfl) rfl ?_;refine Gz ?_;refine Df (gC rfl rfl) rfl ?_;refine Gz ?_;refine Wm ?_;(refine F3 K_ (GS rfl rfl KK EO) rfl ?_)
  refine Df (CW (j:=63) rfl rfl) rfl ?_;refine Wm ?_;refine jM ?_;refine Df (A6 rfl) rfl ?_;refine Ye ?_;refine Ab ?_;refine Nl ?_;exact ⟨(j2+1,_),K_,rfl⟩
 ·try dsimp only
  have hY5:(FL a bit 4).2.length=4:=by rw [Qo a bit ha _];try omega
  generalize FL a bit 4=Z6 at*
  obtain ⟨Y4,Y5⟩:=Z6
  try dsimp only at*
  refine Ab ?_;refine PO ?_;refine AR ?_;have hQ7:(CE).length=4:=AP
  refine S_ ?_;refine KI ?_;refine qW ?_;refine AO (Qm) gB ?_;refine AO (XM Y5 CE AD AD) oL ?_;refine Fs ?_;refine FJ rfl (hl) ?_;refine Ab ?_;refine io ?_;refine XR ?_;refine Ar ?_;rw [hP.out]
  exact aO
@[simp] theorem xn(a:AA 64)(bit:BitVec 64)(ha:a.length=4):(nh a bit).length=4:=by
 unfold nh
 (simp (maxDischargeDepth:=9) [Qo, *];done)
attribute [irreducible] nh
def Xv(X1:BitVec 64)(X2:AA 64)(j2:Nat):BitVec 64×AA 64:=((nth X2 j2)>>>63,put X2 j2 (((nth X2 j2)<<<1) ||| X1))
def Gn(a:AA 64)(bit:BitVec 64):Nat→BitVec 64×AA 64
 |0=>(bit,a)
 |j2+1=>Xv (Gn a bit j2).1 (Gn a bit j2).2 j2
theorem Q8(a:AA 64)(bit:BitVec 64)(ha:a.length=4)(j2:Nat):(Gn a bit j2).2.length=4:=by
 induction j2 with
 |zero=>(simp (maxDischargeDepth:=9) [Gn, *];done)
 |succ j2 ih=>rw [Gn.eq_2,Xv];(simp (maxDischargeDepth:=9) [ih];done)
def Pp(X9:BitVec 64)(X10:AA 64)(j10:Nat):BitVec 64×AA 64:=(Kj (nth X10 j10) (nth CE j10) X9,put X10 j10 ((nth X10 j10)-(nth CE j10)-X9))
def E8(Y5:AA 64):Nat→BitVec 64×AA 64
 |0=>(0#64,Y5)
 |j10+1=>Pp (E8 Y5 j10).1 (E8 Y5 j10).2 j10
theorem OV(Y5:AA 64)(hY5:Y5.length=4)(j10:Nat):(E8 Y5 j10).2.length=4:=by
 induction j10 with
 |zero=>(simp (maxDischargeDepth:=9) [E8, *];done)
 |succ j10 ih=>rw [E8.eq_2,Pp];(simp (maxDischargeDepth:=9) [ih];done)
def mg(a:AA 64)(bit:BitVec 64):AA 64:=((E8 ((Gn a bit 4).2) 4).2)
theorem zP(Y:AA 64)(j:Nat):(E8 Y j).1.toNat≤1:=by
 induction j with
 |zero=>show (0#64).toNat≤1;decide
 |succ j ih=>rw [E8.eq_2,Pp];exact iZ _ _ _
theorem ACf(a:AA 64)(bit:BitVec 64)(ha:a.length=4)(hl:(Cq (Gn a bit 4).2 CE 4==1#64)=false):Ev prog (.call 190 [Aw (a),.c (.val (Bp bit))] []) (.val (Aw (mg a bit)) []):=by
 have hP:=Hid.mk (mg.eq_1 a bit)
 refine AI func190 rfl ntmps190 rfl AM ?_;refine BA ?_;refine VP ?_;refine FA ?_;refine AK [1,2,4,9] (fun (zz:Nat×BitVec 64×AA 64)=>⟨47,AU [1,2,4,9] [.c (.val (Bp (zz.2.1))),AY 0,AY 1,At (((zz.1:Nat):Int))],[Bb (zz.2.2),Bb (AC 4)]⟩) (fun j2=>(j2,Gn a bit j2)) (4) K_ ?_ ?_
 ·intro j2 hj2
  try dsimp only
  have hX2:(Gn a bit j2).2.length=4:=by rw [Q8 a bit ha _];try omega
  rw [Gn.eq_2,Xv]
  generalize Gn a bit j2=Z3 at*
  obtain ⟨X1,X2⟩:=Z3
  try dsimp only at*
  refine Ab ?_;refine IU ?_;refine Eg ?_;refine JF [0] mixed K_ ?_;refine Gz ?_;refine Gz ?_;refine Wm ?_;(refine F3 K_ (GS rfl rfl KK EO) rfl ?_)
  refine Df (CM (j:=1) rfl rfl) rfl ?_;refine Gz ?_;refine Df (gC rfl rfl) rfl ?_;refine Gz ?_;refine Wm ?_;(refine F3 K_ (GS rfl rfl KK EO) rfl ?_)
  refine Df (CW (j:=63) rfl rfl) rfl ?_;refine Wm ?_;refine jM ?_;refine Df (A6 rfl) rfl ?_;refine Ye ?_;refine Ab ?_;refine Nl ?_;exact ⟨(j2+1,_),K_,rfl⟩
 ·try dsimp only
  have hY5:(Gn a bit 4).2.length=4:=by rw [Q8 a bit ha _];try omega
  generalize Gn a bit 4=Z6 at*
  obtain ⟨Y4,Y5⟩:=Z6
  try dsimp only at*
  refine Ab ?_;refine PO ?_;refine AR ?_;have hQ7:(CE).length=4:=AP
  refine S_ ?_;refine KI ?_;refine qW ?_;refine AO (Qm) gB ?_;refine AO (XM Y5 CE AD AD) oL ?_;refine Fs ?_;refine Cg rfl (hl) ?_;refine Ab ?_;refine BZ ?_;have hQ8:(CE).length=4:=AP
  refine Ab ?_;refine Ae (Qm) gB ?_;refine V5 ?_;refine AK [2,4,6,29,30] (fun (zz:Nat×BitVec 64×AA 64)=>⟨47,AU [2,4,6,29,30] [AY 0,AY 1,.c (.val (Bp (zz.2.1))),Aw (CE),At (((zz.1:Nat):Int))],[Bb (zz.2.2),Bb (AC 4)]⟩) (fun j10=>(j10,E8 Y5 j10)) (4) K_ ?_ ?_
  ·intro j10 hj10
   try dsimp only
   have hX10:(E8 Y5 j10).2.length=4:=by rw [OV Y5 hY5 _];try omega
   have hc:=zP Y5 j10
   rw [E8.eq_2,Pp]
   generalize E8 Y5 j10=Z11 at*
   obtain ⟨X9,X10⟩:=Z11
   try dsimp only at*
   refine Ab ?_;refine IU ?_;refine Ak ?_;refine AB (AE2 rfl rfl underlying155 Am KK O_ EO) rfl ?_;refine S5 ?_;refine Be ?_;refine nk ?_;refine Ed ?_;refine AX ?_;refine CQ (zu gR rfl rfl rfl (rfl:_=Bp (X9)) (by repeat ((assumption)))) AT rfl ?_
   refine Ch ?_;refine nk ?_;refine D4 ?_;refine Ai ?_;refine Nl ?_;exact ⟨(j10+1,_),K_,rfl⟩
  ·try dsimp only
   have hY13:(E8 Y5 4).2.length=4:=by rw [OV Y5 hY5 _];try omega
   have hc:=zP Y5 4
   generalize E8 Y5 4=Z14 at*
   obtain ⟨Y12,Y13⟩:=Z14
   try dsimp only at*
   refine Ab ?_;refine PO ?_;refine AZ ?_;refine io ?_;refine XR ?_;refine Ar ?_;rw [hP.out]
   exact aO
@[simp] theorem AAS(a:AA 64)(bit:BitVec 64)(ha:a.length=4):(mg a bit).length=4:=by
 unfold mg
 (simp (maxDischargeDepth:=9) [Q8,OV, *];done)
attribute [irreducible] mg
def pQ(E:Int):Nat→Int
 |0=>E
 |n+1=>pQ E n-1
theorem ip(E:Int)(n:Nat):pQ E n=E-n:=by
 induction n with
 |zero=>exact (Int.sub_zero E).symm
 |succ n ih=>rw [pQ,ih];omega
theorem lR(a:AA 64)(bit:BitVec 64)(j:Nat):Gn a bit j=FL a bit j:=by
 induction j with
 |zero=>rfl
 |succ j ih=>rw [Gn,FL,ih];rfl
def wk(a:AA 64)(bit:BitVec 64):AA 64:=(FL a bit 4).2
def K5(a:AA 64)(bit:BitVec 64):AA 64:=if (Cq (wk a bit) CE 4==1#64)=true then nh a bit else mg a bit
@[simp] theorem lG(a:AA 64)(bit:BitVec 64)(ha:a.length=4):(K5 a bit).length=4:=by
 unfold K5
 split
 ·exact xn a bit ha
 ·exact AAS a bit ha
theorem oU(a:AA 64)(bit:BitVec 64)(ha:a.length=4):Ev prog (.call 190 [Aw (a),.c (.val (Bp bit))] []) (.val (Aw (K5 a bit)) []):=by
 unfold K5 wk
 cases h:(Cq (FL a bit 4).2 CE 4==1#64) with
 |true=>exact ACR a bit ha h
 |false=>exact ACf a bit ha (by rw [lR];exact h)
attribute [irreducible] K5
def RC(b:AA 8)(X1:AA 64)(j3:Nat):AA 64:=K5 X1 ((((nth b ((8*b.length-1-j3)/8))>>>((8*b.length-1-j3)%8))&&&1#8).setWidth 64)
def FD(b:AA 8):Nat→AA 64
 |0=>AC 4
 |j3+1=>RC b (FD b j3) j3
@[simp] theorem Pn(b:AA 8)(j3:Nat):(FD b j3).length=4:=by
 induction j3 with
 |zero=>(simp [FD, *];done)
 |succ j3 ih=>rw [FD.eq_2,RC];(simp [ih];done)
def RV(b:AA 8):AA 64:=(FD b (8*b.length))
theorem yc(b:AA 8)(n cap:Nat)(hb:b.length=n)(hn:n≤1099511627776):Ev prog (.call 172 [.c (.sl 0 0 n cap 1)] [A0 (b)]) (.val (Aw (RV b)) [A0 (b)]):=by
 have hP:=Hid.mk (RV.eq_1 b)
 subst hb
 refine AI func172 rfl ntmps172 rfl AM ?_;refine Ab ?_;refine VP ?_;refine AZ ?_;refine VP ?_;refine Jk ?_;refine KN ?_;refine AB (jf rfl rfl O_) rfl ?_;refine Al ?_;refine AK [0,2,3,4] (fun (zz:Nat×AA 64)=>⟨26,AU [0,2,3,4] [.c (.sl 0 0 b.length cap 1),AY 1,AY 2,At (pQ (((8*b.length:Nat):Int)-((1:Nat):Int)) zz.1)],[A0 (b),Bb (AC 4),Bb (zz.2)]⟩) (fun j3=>(j3,FD b j3)) (8*b.length) K_ ?_ ?_
 ·intro j3 hj3
  try dsimp only
  have hX1:(FD b j3).length=4:=by rw [Pn b _];try omega
  rw [FD.eq_2,RC]
  generalize FD b j3=X1 at*
  rw [show pQ (((8*b.length:Nat):Int)-((1:Nat):Int)) j3=((8*b.length-1-j3:Nat):Int) from by rw [ip];omega]
  refine PH ?_;refine AR ?_;have hQ2:(K5 X1 ((((nth b ((8*b.length-1-j3)/8))>>>((8*b.length-1-j3)%8))&&&1#8).setWidth 64)).length=4:=AP
  refine S_ ?_;refine Hk ?_;refine qW ?_;refine Ca ?_;refine R8 ?_;refine Of ?_;refine EK ?_;refine AW ?_;refine Sy ?_;refine AH (Vu rfl rfl) rfl ?_;refine AH (OH (b:=1#8) rfl rfl) rfl ?_;refine W3 ?_;refine AO (oU X1 ((((nth b ((8*b.length-1-j3)/8))>>>((8*b.length-1-j3)%8))&&&1#8).setWidth 64) AD) AHZ ?_;refine BJ ?_;refine XR ?_;refine Ak ?_;refine PE ?_;refine ⟨(j3+1,_),(by
   dsimp only
   rw [show pQ (((8*b.length:Nat):Int)-((1:Nat):Int)) (j3+1)=((8*b.length-1-j3:Nat):Int)-1 from by rw [ip];omega]
   kernel_rfl),rfl⟩
 ·try dsimp only
  have hY3:(FD b (8*b.length)).length=4:=by rw [Pn b _];try omega
  generalize FD b (8*b.length)=Y3 at*
  rw [show pQ (((8*b.length:Nat):Int)-((1:Nat):Int)) (8*b.length)= -1 from by rw [ip];omega]
  refine RU ?_;refine AZ ?_;refine io ?_;refine XR ?_;refine Ar ?_;rw [hP.out]
  exact aO
@[simp] theorem AH5(b:AA 8):(RV b).length=4:=by
 unfold RV
 (simp [Pn, *];done)
attribute [irreducible] RV
theorem nX(n:AA 8)(hn:n.length=32):Ev prog (.call 90 [BM (n)] []) (.val (.c (.val (.bool ((Cq (bg n) CE 4)==1#64)))) []):=by
 refine AI func90 rfl ntmps90 rfl AM ?_;refine BA ?_;refine BZ ?_;have hQ1:(bg n).length=4:=AP
 have hQ2:(CE).length=4:=AP
 refine Bg ?_;refine Ae (ACP n AD) AGF ?_;refine Ae (Qm) gB ?_;refine Ae (XM (bg n) CE AD AD) oL ?_;refine Al ?_;exact CF
def WJ(b:AA 8):AA 8:=LJ (RV b)
theorem Ll(h:g:=by exact k_2 (Hu rfl rfl QH Pg B7 D_) (Iu rfl) (by (kernel_rfl))):g:=h
theorem vP(b:AA 8)(n cap:Nat)(hb:b.length=n)(hn:n≤1099511627776)(hN:n≤64):Ev prog (.call 130 [.c (.sl 0 0 n cap 1)] [A0 (b)]) (.val (.tup [BM (WJ b),At ((0:Nat):Int)]) [A0 (b)]):=by
 have hP_scModT0:Hid (WJ b=LJ (RV b)):=⟨rfl⟩
 subst hb
 refine AI func130 rfl ntmps130 rfl AM ?_;refine Ab ?_;refine Dr ?_;refine BF ?_;refine D7 ?_;refine bm ?_;refine AR ?_;have hQ1:(RV b).length=4:=AP
 have hQ2:(LJ (RV b)).length=32:=AP
 refine A1 ?_;refine bM (yc b b.length cap AD AD) AEq ?_;refine Ae (pE (RV b) AD) AGn ?_;refine Gr ?_;refine Al ?_;rw [hP_scModT0.out]
 exact Ll
attribute [irreducible] WJ
def eW(a b:AA 64):AA 64:=Fx (Af (AJ (Fx a) BU) (Fx b))
theorem Kc(k:r)(h:Hid r→g:=by intro h;refine S_ ?_;refine A2 ?_;refine AB (A9 rfl rfl Ei EI B7 D_) rfl ?_;exact h.out):g:=h ⟨k⟩
theorem zO(a b:AA 64)(ha:a.length=4)(hb:b.length=4):Ev prog (.call 85 [Aw (a),Aw (b)] []) (.val (Aw (eW a b)) []):=by
 have hP:=Hid.mk (eW.eq_1 a b)
 refine AI func85 rfl ntmps85 rfl AM ?_;refine BO ?_;refine FG ?_;refine AR ?_;have hQ1:(Fx a).length=4:=AP
 have hQ2:(BU).length=4:=AP
 have hQ3:(AJ (Fx a) BU).length=4:=AP
 refine Kc ?_;refine Ae (TE a AD) Sr ?_;refine Ae (I0) Ik ?_;refine Ae (S9 (Fx a) BU AD AD) aT ?_;refine Ch ?_;refine Lq ?_;refine BZ ?_;have hQ4:(Fx b).length=4:=AP
 have hQ5:(Af (AJ (Fx a) BU) (Fx b)).length=4:=AP
 refine S_ ?_;refine JF [3] mixed K_ ?_;(refine F3 K_ (A9 rfl rfl Ei EI B7 D_) rfl ?_)
 (refine Df (A9 rfl rfl Ei EI B7 D_) rfl ?_)
 refine XE K_ (Ah (bs:=[]) (TE b AD) Sr K_ K_ rfl B4) rfl ?_;refine XE K_ (Ah (bs:=[]) (NC (AJ (Fx a) BU) (Fx b) AD AD) Uh K_ K_ rfl B4) rfl ?_;refine Df (MW rfl) rfl ?_;refine R2 ?_;refine R2 ?_;refine iM ?_;refine Ye ?_;have hQ6:(Fx (Af (AJ (Fx a) BU) (Fx b))).length=4:=AP
 refine Kc ?_;refine Ae (TE (Af (AJ (Fx a) BU) (Fx b)) AD) Sr ?_;refine Gp ?_;rw [hP.out]
 exact KU
attribute [irreducible] eW
def MU(a b:AA 64)(j3:Nat)(X2:BitVec 64)(X3:AA 64)(j7:Nat):BitVec 64×AA 64:=(((Fw (nth a j3) (nth b j7))+(Cm (Bh (nth a j3) (nth b j7)) (nth X3 (j3+j7)) 0#64))+(Cm ((Bh (nth a j3) (nth b j7))+(nth X3 (j3+j7))+0#64) X2 0#64),put X3 (j3+j7) (((Bh (nth a j3) (nth b j7))+(nth X3 (j3+j7))+0#64)+X2+0#64))
def Bx(a b X1:AA 64)(j3:Nat):Nat→BitVec 64×AA 64
 |0=>(0#64,X1)
 |j7+1=>MU a b j3 (Bx a b X1 j3 j7).1 (Bx a b X1 j3 j7).2 j7
theorem Ii(a b X1:AA 64)(j3:Nat)(_ha:a.length=4)(_hb:b.length=4)(hX1:X1.length=8)(j7:Nat):(Bx a b X1 j3 j7).2.length=8:=by
 induction j7 with
 |zero=>(simp (maxDischargeDepth:=9) [Bx, *];done)
 |succ j7 ih=>rw [Bx.eq_2,MU];(simp (maxDischargeDepth:=9) [ih];done)
def MY(a b X1:AA 64)(j3:Nat):AA 64:=put ((Bx a b X1 j3 4).2) (j3+4) ((Bx a b X1 j3 4).1)
def CZ(a b:AA 64):Nat→AA 64
 |0=>AC 8
 |j3+1=>MY a b (CZ a b j3) j3
theorem Ms(a b:AA 64)(ha:a.length=4)(hb:b.length=4)(j3:Nat):(CZ a b j3).length=8:=by
 induction j3 with
 |zero=>(simp (maxDischargeDepth:=9) [CZ, *];done)
 |succ j3 ih=>rw [CZ.eq_2,MY];(simp (maxDischargeDepth:=9) [Ii, *];done)
def An(a b:AA 64):AA 64:=(CZ a b 4)
theorem au(a b:AA 64)(ha:a.length=4)(hb:b.length=4):Ev prog (.call 121 [Aw (a),Aw (b)] []) (.val (Aw (An a b)) []):=by
 have hP:=Hid.mk (An.eq_1 a b)
 refine AI func121 rfl ntmps121 rfl AM ?_;refine BO ?_;refine QB ?_;refine AZ ?_;refine QB ?_;refine B0 ?_;refine AK [2,3,4,5,6] (fun (zz:Nat×AA 64)=>⟨63,AU [2,3,4,5,6] [AY 0,AY 1,AY 2,AY 3,At (((zz.1:Nat):Int))],[Bb (a),Bb (b),Bb (AC 8),Bb (zz.2)]⟩) (fun j3=>(j3,CZ a b j3)) (4) K_ ?_ ?_
 ·intro j3 hj3
  try dsimp only
  have hX1:(CZ a b j3).length=8:=by rw [Ms a b ha hb _];try omega
  rw [CZ.eq_2,MY]
  generalize CZ a b j3=X1 at*
  refine A1 ?_;refine IU ?_;refine AZ ?_;refine Ai ?_;refine Al ?_;refine AK [2,3,4,5,6,7,8] (fun (zz:Nat×BitVec 64×AA 64)=>⟨63,AU [2,3,4,5,6,7,8] [AY 0,AY 1,AY 2,AY 3,At (((j3:Nat):Int)),.c (.val (Bp (zz.2.1))),At (((zz.1:Nat):Int))],[Bb (a),Bb (b),Bb (AC 8),Bb (zz.2.2)]⟩) (fun j7=>(j7,Bx a b X1 j3 j7)) (4) K_ ?_ ?_
  ·intro j7 hj7
   try dsimp only
   have hX3:(Bx a b X1 j3 j7).2.length=8:=by rw [Ii a b X1 j3 ha hb hX1 _];try omega
   rw [Bx.eq_2,MU]
   generalize Bx a b X1 j3 j7=Z4 at*
   obtain ⟨X2,X3⟩:=Z4
   try dsimp only at*
   refine A1 ?_;refine IU ?_;refine Ar ?_;refine Hk ?_;refine AW ?_;refine VA ?_;refine Fm ?_;refine VA ?_;refine DT ?_;refine AO (cI (nth a j3) (nth b j7)) np ?_;refine Hd ?_;refine I6 ?_;refine Ft ?_;refine Io ?_;refine Rb ?_;refine bC ?_;refine A3 ?_;refine aN ?_;refine Ir ?_;refine Be ?_;refine EW ?_;refine Be ?_;refine aN ?_;refine Ir ?_;refine Be ?_;refine EW ?_;refine Be ?_;refine Rb ?_;refine LU ?_;refine bC ?_;refine D4 ?_;refine BF ?_;refine HH ?_;exact ⟨(j7+1,_),K_,rfl⟩
  ·try dsimp only
   have hY6:(Bx a b X1 j3 4).2.length=8:=by rw [Ii a b X1 j3 ha hb hX1 _];try omega
   generalize Bx a b X1 j3 4=Z7 at*
   obtain ⟨Y5,Y6⟩:=Z7
   try dsimp only at*
   refine A1 ?_;refine PO ?_;refine Ak ?_;refine Wq ?_;refine AX ?_;refine bC ?_;refine D4 ?_;refine Cc ?_;exact ⟨(j3+1,_),K_,rfl⟩
 ·try dsimp only
  have hY8:(CZ a b 4).length=8:=by rw [Ms a b ha hb _];try omega
  generalize CZ a b 4=Y8 at*
  refine A1 ?_;refine PO ?_;refine AZ ?_;refine fz ?_;refine QR ?_;refine Ar ?_;rw [hP.out]
  exact kG (Hu rfl rfl so nS B7 D_) (by (kernel_rfl))
@[simp] theorem ADV(a b:AA 64)(ha:a.length=4)(hb:b.length=4):(An a b).length=8:=by
 unfold An
 (simp (maxDischargeDepth:=9) [Ms, *];done)
attribute [irreducible] An
theorem four{a:AA 64}(h:a.length=4):∃a0 a1 a2 a3,a=[a0,a1,a2,a3]:=by
 match a,h with
 |[a0,a1,a2,a3],_=>exact ⟨_,_,_,_,rfl⟩
def Vi(n:Nat):AA 64:=[BitVec.ofNat 64 n,BitVec.ofNat 64 (n/18446744073709551616),BitVec.ofNat 64 (n/340282366920938463463374607431768211456),BitVec.ofNat 64 (n/6277101735386680763835789423207666416102355444464034512896)]
@[simp] theorem AEZ(n:Nat):(Vi n).length=4:=rfl
theorem AAI(n:Nat)(h:n<115792089237316195423570985008687907853269984665640564039457584007913129639936):wV (Vi n)=n:=by
 show (BitVec.ofNat 64 n).toNat+(BitVec.ofNat 64 (n/18446744073709551616)).toNat*_+(BitVec.ofNat 64 (n/340282366920938463463374607431768211456)).toNat*_+(BitVec.ofNat 64 (n/6277101735386680763835789423207666416102355444464034512896)).toNat*_=_
 simp only [BitVec.toNat_ofNat]
 omega
theorem IF(a:AA 64):wV a<115792089237316195423570985008687907853269984665640564039457584007913129639936:=by
 have h0:=(nth a 0).isLt
 have h1:=(nth a 1).isLt
 have h2:=(nth a 2).isLt
 have h3:=(nth a 3).isLt
 unfold wV
 omega
theorem lP{a:AA 64}(h:a.length=4):Vi (wV a)=a:=by
 obtain ⟨a0,a1,a2,a3,rfl⟩:=four h
 have h0:=a0.isLt
 have h1:=a1.isLt
 have h2:=a2.isLt
 have h3:=a3.isLt
 have e:wV [a0,a1,a2,a3]=a0.toNat+a1.toNat*18446744073709551616+a2.toNat*340282366920938463463374607431768211456+a3.toNat*6277101735386680763835789423207666416102355444464034512896:=rfl
 unfold Vi
 rw [e]
 congr 1
 ·apply BitVec.eq_of_toNat_eq;rw [BitVec.toNat_ofNat];omega
 congr 1
 ·apply BitVec.eq_of_toNat_eq;rw [BitVec.toNat_ofNat];omega
 congr 1
 ·apply BitVec.eq_of_toNat_eq;rw [BitVec.toNat_ofNat];omega
 congr 1
 apply BitVec.eq_of_toNat_eq;rw [BitVec.toNat_ofNat];omega
theorem AEo{a b:AA 64}(ha:a.length=4)(hb:b.length=4)(h:wV a=wV b):a=b:=by
 rw [←lP ha,h,lP hb]
theorem Tj{x y c:BitVec 64}(hc:c.toNat≤1):(Cm x y c).toNat=(x.toNat+y.toNat+c.toNat)/18446744073709551616:=by
 have:=x.isLt
 have:=y.isLt
 unfold Cm
 rw [BitVec.toNat_ofNat]
 omega
theorem ACC(x y c:BitVec 64):(x+y+c).toNat=(x.toNat+y.toNat+c.toNat)%18446744073709551616:=by
 rw [BitVec.toNat_add,BitVec.toNat_add]
 omega
theorem TY(x y c:BitVec 64):(Kj x y c).toNat=if x.toNat<y.toNat+c.toNat then 1 else 0:=by
 unfold Kj
 split<;>rfl
theorem ACv(x y c:BitVec 64):(x-y-c).toNat=(x.toNat+36893488147419103232-y.toNat-c.toNat)%18446744073709551616:=by
 have:=x.isLt
 have:=y.isLt
 have:=c.isLt
 rw [BitVec.toNat_sub,BitVec.toNat_sub]
 omega
theorem Tt{a b:AA 64}(ha:a.length=4)(hb:b.length=4):wV (AJ a b)+(KA a b).toNat*115792089237316195423570985008687907853269984665640564039457584007913129639936=wV a+wV b∧(KA a b).toNat≤1:=by
 obtain ⟨a0,a1,a2,a3,rfl⟩:=four ha
 obtain ⟨b0,b1,b2,b3,rfl⟩:=four hb
 have z:(0#64:BitVec 64).toNat=0:=rfl
 have e0:AJ [a0,a1,a2,a3] [b0,b1,b2,b3]=[a0+b0+0#64,a1+b1+Cm a0 b0 0#64,a2+b2+Cm a1 b1 (Cm a0 b0 0#64),a3+b3+Cm a2 b2 (Cm a1 b1 (Cm a0 b0 0#64))]:=by unfold AJ;rfl
 have e1:KA [a0,a1,a2,a3] [b0,b1,b2,b3]=Cm a3 b3 (Cm a2 b2 (Cm a1 b1 (Cm a0 b0 0#64))):=by unfold KA;rfl
 rw [e0,e1]
 have c1:=Tj (x:=a0) (y:=b0) (c:=0#64) D_
 have s0:=ACC a0 b0 0#64
 have l1:=WW a0 b0 0#64 D_
 generalize Cm a0 b0 0#64=k1 at*
 have c2:=Tj (x:=a1) (y:=b1) (c:=k1) l1
 have s1:=ACC a1 b1 k1
 have l2:=WW a1 b1 k1 l1
 generalize Cm a1 b1 k1=k2 at*
 have c3:=Tj (x:=a2) (y:=b2) (c:=k2) l2
 have s2:=ACC a2 b2 k2
 have l3:=WW a2 b2 k2 l2
 generalize Cm a2 b2 k2=k3 at*
 have c4:=Tj (x:=a3) (y:=b3) (c:=k3) l3
 have s3:=ACC a3 b3 k3
 have l4:=WW a3 b3 k3 l3
 generalize Cm a3 b3 k3=k4 at*
 refine ⟨?_,l4⟩
 show (a0+b0+0#64).toNat+(a1+b1+k1).toNat*_+(a2+b2+k2).toNat*_+(a3+b3+k3).toNat*_+_=a0.toNat+a1.toNat*_+a2.toNat*_+a3.toNat*_+(b0.toNat+b1.toNat*_+b2.toNat*_+b3.toNat*_)
 rw [s0,s1,s2,s3]
 omega
theorem Kq{a b:AA 64}(ha:a.length=4)(hb:b.length=4):wV (Af a b)+wV b=wV a+(Bu a b).toNat*115792089237316195423570985008687907853269984665640564039457584007913129639936∧(Bu a b).toNat≤1:=by
 obtain ⟨a0,a1,a2,a3,rfl⟩:=four ha
 obtain ⟨b0,b1,b2,b3,rfl⟩:=four hb
 have z:(0#64:BitVec 64).toNat=0:=rfl
 have e0:Af [a0,a1,a2,a3] [b0,b1,b2,b3]=[a0-b0-0#64,a1-b1-Kj a0 b0 0#64,a2-b2-Kj a1 b1 (Kj a0 b0 0#64),a3-b3-Kj a2 b2 (Kj a1 b1 (Kj a0 b0 0#64))]:=by unfold Af;rfl
 have e1:Bu [a0,a1,a2,a3] [b0,b1,b2,b3]=Kj a3 b3 (Kj a2 b2 (Kj a1 b1 (Kj a0 b0 0#64))):=by unfold Bu;rfl
 rw [e0,e1]
 have i0:=a0.isLt
 have i1:=a1.isLt
 have i2:=a2.isLt
 have i3:=a3.isLt
 have j0:=b0.isLt
 have j1:=b1.isLt
 have j2:=b2.isLt
 have j3:=b3.isLt
 have c1:=TY a0 b0 0#64
 have s0:=ACv a0 b0 0#64
 generalize Kj a0 b0 0#64=k1 at*
 have c2:=TY a1 b1 k1
 have s1:=ACv a1 b1 k1
 generalize Kj a1 b1 k1=k2 at*
 have c3:=TY a2 b2 k2
 have s2:=ACv a2 b2 k2
 generalize Kj a2 b2 k2=k3 at*
 have c4:=TY a3 b3 k3
 have s3:=ACv a3 b3 k3
 generalize Kj a3 b3 k3=k4 at*
 show (a0-b0-0#64).toNat+(a1-b1-k1).toNat*_+(a2-b2-k2).toNat*_+(a3-b3-k3).toNat*_+(b0.toNat+b1.toNat*_+b2.toNat*_+b3.toNat*_)=a0.toNat+a1.toNat*_+a2.toNat*_+a3.toNat*_+_∧_
 rw [s0,s1,s2,s3]
 rw [z] at*
 split at c1<;>split at c2<;>split at c3<;>split at c4<;>(rw [c1] at*;rw [c2] at*;rw [c3] at*;rw [c4];constructor<;>omega)
def WF(u:Fp):AA 64:=Vi u.val
def ZW(a:AA 64):Fp:=zf (wV a)
@[simp] theorem Om(u:Fp):(WF u).length=4:=rfl
theorem TJ(u:Fp):wV (WF u)=u.val:=AAI _ (Nat.lt_trans u.isLt D_)
theorem G1(u:Fp):ZW (WF u)=u:=by unfold ZW;rw [TJ,HQ]
theorem AKA{a:AA 64}(h:a.length=4)(hl:wV a<PP):a=WF (ZW a):=by
 refine AEo h rfl ?_;rw [TJ]
 unfold ZW
 rw [Jo,Nat.mod_eq_of_lt hl]
theorem Uo(a b:AA 64):(AJ a b).length=4:=by
 have h:∀j,(De a b j).2.length=4:=fun j=>by
  induction j with
  |zero=>rfl
  |succ j ih=>rw [De,NH];show (put _ _ _).length=4;rw [BW,ih]
 unfold AJ;exact h 4
theorem Ui(a b:AA 64)(_:a.length=4):(Af a b).length=4:=by
 have h:∀j,(Cy a b j).2.length=4:=fun j=>by
  induction j with
  |zero=>rfl
  |succ j ih=>rw [Cy,KW];show (put _ _ _).length=4;rw [BW,ih]
 unfold Af;exact h 4
theorem oy(a:AA 64)(h:a.length=4):(Af a BU).length=4∧True:=⟨Ui a BU h,trivial⟩
theorem il:wV BU=PP:=by decide+kernel
theorem bP{a:AA 64}(h:a.length=4):(C9 a).length=4∧wV (C9 a)=if PP≤wV a then wV a-PP else wV a:=by
 obtain ⟨e,hc⟩:=Kq (a:=a) (b:=BU) h (by simp)
 rw [il] at e
 have hl:=IF a
 have hs:=IF (Af a BU)
 unfold C9
 have hb:(Bu a BU==1#64)=decide (¬PP≤wV a):=by
  by_cases hp:PP≤wV a
  ·rw [decide_eq_false (by simpa using hp),beq_eq_false_iff_ne]
   intro h1
   have h1':(Bu a BU).toNat=1:=by rw [h1];rfl
   rw [h1'] at e
   change _+57896044618658097711785492504343953926634992332820282019728792003956564819949=_ at e
   change 57896044618658097711785492504343953926634992332820282019728792003956564819949≤_ at hp
   omega
  ·rw [decide_eq_true hp,beq_iff_eq]
   apply BitVec.eq_of_toNat_eq
   change _+57896044618658097711785492504343953926634992332820282019728792003956564819949=_ at e
   change ¬57896044618658097711785492504343953926634992332820282019728792003956564819949≤_ at hp
   show (Bu a BU).toNat=1
   omega
 rw [hb]
 by_cases hp:PP≤wV a
 ·rw [decide_eq_false (by simpa using hp),if_pos (show (!false)=true from rfl),if_pos hp]
  refine ⟨(oy a h).1,?_⟩
  change _+57896044618658097711785492504343953926634992332820282019728792003956564819949=_ at e
  change 57896044618658097711785492504343953926634992332820282019728792003956564819949≤_ at hp
  show _=_-57896044618658097711785492504343953926634992332820282019728792003956564819949
  omega
 ·rw [decide_eq_true hp,if_neg D_,if_neg hp]
  exact ⟨h,rfl⟩
theorem WY{a:AA 64}(h:a.length=4):Fx a=WF (ZW a):=by
 obtain ⟨l1,v1⟩:=bP h
 obtain ⟨l2,v2⟩:=bP l1
 obtain ⟨l3,v3⟩:=bP l2
 have hl:=IF a
 have e:Fx a=C9 (C9 (C9 a)):=by unfold Fx;rfl
 rw [e]
 have hz:ZW (C9 (C9 (C9 a)))=ZW a∧wV (C9 (C9 (C9 a)))<PP:=by
  unfold ZW
  rw [YI,v3,v2,v1]
  show (_%57896044618658097711785492504343953926634992332820282019728792003956564819949=_%57896044618658097711785492504343953926634992332820282019728792003956564819949)∧_<57896044618658097711785492504343953926634992332820282019728792003956564819949
  simp only [show PP=57896044618658097711785492504343953926634992332820282019728792003956564819949 from rfl]
  generalize wV a=x at*
  split<;>(try split)<;>(try split)<;>constructor<;>omega
 rw [←hz.1]
 exact AKA l3 hz.2
theorem ACG{a b:AA 64}(ha:a.length=4)(hb:b.length=4):eW a b=WF (ZW a-ZW b):=by
 unfold eW
 rw [WY ha,WY hb]
 generalize ZW a=u
 generalize ZW b=v
 obtain ⟨e1,c1⟩:=Tt (a:=WF u) (b:=BU) rfl (by simp)
 have l1:(AJ (WF u) BU).length=4:=Uo _ _
 obtain ⟨e2,c2⟩:=Kq (a:=AJ (WF u) BU) (b:=WF v) l1 rfl
 have l2:(Af (AJ (WF u) BU) (WF v)).length=4:=(Ui _ _ l1)
 rw [WY l2]
 congr 1
 rw [TJ,il] at e1
 rw [TJ] at e2
 have hu:=u.isLt
 have hv:=v.isLt
 change _=_+57896044618658097711785492504343953926634992332820282019728792003956564819949 at e1
 change _<57896044618658097711785492504343953926634992332820282019728792003956564819949 at hu
 change _<57896044618658097711785492504343953926634992332820282019728792003956564819949 at hv
 have b1:=IF (AJ (WF u) BU)
 have b2:=IF (Af (AJ (WF u) BU) (WF v))
 have hw:wV (Af (AJ (WF u) BU) (WF v))+v.val=u.val+PP:=by
  show _=_+57896044618658097711785492504343953926634992332820282019728792003956564819949
  omega
 have hz:ZW (Af (AJ (WF u) BU) (WF v))+v=u:=by
  have:=congrArg zf hw
  rw [S1,S1,HQ,HQ,ALO] at this
  unfold ZW
  rw [this]
  grobner
 rw [←hz]
 grobner
def Rh(a:AA 64):Nat→Nat
 |0=>0
 |n+1=>Rh a n+(nth a n).toNat*18446744073709551616^n
theorem iT(a:AA 64)(p:Nat)(v:BitVec 64)(hp:p<a.length):∀n,Rh (put a p v) n+(if p<n then (nth a p).toNat*18446744073709551616^p else 0)=Rh a n+(if p<n then v.toNat*18446744073709551616^p else 0):=by
 intro n
 induction n with
 |zero=>rfl
 |succ n ih=>
  rw [Rh,Rh,CD _ _ _ _ hp]
  by_cases e:p=n
  ·subst e
   rw [if_neg (Nat.lt_irrefl _),if_neg (Nat.lt_irrefl _)] at ih
   rw [if_pos rfl,if_pos (Nat.lt_succ_self _),if_pos (Nat.lt_succ_self _)]
   omega
  ·rw [if_neg e]
   by_cases h:p<n
   ·rw [if_pos h,if_pos h] at ih
    rw [if_pos O_,if_pos O_]
    omega
   ·rw [if_neg h,if_neg h] at ih
    rw [if_neg O_,if_neg O_]
    omega
theorem nq(x y o c:BitVec 64):((Fw x y+Cm (Bh x y) o 0#64)+Cm (Bh x y+o+0#64) c 0#64).toNat*18446744073709551616+((Bh x y+o+0#64)+c+0#64).toNat=x.toNat*y.toNat+o.toNat+c.toNat:=by
 have hx:=x.isLt
 have hy:=y.isLt
 have ho:=o.isLt
 have hc:=c.isLt
 have hxy:x.toNat*y.toNat≤18446744073709551615*18446744073709551615:=Nat.mul_le_mul O_ O_
 have e0:=U3 x y
 have e1:=VH x y
 generalize x.toNat*y.toNat=q at*
 have f1:=WT (x:=Bh x y) (y:=o)
 have g1:(Bh x y+o+0#64).toNat=((Bh x y).toNat+o.toNat)%18446744073709551616:=by rw [BitVec.add_zero,BitVec.toNat_add]
 generalize Bh x y+o+0#64=l1 at*
 have f2:=WT (x:=l1) (y:=c)
 have g2:(l1+c+0#64).toNat=(l1.toNat+c.toNat)%18446744073709551616:=by rw [BitVec.add_zero,BitVec.toNat_add]
 have s1:=CU (x:=Fw x y) (y:=Cm (Bh x y) o 0#64) (by rw [e0,f1,e1];omega)
 have s2:=CU (x:=Fw x y+Cm (Bh x y) o 0#64) (y:=Cm l1 c 0#64) (by rw [s1,e0,f1,f2,g1,e1];omega)
 rw [s2,s1,e0,f1,f2,g2,g1,e1]
 omega
theorem AKT(V W Tp v Q M c' ab c X:Nat)(h1:V+Tp*Q=W+v*Q)(h2:c'*M+v=ab+Tp+c)(hX:W+c*Q=X):V+c'*(Q*M)=X+ab*Q:=by
 grind
theorem mz{a b T:AA 64}(i:Nat)(hi:i<4)(hT:T.length=8):∀k,k≤4→
  (Bx a b T i k).2.length=8∧Rh (Bx a b T i k).2 8+(Bx a b T i k).1.toNat*18446744073709551616^(i+k)=Rh T 8+(nth a i).toNat*Rh b k*18446744073709551616^i∧ ∀t,i+4≤t→nth (Bx a b T i k).2 t=nth T t:=by
 intro k
 induction k with
 |zero=>intro _;exact ⟨hT,by show Rh T 8+0*_=Rh T 8+_*0*_;rw [Nat.zero_mul,Nat.mul_zero,Nat.zero_mul],fun t _=>rfl⟩
 |succ k ih=>
  intro hk
  obtain ⟨h1,h2,h3⟩:=ih O_
  rw [Bx,MU]
  generalize Bx a b T i k=Y at*
  obtain ⟨c,t⟩:=Y
  dsimp only at h1 h2 h3 ⊢
  have hw:=nq (nth a i) (nth b k) (nth t (i+k)) c
  generalize Bh (nth a i) (nth b k)+nth t (i+k)+0#64+c+0#64=v at*
  generalize Fw (nth a i) (nth b k)+Cm (Bh (nth a i) (nth b k)) (nth t (i+k)) 0#64+Cm (Bh (nth a i) (nth b k)+nth t (i+k)+0#64) c 0#64=c' at*
  have hp:=iT t (i+k) v O_ 8
  rw [if_pos O_,if_pos O_] at hp
  refine ⟨by rw [BW,h1],?_,fun s hs=>?_⟩
  ·have:=AKT _ _ _ _ _ _ _ _ _ _ hp hw h2
   have e:(nth a i).toNat*Rh b (k+1)*18446744073709551616^i=(nth a i).toNat*Rh b k*18446744073709551616^i+(nth a i).toNat*(nth b k).toNat*18446744073709551616^(i+k):=by
    rw [show Rh b (k+1)=Rh b k+(nth b k).toNat*18446744073709551616^k from rfl,Nat.pow_add]
    generalize 18446744073709551616^i=p
    generalize 18446744073709551616^k=q
    grind
   rw [←Nat.add_assoc i k 1,Nat.pow_succ,this,e,Nat.add_assoc]
  ·rw [CD _ _ _ _ O_,if_neg O_];exact h3 s hs
theorem lF{a b:AA 64}:∀i,i≤4→(CZ a b i).length=8∧Rh (CZ a b i) 8=Rh a i*Rh b 4∧ ∀t,i+4≤t→nth (CZ a b i) t=0#64:=by
 intro i
 induction i with
 |zero=>
  intro _
  refine ⟨rfl,?_,fun t _=>?_⟩
  ·show Rh (AC 8) 8=0*_
   rw [Nat.zero_mul];decide
  ·show nth (AC 8) t=0#64
   unfold nth AC
   rw [List.getD_eq_getElem?_getD,List.getElem?_replicate]
   split<;>rfl
 |succ i ih=>
  intro hi
  obtain ⟨h1,h2,h3⟩:=ih O_
  obtain ⟨g1,g2,g3⟩:=mz (a:=a) (b:=b) (T:=CZ a b i) i O_ h1 4 (Nat.le_refl _)
  rw [CZ,MY]
  generalize Bx a b (CZ a b i) i 4=Y at*
  obtain ⟨c,t⟩:=Y
  dsimp only at g1 g2 g3 ⊢
  have hp:=iT t (i+4) c O_ 8
  rw [if_pos O_,if_pos O_,g3 (i+4) O_,h3 (i+4) O_,show (0#64:BitVec 64).toNat=0 from rfl,Nat.zero_mul,Nat.add_zero,g2,h2] at hp
  refine ⟨by rw [BW,g1],?_,fun s hs=>?_⟩
  ·rw [hp,show Rh a (i+1)=Rh a i+(nth a i).toNat*18446744073709551616^i from rfl,Nat.add_mul]
   congr 1
   generalize 18446744073709551616^i=p
   grind
  ·rw [CD _ _ _ _ O_,if_neg O_,g3 s O_,h3 s O_]
theorem mD(a:AA 64):Rh a 4=wV a:=by
 simp only [Rh,wV,Nat.pow_zero,Nat.reducePow]
 omega
theorem YM(a b:AA 64):Rh (An a b) 8=wV a*wV b:=by
 obtain ⟨_,h,_⟩:=lF (a:=a) (b:=b) 4 (Nat.le_refl _)
 unfold An
 rw [h,mD,mD]
theorem AAc(b:AA 8):wV (bg b)=Gt b 32:=by
 have run:=Wv b (HN b) rfl (fun j=>by rw [HN,TO]) 32 (Nat.le_refl _)
 have v:∀t,t<4→(nth (HN b 32) t).toNat=tK b t 8:=fun t ht=>by
  have:=run.2 t ht
  rwa [show min 8 (32-8*t)=8 by omega] at this
 unfold bg wV
 rw [v 0 D_,v 1 D_,v 2 D_,v 3 D_,gI]
theorem nF(a:AA 64):LJ a=kI (wV a):=by
 unfold LJ
 exact XS a (Dz a) rfl fun j=>by rw [Dz,ME]
theorem bw:CE=[6346243789798364141#64,1503914060200516822#64,0#64,1152921504606846976#64]:=by unfold CE;rfl
theorem XV:wV CE=Cl:=by rw [bw];decide+kernel
theorem W8:CE.length=4:=by rw [bw];rfl
theorem AAF(a b:AA 64)(j:Nat):Cq a b j=(Cy a b j).1:=by
 induction j with
 |zero=>rfl
 |succ j ih=>rw [Cq,OF,Cy,KW,ih]
theorem lg{a b:AA 64}(ha:a.length=4)(hb:b.length=4):(Cq a b 4==1#64)=decide (wV a<wV b):=by
 obtain ⟨e,hc⟩:=Kq ha hb
 have h1:Cq a b 4=Bu a b:=by rw [AAF];unfold Bu;rfl
 have l1:=IF (Af a b)
 have l2:=IF a
 rw [h1]
 by_cases h:wV a<wV b
 ·rw [decide_eq_true h,beq_iff_eq]
  apply BitVec.eq_of_toNat_eq
  show _=1
  omega
 ·rw [decide_eq_false h,beq_eq_false_iff_ne]
  intro h2
  have:(Bu a b).toNat=1:=by rw [h2];rfl
  omega
theorem ACp{y:AA 64}(hy:y.length=4):(E8 y 4).2=Af y CE:=by
 obtain ⟨y0,y1,y2,y3,rfl⟩:=four hy
 unfold Af
 rfl
theorem WD(x c:BitVec 64)(hc:c.toNat<2):((x<<<1) ||| c).toNat=(2*x.toNat)%18446744073709551616+c.toNat:=by
 rw [BitVec.or_comm,OI 1 O_]
 omega
theorem tB(x:BitVec 64):(x>>>63).toNat=x.toNat/9223372036854775808:=by
 rw [BitVec.toNat_ushiftRight,Nat.shiftRight_eq_div_pow]
theorem ACZ{a:AA 64}(ha:a.length=4)(bit:BitVec 64)(hb:bit.toNat<2)(hl:wV a<Cl):(wk a bit).length=4∧wV (wk a bit)=2*wV a+bit.toNat:=by
 obtain ⟨a0,a1,a2,a3,rfl⟩:=four ha
 have e:wk [a0,a1,a2,a3] bit=[(a0<<<1) ||| bit,(a1<<<1) ||| (a0>>>63),(a2<<<1) ||| (a1>>>63),(a3<<<1) ||| (a2>>>63)]:=by unfold wk;rfl
 rw [e]
 refine ⟨rfl,?_⟩
 have i0:=a0.isLt
 have i1:=a1.isLt
 have i2:=a2.isLt
 have i3:=a3.isLt
 have s0:=WD a0 bit hb
 have s1:=WD a1 (a0>>>63) (by rw [tB];omega)
 have s2:=WD a2 (a1>>>63) (by rw [tB];omega)
 have s3:=WD a3 (a2>>>63) (by rw [tB];omega)
 rw [tB] at s1 s2 s3
 change a0.toNat+a1.toNat*18446744073709551616+a2.toNat*340282366920938463463374607431768211456+a3.toNat*6277101735386680763835789423207666416102355444464034512896<7237005577332262213973186563042994240857116359379907606001950938285454250989 at hl
 show ((a0<<<1) ||| bit).toNat+((a1<<<1) ||| (a0>>>63)).toNat*18446744073709551616+((a2<<<1) ||| (a1>>>63)).toNat*340282366920938463463374607431768211456+((a3<<<1) ||| (a2>>>63)).toNat*6277101735386680763835789423207666416102355444464034512896=2*(a0.toNat+a1.toNat*18446744073709551616+a2.toNat*340282366920938463463374607431768211456+a3.toNat*6277101735386680763835789423207666416102355444464034512896)+bit.toNat
 rw [s0,s1,s2,s3]
 omega
theorem uO{a:AA 64}(ha:a.length=4)(bit:BitVec 64)(hb:bit.toNat<2)(hl:wV a<Cl):(K5 a bit).length=4∧wV (K5 a bit)=(2*wV a+bit.toNat)%Cl:=by
 obtain ⟨dl,dv⟩:=ACZ ha bit hb hl
 refine ⟨lG a bit ha,?_⟩
 unfold K5
 rw [lg dl W8,XV,dv]
 by_cases h:2*wV a+bit.toNat<Cl
 ·rw [if_pos (decide_eq_true h),Nat.mod_eq_of_lt h]
  unfold nh
  exact dv
 ·rw [if_neg (by rw [decide_eq_false h];decide)]
  have e:mg a bit=Af (wk a bit) CE:=by
   unfold mg
   rw [lR,show (FL a bit 4).2=wk a bit by unfold wk;rfl,ACp dl]
  rw [e]
  obtain ⟨e2,hc⟩:=Kq (a:=wk a bit) (b:=CE) dl W8
  rw [XV,dv] at e2
  have l1:=IF (Af (wk a bit) CE)
  change ¬_<7237005577332262213973186563042994240857116359379907606001950938285454250989 at h
  change _<7237005577332262213973186563042994240857116359379907606001950938285454250989 at hl
  change _+7237005577332262213973186563042994240857116359379907606001950938285454250989=_ at e2
  have hc0:(Bu (wk a bit) CE).toNat=0:=by omega
  rw [hc0] at e2
  have hm:(2*wV a+bit.toNat)%Cl=2*wV a+bit.toNat-Cl:=by
   rw [Nat.mod_eq_sub_mod (by show 7237005577332262213973186563042994240857116359379907606001950938285454250989≤_;omega),Nat.mod_eq_of_lt]
   show _-7237005577332262213973186563042994240857116359379907606001950938285454250989<7237005577332262213973186563042994240857116359379907606001950938285454250989
   omega
  rw [hm]
  show _=_-7237005577332262213973186563042994240857116359379907606001950938285454250989
  omega
theorem AGR(e:AA 8)(n i:Nat)(hi:i<8*n):((((nth e (i/8))>>>(i%8))&&&1#8).setWidth 64).toNat=Gt e n/2^i%2:=by
 have e1:(((nth e (i/8))>>>(i%8))&&&1#8).toNat=((nth e (i/8))>>>(i%8)).toNat%2:=by
  rw [BitVec.toNat_and]
  exact Nat.and_two_pow_sub_one_eq_mod _ 1
 rw [BitVec.toNat_setWidth,e1]
 have h1:=XG e n (i/8) O_
 rw [BitVec.toNat_ushiftRight,Nat.shiftRight_eq_div_pow,←h1]
 have h2:(2:Nat)^i=256^(i/8)*2^(i%8):=by
  rw [show (256:Nat)=2^8 from rfl,←Nat.pow_mul,←Nat.pow_add,Nat.div_add_mod]
 rw [h2,←Nat.div_div_eq_div_mul]
 generalize Gt e n/256^(i/8)=x
 rcases (by omega:i%8=0∨i%8=1∨i%8=2∨i%8=3∨i%8=4∨i%8=5∨i%8=6∨i%8=7) with h | h | h | h | h | h | h | h<;>rw [h]<;>simp only [Nat.reducePow]<;>omega
theorem AEN:0<Cl:=by unfold Cl;decide
theorem step_mod(x b:Nat):(2*(x%Cl)+b)%Cl=(2*x+b)%Cl:=by
 unfold Cl
 omega
theorem ABg(b:AA 8):∀j,j≤8*b.length→(FD b j).length=4∧wV (FD b j)=Gt b b.length/2^(8*b.length-j)%Cl:=by
 intro j
 induction j with
 |zero=>
  intro _
  rw [FD]
  refine ⟨rfl,?_⟩
  have h:=Rq b b.length
  rw [Nat.sub_zero,show (2:Nat)^(8*b.length)=256^b.length by rw [Nat.pow_mul],Nat.div_eq_of_lt h]
  rfl
 |succ j ih=>
  intro hj
  obtain ⟨h1,h2⟩:=ih O_
  rw [FD,RC]
  have hbit:=AGR b b.length (8*b.length-1-j) O_
  obtain ⟨g1,g2⟩:=uO h1 ((((nth b ((8*b.length-1-j)/8))>>>((8*b.length-1-j)%8))&&&1#8).setWidth 64) (by rw [hbit];exact Nat.mod_lt _ D_) (by rw [h2];exact Nat.mod_lt _ AEN)
  refine ⟨g1,?_⟩
  rw [g2,hbit,h2,step_mod]
  congr 1
  rw [show 8*b.length-j=(8*b.length-1-j)+1 by omega,show 8*b.length-(j+1)=8*b.length-1-j by omega,Nat.pow_succ,←Nat.div_div_eq_div_mul]
  omega
theorem AC1(b:AA 8):wV (RV b)=Gt b b.length%Cl:=by
 obtain ⟨_,h⟩:=ABg b (8*b.length) (Nat.le_refl _)
 unfold RV
 rw [h,Nat.sub_self,Nat.pow_zero,Nat.div_one]
theorem zq(a:AA 64)(n:Nat):Rh a n<18446744073709551616^n:=by
 induction n with
 |zero=>exact Nat.one_pos
 |succ n ih=>
  rw [Rh,Nat.pow_succ]
  have h:=(nth a n).isLt
  have:(nth a n).toNat*18446744073709551616^n≤18446744073709551615*18446744073709551616^n:=Nat.mul_le_mul_right _ O_
  omega
theorem en(a:AA 64)(n i:Nat)(h:i<n):Rh a n/18446744073709551616^i%18446744073709551616=(nth a i).toNat:=by
 induction n with
 |zero=>omega
 |succ n ih=>
  rw [Rh]
  have hp:0<18446744073709551616^i:=Nat.pow_pos D_
  by_cases e:i=n
  ·subst e
   rw [Nat.add_mul_div_right _ _ hp,Nat.div_eq_of_lt (zq a i),Nat.zero_add,Nat.mod_eq_of_lt (nth a i).isLt]
  ·obtain ⟨k,hk⟩:∃k,n=i+(k+1):=⟨n-i-1,by omega⟩
   rw [←ih O_,hk,Nat.pow_add,Nat.pow_succ,show (nth a (i+(k+1))).toNat*(18446744073709551616^i*(18446744073709551616^k*18446744073709551616))=((nth a (i+(k+1))).toNat*18446744073709551616^k*18446744073709551616)*18446744073709551616^i from by grobner,Nat.add_mul_div_right _ _ hp,Nat.add_mul_mod_self_right]
def Yy(b:AA 8):AA 8:=kI (Gt b b.length%Cl)
def Ga(n:AA 8):Bool:=decide (Gt n 32<Cl)
@[simp] theorem AID(b:AA 8):(Yy b).length=32:=N1 _
theorem vc(b:AA 8):WJ b=Yy b:=by
 unfold WJ Yy
 rw [nF,AC1]
theorem kL{n:AA 8}(hn:n.length=32):((Cq (bg n) CE 4)==1#64)=Ga n:=by
 unfold Ga
 rw [lg (yw n hn) W8,XV,AAc]
attribute [irreducible] Yy Ga
def Ad:AA 64:=Rg [163#8,120#8,89#8,19#8,202#8,77#8,235#8,117#8,171#8,216#8,65#8,65#8,77#8,10#8,112#8,0#8,152#8,232#8,121#8,119#8,121#8,64#8,199#8,140#8,115#8,254#8,111#8,43#8,238#8,108#8,3#8,82#8]
theorem JH:Ev prog (.call 165 [] []) (.val (Aw (Ad)) []):=by
 have hP:=Hid.mk (Ad.eq_1)
 refine AI func165 rfl ntmps165 rfl AM ?_;refine Ab ?_;refine EH ?_;refine AR ?_;have hQ1:(Rg [163#8,120#8,89#8,19#8,202#8,77#8,235#8,117#8,171#8,216#8,65#8,65#8,77#8,10#8,112#8,0#8,152#8,232#8,121#8,119#8,121#8,64#8,199#8,140#8,115#8,254#8,111#8,43#8,238#8,108#8,3#8,82#8]).length=5:=AP
 refine Ab ?_;refine AB (AF1 (l:=[163#8,120#8,89#8,19#8,202#8,77#8,235#8,117#8,171#8,216#8,65#8,65#8,77#8,10#8,112#8,0#8,152#8,232#8,121#8,119#8,121#8,64#8,199#8,140#8,115#8,254#8,111#8,43#8,238#8,108#8,3#8,82#8]) AIB underlying37 Bt rfl rfl D_) rfl ?_;refine Ae (jo [163#8,120#8,89#8,19#8,202#8,77#8,235#8,117#8,171#8,216#8,65#8,65#8,77#8,10#8,112#8,0#8,152#8,232#8,121#8,119#8,121#8,64#8,199#8,140#8,115#8,254#8,111#8,43#8,238#8,108#8,3#8,82#8] AD) VM ?_;refine OY ?_;rw [hP.out]
 exact Pv
@[simp] theorem AEn:(Ad).length=5:=by
 unfold Ad
 (simp [*];done)
attribute [irreducible] Ad
def Oy:AA 64:=(AQ 0#64)++(AQ 1#64)++(AQ 1#64)++(AQ 0#64)
theorem HI(k:r)(h:Hid r→g:=by intro h;refine Ap (Ay AG3 AM) AT rfl ?_;exact h.out):g:=h ⟨k⟩
theorem Gb(k:r)(h:Hid r→g:=by intro h;refine Bs rfl rfl rfl rfl W5 B7 B7 AT ?_;exact h.out):g:=h ⟨k⟩
theorem cz(h:g:=by exact kG (Hu rfl rfl Vc W5 B7 D_) (by (kernel_rfl))):g:=h
theorem th:Ev prog (.call 168 [] []) (.val (Aw (Oy)) []):=by
 have hP:=Hid.mk (Oy.eq_1)
 refine AI func168 rfl ntmps168 rfl AM ?_;refine Ab ?_;refine HI ?_;refine AR ?_;have hQ1:(AQ 0#64).length=5:=AP
 have hQ2:(AQ 1#64).length=5:=AP
 refine Ab ?_;refine Ae (EX 0#64) JW ?_;refine Ae (EX 1#64) JW ?_;refine Ae (EX 1#64) JW ?_;refine Ae (EX 0#64) JW ?_;refine AB (gb rfl rfl rfl rfl (yh Iz Iz Iz Iz)) rfl ?_;refine Gb ?_;refine Ar ?_;rw [hP.out]
 exact cz
@[simp] theorem AFJ:(Oy).length=20:=by
 unfold Oy
 (simp (maxDischargeDepth:=9) [*];done)
attribute [irreducible] Oy
def Na(b:AA 8):AA 64:=Rg (put b 31 ((nth b 31)&&&127#8))
def E7(b:AA 8):AA 64:=AL (Na b) (Na b)
def WQ(b:AA 8):AA 64:=AL (A4 (E7 b) (AQ 1#64)) (Cb (Ag (AL Ad (E7 b)) (AQ 1#64)))
def Ha(b:AA 8):AA 64:=HP (WQ b)
def Uq(b:AA 8):Bool:=RE (WQ b)
def wb(b:AA 8):Bool:=decide (Aa (Na b)=put b 31 ((nth b 31)&&&127#8))
def unZ(b:AA 8):Bool:=decide (Aa (Ha b)=Aa (AQ 0#64))
def kK(b:AA 8):Bool:=((nth b 31)>>>7)==1#8
@[simp] theorem AKo(b:AA 8)(hb:b.length=32):(Na b).length=5:=by unfold Na;simp (maxDischargeDepth:=9) [hb]
@[simp] theorem AJ8(b:AA 8)(hb:b.length=32):(E7 b).length=5:=by unfold E7;simp (maxDischargeDepth:=9) [hb]
@[simp] theorem AJ2(b:AA 8)(hb:b.length=32):(WQ b).length=5:=by unfold WQ;simp (maxDischargeDepth:=9) [hb]
@[simp] theorem AKj(b:AA 8)(hb:b.length=32):(Ha b).length=5:=by unfold Ha;simp (maxDischargeDepth:=9) [hb]
theorem bi(b:AA 8)(hb:b.length=32):Ev prog (.call 154 [BM (put b 31 ((nth b 31)&&&127#8))] []) (.val (Aw (Na b)) []):=jo _ (by simp (maxDischargeDepth:=9) [hb])
theorem Zn(b:AA 8)(hb:b.length=32):Ev prog (.call 158 [Aw (Na b),Aw (Na b)] []) (.val (Aw (E7 b)) []):=CB _ _ (by simp (maxDischargeDepth:=9) [hb]) (by simp (maxDischargeDepth:=9) [hb])
theorem Zm(b:AA 8)(hb:b.length=32):Ev prog (.call 158 [Aw (A4 (E7 b) (AQ 1#64)),Aw (Cb (Ag (AL Ad (E7 b)) (AQ 1#64)))] []) (.val (Aw (WQ b)) []):=CB _ _ (by simp (maxDischargeDepth:=9) [hb]) (by simp (maxDischargeDepth:=9) [hb])
theorem Ta(b:AA 8)(r:Bool)(hr:Uq b=r)(hb:b.length=32):Ev prog (.call 164 [Aw (WQ b)] []) (.val (.tup [Aw (Ha b),.c (.val (.bool r))]) []):=by
 rw [←hr]
 exact wR _ (by simp (maxDischargeDepth:=9) [hb])
theorem fK(b:AA 8)(r:Bool)(hr:unZ b=r)(hb:b.length=32):Ev prog (.call 166 [Aw (Ha b),Aw (AQ 0#64)] []) (.val (.c (.val (.bool r))) []):=by
 rw [←hr]
 exact YC _ _ (by simp (maxDischargeDepth:=9) [hb]) (by simp)
theorem co{b:AA 8}{r:Bool}(h:wb b=r):(!decide (Aa (Na b)=put b 31 ((nth b 31)&&&127#8)))= !r:=by rw [←h];rfl
theorem oF{b:AA 8}{r:Bool}(h:kK b=r):(((nth b 31)>>>7)==1#8)=r:=h
attribute [irreducible] Na E7 WQ Ha Uq wb unZ kK
def gr:AA 64:=AC 20
theorem ax(k:r)(h:Hid r→g:=by intro h;refine AI func126 rfl ntmps126 rfl AM ?_;exact h.out):g:=h ⟨k⟩
theorem Km(k:r)(h:Hid r→g:=by intro h;refine AB (AN (j:=31) rfl rfl underlying37 Bt O_) rfl ?_;refine AB (ZF rfl rfl UR EO) rfl ?_;exact h.out):g:=h ⟨k⟩
theorem cS(k:r)(h:Hid r→g:=by intro h;refine AB (Vu (j:=7) rfl rfl) rfl ?_;exact h.out):g:=h ⟨k⟩
theorem bt(k:r)(h:Hid r→g:=by intro h;refine AH (fu rfl rfl underlying37 underlying5 Bt B7 B7) rfl ?_;exact h.out):g:=h ⟨k⟩
theorem cX(h:g:=by exact k_2 (Hu rfl rfl Vc W5 B7 D_) (Iu rfl) (by (kernel_rfl))):g:=h
theorem ABK(b:AA 8)(hb:b.length=32)(hC:wb b=false):Ev prog (.call 126 [BM (b)] []) (.val (.tup [Aw (gr),.c (.val (.bool (false)))]) []):=by
 have hP_cvUnA0:Hid (gr=AC 20):=⟨rfl⟩
 refine ax ?_;refine BA ?_;refine HI ?_;refine Ai ?_;refine Km ?_;refine cS ?_;refine Xt ?_;refine Ai ?_;refine Iw ?_;refine Jp ?_;have hQ1:(Na b).length=5:=AP
 refine Bg ?_;refine Ae (bi b hb) VM ?_;refine EH ?_;refine FP ?_;have hQ2:(Aa (Na b)).length=32:=AP
 refine IL ?_;refine Dq ?_;refine AO (Fq (Na b) AD) O9 ?_;refine Cn ?_;refine bt ?_;refine Fs ?_;refine FJ rfl (co hC) ?_;refine Ab ?_;refine AB (XX nv) rfl ?_;refine Gb ?_;refine Al ?_;rw [hP_cvUnA0.out]
 exact cX
attribute [irreducible] gr
def iJ:AA 64:=AC 20
theorem Q7(k:r)(h:Hid r→g:=by intro h;refine aS 15 13 mixed K_ K_ rfl rfl rfl ?_;exact h.out):g:=h ⟨k⟩
theorem Oe(k:r)(h:Hid r→g:=by intro h;refine AO (EX 1#64) JW ?_;exact h.out):g:=h ⟨k⟩
theorem xJ(b:AA 8)(hb:b.length=32)(hC:wb b=true)(hR:Uq b=false):Ev prog (.call 126 [BM (b)] []) (.val (.tup [Aw (iJ),.c (.val (.bool (false)))]) []):=by
 have hP_cvUnB0:Hid (iJ=AC 20):=⟨rfl⟩
 refine ax ?_;refine BA ?_;refine HI ?_;refine Ai ?_;refine Km ?_;refine cS ?_;refine Xt ?_;refine Ai ?_;refine Iw ?_;refine Jp ?_;have hQ1:(Na b).length=5:=AP
 refine Bg ?_;refine Ae (bi b hb) VM ?_;refine EH ?_;refine FP ?_;have hQ2:(Aa (Na b)).length=32:=AP
 refine IL ?_;refine Dq ?_;refine AO (Fq (Na b) AD) O9 ?_;refine Cn ?_;refine bt ?_;refine Fs ?_;refine Cg rfl (co hC) ?_;have hQ3:(E7 b).length=5:=AP
 refine Lg ?_;refine IOq ?_;refine Ae (Zn b hb) By ?_;refine EH ?_;refine FP ?_;have hQ4:(AQ 1#64).length=5:=AP
 have hQ5:(A4 (E7 b) (AQ 1#64)).length=5:=AP
 have hQ6:(Ad).length=5:=AP
 have hQ7:(AL Ad (E7 b)).length=5:=AP
 have hQ8:(Ag (AL Ad (E7 b)) (AQ 1#64)).length=5:=AP
 have hQ9:(Cb (Ag (AL Ad (E7 b)) (AQ 1#64))).length=5:=AP
 have hQ10:(WQ b).length=5:=AP
 have hQ11:(Ha b).length=5:=AP
 refine S_ ?_;refine Q7 ?_;refine Dq ?_;refine Oe ?_;refine AO (Ht (E7 b) (AQ 1#64) AD AD) Js ?_;refine AO (JH) SI ?_;refine Dq ?_;refine AO (CB Ad (E7 b) AD AD) By ?_;refine Oe ?_;refine AO (G3 (AL Ad (E7 b)) (AQ 1#64) AD AD) Im ?_;refine AO (PD (Ag (AL Ad (E7 b)) (AQ 1#64)) AD) Xx ?_;refine AO (Zm b hb) By ?_;refine AO (Ta b false hR hb) jR ?_;refine Hd ?_;refine KR ?_;refine Is ?_;refine Al ?_;refine RZ ?_;refine Kp ?_;refine AW ?_;refine Ws KL ?_;refine Ws KL ?_;refine Ws KL ?_;refine Ws KL ?_;refine Ws KL ?_;refine Ws KL ?_;refine AH (WV rfl PK_ rfl) rfl ?_;refine BJ ?_;refine AZ ?_;refine AB (XX nv) rfl ?_;refine Gb ?_;refine Al ?_;rw [hP_cvUnB0.out]
 exact cX
attribute [irreducible] iJ
def jq:AA 64:=AC 20
theorem Q4(k:r)(h:Hid r→g:=by intro h;refine AH (Ao rfl) rfl ?_;refine Jg KL ?_;exact h.out):g:=h ⟨k⟩
theorem Sl(k:r)(h:Hid r→g:=by intro h;refine AH (gm rfl PK_ rfl) rfl ?_;exact h.out):g:=h ⟨k⟩
theorem yq(b:AA 8)(hb:b.length=32)(hC:wb b=true)(hR:Uq b=true)(hO:kK b=true)(hZ:unZ b=true):Ev prog (.call 126 [BM (b)] []) (.val (.tup [Aw (jq),.c (.val (.bool (false)))]) []):=by
 have hP_cvUnD0:Hid (jq=AC 20):=⟨rfl⟩
 refine ax ?_;refine BA ?_;refine HI ?_;refine BZ ?_;have hE1:((((nth b 31)>>>7)==1#8))=true:=oF hO
 refine Ab ?_;refine Km ?_;refine cS ?_;refine AB (C6 (iw (b:=1#8) rfl rfl) hE1) rfl ?_;refine Ai ?_;refine Iw ?_;refine Jp ?_;have hQ2:(Na b).length=5:=AP
 refine Bg ?_;refine Ae (bi b hb) VM ?_;refine EH ?_;refine FP ?_;have hQ3:(Aa (Na b)).length=32:=AP
 refine IL ?_;refine Dq ?_;refine AO (Fq (Na b) AD) O9 ?_;refine Cn ?_;refine bt ?_;refine Fs ?_;refine Cg rfl (co hC) ?_;have hQ4:(E7 b).length=5:=AP
 refine Lg ?_;refine IOq ?_;refine Ae (Zn b hb) By ?_;refine EH ?_;refine FP ?_;have hQ5:(AQ 1#64).length=5:=AP
 have hQ6:(A4 (E7 b) (AQ 1#64)).length=5:=AP
 have hQ7:(Ad).length=5:=AP
 have hQ8:(AL Ad (E7 b)).length=5:=AP
 have hQ9:(Ag (AL Ad (E7 b)) (AQ 1#64)).length=5:=AP
 have hQ10:(Cb (Ag (AL Ad (E7 b)) (AQ 1#64))).length=5:=AP
 have hQ11:(WQ b).length=5:=AP
 have hQ12:(Ha b).length=5:=AP
 refine S_ ?_;refine Q7 ?_;refine Dq ?_;refine Oe ?_;refine AO (Ht (E7 b) (AQ 1#64) AD AD) Js ?_;refine AO (JH) SI ?_;refine Dq ?_;refine AO (CB Ad (E7 b) AD AD) By ?_;refine Oe ?_;refine AO (G3 (AL Ad (E7 b)) (AQ 1#64) AD AD) Im ?_;refine AO (PD (Ag (AL Ad (E7 b)) (AQ 1#64)) AD) Xx ?_;refine AO (Zm b hb) By ?_;refine AO (Ta b true hR hb) jR ?_;refine Hd ?_;refine KR ?_;refine Is ?_;refine BZ ?_;have hQ13:(AQ 0#64).length=5:=AP
 refine S_ ?_;refine RZ ?_;refine Kp ?_;refine Q4 ?_;refine Q4 ?_;refine Q4 ?_;refine Dq ?_;refine Jg KL ?_;refine AO (EX 0#64) JW ?_;refine Jg KL ?_;refine AO (fK b true hZ hb) jG ?_;refine Jg KL ?_;refine AH (WV rfl PK_ rfl) rfl ?_;refine Sl ?_;refine BJ ?_;refine AZ ?_;refine AB (XX nv) rfl ?_;refine Gb ?_;refine Al ?_;rw [hP_cvUnD0.out]
 exact cX
attribute [irreducible] jq
def SS(b:AA 8):AA 64:=(if (!((((nth (Aa (Ha b)) 0)&&&1#8)==1#8)==false))=true then A4 (AQ 0#64) (Ha b) else Ha b)++(Na b)++(AQ 1#64)++(AL (if (!((((nth (Aa (Ha b)) 0)&&&1#8)==1#8)==false))=true then A4 (AQ 0#64) (Ha b) else Ha b) (Na b))
theorem oO(k:r)(h:Hid r→g:=by intro h;refine AH (gb rfl rfl rfl rfl (yh Iz Iz Iz Iz)) rfl ?_;exact h.out):g:=h ⟨k⟩
theorem yJ(b:AA 8)(hb:b.length=32)(hC:wb b=true)(hR:Uq b=true)(hO:kK b=false):Ev prog (.call 126 [BM (b)] []) (.val (.tup [Aw (SS b),.c (.val (.bool (true)))]) []):=by
 have hP_cvUnE0:Hid (SS b=(if (!((((nth (Aa (Ha b)) 0)&&&1#8)==1#8)==false))=true then A4 (AQ 0#64) (Ha b) else Ha b)++(Na b)++(AQ 1#64)++(AL (if (!((((nth (Aa (Ha b)) 0)&&&1#8)==1#8)==false))=true then A4 (AQ 0#64) (Ha b) else Ha b) (Na b))):=⟨rfl⟩
 refine ax ?_;refine BA ?_;refine HI ?_;refine BZ ?_;have hE1:((((nth b 31)>>>7)==1#8))=false:=oF hO
 refine Ab ?_;refine Km ?_;refine cS ?_;refine AB (C6 (iw (b:=1#8) rfl rfl) hE1) rfl ?_;refine Ai ?_;refine Iw ?_;refine Jp ?_;have hQ2:(Na b).length=5:=AP
 refine Bg ?_;refine Ae (bi b hb) VM ?_;refine EH ?_;refine FP ?_;have hQ3:(Aa (Na b)).length=32:=AP
 refine IL ?_;refine Dq ?_;refine AO (Fq (Na b) AD) O9 ?_;refine Cn ?_;refine bt ?_;refine Fs ?_;refine Cg rfl (co hC) ?_;have hQ4:(E7 b).length=5:=AP
 refine Lg ?_;refine IOq ?_;refine Ae (Zn b hb) By ?_;refine EH ?_;refine FP ?_;have hQ5:(AQ 1#64).length=5:=AP
 have hQ6:(A4 (E7 b) (AQ 1#64)).length=5:=AP
 have hQ7:(Ad).length=5:=AP
 have hQ8:(AL Ad (E7 b)).length=5:=AP
 have hQ9:(Ag (AL Ad (E7 b)) (AQ 1#64)).length=5:=AP
 have hQ10:(Cb (Ag (AL Ad (E7 b)) (AQ 1#64))).length=5:=AP
 have hQ11:(WQ b).length=5:=AP
 have hQ12:(Ha b).length=5:=AP
 refine S_ ?_;refine Q7 ?_;refine Dq ?_;refine Oe ?_;refine AO (Ht (E7 b) (AQ 1#64) AD AD) Js ?_;refine AO (JH) SI ?_;refine Dq ?_;refine AO (CB Ad (E7 b) AD AD) By ?_;refine Oe ?_;refine AO (G3 (AL Ad (E7 b)) (AQ 1#64) AD AD) Im ?_;refine AO (PD (Ag (AL Ad (E7 b)) (AQ 1#64)) AD) Xx ?_;refine AO (Zm b hb) By ?_;refine AO (Ta b true hR hb) jR ?_;refine Hd ?_;refine KR ?_;refine Is ?_;refine Al ?_;refine RZ ?_;refine Kp ?_;refine Q4 ?_;refine Q4 ?_;refine AW ?_;refine Ws KL ?_;refine Ws KL ?_;refine Ws KL ?_;refine Jg KL ?_;refine Sl ?_;refine Sl ?_;refine BJ ?_;refine AZ ?_;refine IOq ?_;refine Ae (bF (Ha b) AD) nm ?_;refine AX ?_;refine AB (xw rfl rfl underlying4) rfl ?_;refine EA ?_;refine Eb [2,5,7] (fun (zz:AA 64)=>⟨66,AU [2,5,7] [AY 0,AY 1,AY 2],[Bb (AC 20),Bb (Na b),Bb (zz)]⟩) (if (!((((nth (Aa (Ha b)) 0)&&&1#8)==1#8)==false))=true then A4 (AQ 0#64) (Ha b) else Ha b) rfl (fun hb=>?_) (fun hb=>?_) ?_
 ·have hQ14:(AQ 0#64).length=5:=AP
  have hQ15:(A4 (AQ 0#64) (Ha b)).length=5:=AP
  refine S_ ?_;refine KI ?_;refine AO (EX 0#64) JW ?_;refine Dq ?_;refine AO (Ht (AQ 0#64) (Ha b) AD AD) Js ?_;refine Is ?_;refine Ar ?_;refine ⟨(A4 (AQ 0#64) (Ha b)),K_,?_⟩
  rw [if_pos (hb)]
 ·refine S_ ?_
  refine ⟨(Ha b),K_,?_⟩
  rw [if_neg (by (rw [hb];decide))]
 have hJ13:(if (!((((nth (Aa (Ha b)) 0)&&&1#8)==1#8)==false))=true then A4 (AQ 0#64) (Ha b) else Ha b).length=5:=by split<;>simp [*]
 generalize (if (!((((nth (Aa (Ha b)) 0)&&&1#8)==1#8)==false))=true then A4 (AQ 0#64) (Ha b) else Ha b)=J13 at*
 have hQ16:(AQ 1#64).length=5:=AP
 have hQ17:(AL J13 (Na b)).length=5:=AP
 refine Jd ?_;refine DS ?_;refine Oe ?_;refine DS ?_;refine AO (CB J13 (Na b) AD AD) By ?_;refine oO ?_;refine BJ ?_;refine Gb ?_;refine Al ?_;rw [hP_cvUnE0.out]
 exact cX
@[simp] theorem oT(b:AA 8)(hb:b.length=32):(SS b).length=20:=by
 unfold SS
 (split<;>(simp (maxDischargeDepth:=9) [*];done))
attribute [irreducible] SS
def R6(b:AA 8):AA 64:=(if (!((((nth (Aa (Ha b)) 0)&&&1#8)==1#8)==true))=true then A4 (AQ 0#64) (Ha b) else Ha b)++(Na b)++(AQ 1#64)++(AL (if (!((((nth (Aa (Ha b)) 0)&&&1#8)==1#8)==true))=true then A4 (AQ 0#64) (Ha b) else Ha b) (Na b))
theorem yZ(b:AA 8)(hb:b.length=32)(hC:wb b=true)(hR:Uq b=true)(hO:kK b=true)(hZ:unZ b=false):Ev prog (.call 126 [BM (b)] []) (.val (.tup [Aw (R6 b),.c (.val (.bool (true)))]) []):=by
 have hP_cvUnF0:Hid (R6 b=(if (!((((nth (Aa (Ha b)) 0)&&&1#8)==1#8)==true))=true then A4 (AQ 0#64) (Ha b) else Ha b)++(Na b)++(AQ 1#64)++(AL (if (!((((nth (Aa (Ha b)) 0)&&&1#8)==1#8)==true))=true then A4 (AQ 0#64) (Ha b) else Ha b) (Na b))):=⟨rfl⟩
 refine ax ?_;refine BA ?_;refine HI ?_;refine BZ ?_;have hE1:((((nth b 31)>>>7)==1#8))=true:=oF hO
 refine Ab ?_;refine Km ?_;refine cS ?_;refine AB (C6 (iw (b:=1#8) rfl rfl) hE1) rfl ?_;refine Ai ?_;refine Iw ?_;refine Jp ?_;have hQ2:(Na b).length=5:=AP
 refine Bg ?_;refine Ae (bi b hb) VM ?_;refine EH ?_;refine FP ?_;have hQ3:(Aa (Na b)).length=32:=AP
 refine IL ?_;refine Dq ?_;refine AO (Fq (Na b) AD) O9 ?_;refine Cn ?_;refine bt ?_;refine Fs ?_;refine Cg rfl (co hC) ?_;have hQ4:(E7 b).length=5:=AP
 refine Lg ?_;refine IOq ?_;refine Ae (Zn b hb) By ?_;refine EH ?_;refine FP ?_;have hQ5:(AQ 1#64).length=5:=AP
 have hQ6:(A4 (E7 b) (AQ 1#64)).length=5:=AP
 have hQ7:(Ad).length=5:=AP
 have hQ8:(AL Ad (E7 b)).length=5:=AP
 have hQ9:(Ag (AL Ad (E7 b)) (AQ 1#64)).length=5:=AP
 have hQ10:(Cb (Ag (AL Ad (E7 b)) (AQ 1#64))).length=5:=AP
 have hQ11:(WQ b).length=5:=AP
 have hQ12:(Ha b).length=5:=AP
 refine S_ ?_;refine Q7 ?_;refine Dq ?_;refine Oe ?_;refine AO (Ht (E7 b) (AQ 1#64) AD AD) Js ?_;refine AO (JH) SI ?_;refine Dq ?_;refine AO (CB Ad (E7 b) AD AD) By ?_;refine Oe ?_;refine AO (G3 (AL Ad (E7 b)) (AQ 1#64) AD AD) Im ?_;refine AO (PD (Ag (AL Ad (E7 b)) (AQ 1#64)) AD) Xx ?_;refine AO (Zm b hb) By ?_;refine AO (Ta b true hR hb) jR ?_;refine Hd ?_;refine KR ?_;refine Is ?_;refine BZ ?_;have hQ13:(AQ 0#64).length=5:=AP
 refine S_ ?_;refine RZ ?_;refine Kp ?_;refine Q4 ?_;refine Q4 ?_;refine Q4 ?_;refine Dq ?_;refine Jg KL ?_;refine AO (EX 0#64) JW ?_;refine Jg KL ?_;refine AO (fK b false hZ hb) jG ?_;refine Jg KL ?_;refine AH (WV rfl PK_ rfl) rfl ?_;refine Sl ?_;refine BJ ?_;refine AZ ?_;refine IOq ?_;refine Ae (bF (Ha b) AD) nm ?_;refine AX ?_;refine AB (xw rfl rfl underlying4) rfl ?_;refine EA ?_;refine Eb [2,5,7] (fun (zz:AA 64)=>⟨66,AU [2,5,7] [AY 0,AY 1,AY 2],[Bb (AC 20),Bb (Na b),Bb (zz)]⟩) (if (!((((nth (Aa (Ha b)) 0)&&&1#8)==1#8)==true))=true then A4 (AQ 0#64) (Ha b) else Ha b) rfl (fun hb=>?_) (fun hb=>?_) ?_
 ·have hQ15:(AQ 0#64).length=5:=AP
  have hQ16:(A4 (AQ 0#64) (Ha b)).length=5:=AP
  refine S_ ?_;refine KI ?_;refine AO (EX 0#64) JW ?_;refine Dq ?_;refine AO (Ht (AQ 0#64) (Ha b) AD AD) Js ?_;refine Is ?_;refine Ar ?_;refine ⟨(A4 (AQ 0#64) (Ha b)),K_,?_⟩
  rw [if_pos (hb)]
 ·refine S_ ?_
  refine ⟨(Ha b),K_,?_⟩
  rw [if_neg (by (rw [hb];decide))]
 have hJ14:(if (!((((nth (Aa (Ha b)) 0)&&&1#8)==1#8)==true))=true then A4 (AQ 0#64) (Ha b) else Ha b).length=5:=by split<;>simp [*]
 generalize (if (!((((nth (Aa (Ha b)) 0)&&&1#8)==1#8)==true))=true then A4 (AQ 0#64) (Ha b) else Ha b)=J14 at*
 have hQ17:(AQ 1#64).length=5:=AP
 have hQ18:(AL J14 (Na b)).length=5:=AP
 refine Jd ?_;refine DS ?_;refine Oe ?_;refine DS ?_;refine AO (CB J14 (Na b) AD AD) By ?_;refine oO ?_;refine BJ ?_;refine Gb ?_;refine Al ?_;rw [hP_cvUnF0.out]
 exact cX
@[simp] theorem oc(b:AA 8)(hb:b.length=32):(R6 b).length=20:=by
 unfold R6
 (split<;>(simp (maxDischargeDepth:=9) [*];done))
attribute [irreducible] R6
def CP(b:AA 8):Bool:=wb b&&(Uq b&& !(kK b&&unZ b))
def Nr(b:AA 8):AA 64:=if CP b=true then (if kK b=true then R6 b else SS b) else AC 20
@[simp] theorem AKd(b:AA 8)(hb:b.length=32):(Nr b).length=20:=by
 unfold Nr
 split
 ·split
  ·exact oc b hb
  ·exact oT b hb
 ·exact List.length_replicate ..
theorem dB(b:AA 8)(hb:b.length=32):Ev prog (.call 126 [BM (b)] []) (.val (.tup [Aw (Nr b),.c (.val (.bool (CP b)))]) []):=by
 cases hC:wb b with
 |false=>
  have e:CP b=false:=by unfold CP;rw [hC];rfl
  have e2:Nr b=AC 20:=by unfold Nr;rw [e];rfl
  have h:=ABK b hb hC
  unfold gr at h
  rw [e,e2];exact h
 |true=>
  cases hR:Uq b with
  |false=>
   have e:CP b=false:=by unfold CP;rw [hC,hR];rfl
   have e2:Nr b=AC 20:=by unfold Nr;rw [e];rfl
   have h:=xJ b hb hC hR
   unfold iJ at h
   rw [e,e2];exact h
  |true=>
   cases hO:kK b with
   |false=>
    have e:CP b=true:=by unfold CP;rw [hC,hR,hO];rfl
    have e2:Nr b=SS b:=by unfold Nr;rw [e,hO];rfl
    rw [e,e2];exact yJ b hb hC hR hO
   |true=>
    cases hZ:unZ b with
    |true=>
     have e:CP b=false:=by unfold CP;rw [hC,hR,hO,hZ];rfl
     have e2:Nr b=AC 20:=by unfold Nr;rw [e];rfl
     have h:=yq b hb hC hR hO hZ
     unfold jq at h
     rw [e,e2];exact h
    |false=>
     have e:CP b=true:=by unfold CP;rw [hC,hR,hO,hZ];rfl
     have e2:Nr b=R6 b:=by unfold Nr;rw [e,hO];rfl
     rw [e,e2];exact yZ b hb hC hR hO hZ
def Dd(p q k:AA 64):AA 64:=(AL (A4 (AL (Ag (cut p 5 5) (cut p 0 5)) (Ag (cut q 5 5) (cut q 0 5))) (AL (A4 (cut p 5 5) (cut p 0 5)) (A4 (cut q 5 5) (cut q 0 5)))) (A4 (AL (Ag (cut p 10 5) (cut p 10 5)) (cut q 10 5)) (AL (AL k (cut p 15 5)) (cut q 15 5))))++(AL (Ag (AL (Ag (cut p 10 5) (cut p 10 5)) (cut q 10 5)) (AL (AL k (cut p 15 5)) (cut q 15 5))) (Ag (AL (Ag (cut p 5 5) (cut p 0 5)) (Ag (cut q 5 5) (cut q 0 5))) (AL (A4 (cut p 5 5) (cut p 0 5)) (A4 (cut q 5 5) (cut q 0 5)))))++(AL (A4 (AL (Ag (cut p 10 5) (cut p 10 5)) (cut q 10 5)) (AL (AL k (cut p 15 5)) (cut q 15 5))) (Ag (AL (Ag (cut p 10 5) (cut p 10 5)) (cut q 10 5)) (AL (AL k (cut p 15 5)) (cut q 15 5))))++(AL (A4 (AL (Ag (cut p 5 5) (cut p 0 5)) (Ag (cut q 5 5) (cut q 0 5))) (AL (A4 (cut p 5 5) (cut p 0 5)) (A4 (cut q 5 5) (cut q 0 5)))) (Ag (AL (Ag (cut p 5 5) (cut p 0 5)) (Ag (cut q 5 5) (cut q 0 5))) (AL (A4 (cut p 5 5) (cut p 0 5)) (A4 (cut q 5 5) (cut q 0 5)))))
theorem KX(k:r)(h:Hid r→g:=by intro h;refine AH (Tc rfl rfl H7 HF Wg D_) rfl ?_;exact h.out):g:=h ⟨k⟩
theorem XK(p q k:AA 64)(hp:p.length=20)(hq:q.length=20)(hk:k.length=5):Ev prog (.call 169 [Aw (p),Aw (q),Aw (k)] []) (.val (Aw (Dd p q k)) []):=by
 have hP:=Hid.mk (Dd.eq_1 p q k)
 refine AI func169 rfl ntmps169 rfl AM ?_;refine BO ?_;refine Ap (Sw yp AM) AT rfl ?_;refine HI ?_;refine AR ?_;have hQ1:(cut p 5 5).length=5:=AP
 have hQ2:(cut p 0 5).length=5:=AP
 have hQ3:(A4 (cut p 5 5) (cut p 0 5)).length=5:=AP
 have hQ4:(cut q 5 5).length=5:=AP
 have hQ5:(cut q 0 5).length=5:=AP
 have hQ6:(A4 (cut q 5 5) (cut q 0 5)).length=5:=AP
 have hQ7:(AL (A4 (cut p 5 5) (cut p 0 5)) (A4 (cut q 5 5) (cut q 0 5))).length=5:=AP
 refine S_ ?_;refine Hk ?_;refine AH (A7 rfl (Rk _ _)) rfl ?_;refine KX ?_;refine AH (A7 rfl (S3 _ _)) rfl ?_;refine KX ?_;refine AO (Ht (cut p 5 5) (cut p 0 5) AD AD) Js ?_;refine AH (A7 rfl (Rk _ _)) rfl ?_;refine KX ?_;refine AH (A7 rfl (S3 _ _)) rfl ?_;refine KX ?_;refine AO (Ht (cut q 5 5) (cut q 0 5) AD AD) Js ?_;refine AO (CB (A4 (cut p 5 5) (cut p 0 5)) (A4 (cut q 5 5) (cut q 0 5)) AD AD) By ?_;refine KR ?_;refine BJ ?_;refine FP ?_;have hQ8:(cut p 5 5).length=5:=AP
 have hQ9:(cut p 0 5).length=5:=AP
 have hQ10:(Ag (cut p 5 5) (cut p 0 5)).length=5:=AP
 have hQ11:(cut q 5 5).length=5:=AP
 have hQ12:(cut q 0 5).length=5:=AP
 have hQ13:(Ag (cut q 5 5) (cut q 0 5)).length=5:=AP
 have hQ14:(AL (Ag (cut p 5 5) (cut p 0 5)) (Ag (cut q 5 5) (cut q 0 5))).length=5:=AP
 refine S_ ?_;refine Hk ?_;refine AH (A7 rfl (Rk _ _)) rfl ?_;refine KX ?_;refine AH (A7 rfl (S3 _ _)) rfl ?_;refine KX ?_;refine AO (G3 (cut p 5 5) (cut p 0 5) AD AD) Im ?_;refine AH (A7 rfl (Rk _ _)) rfl ?_;refine KX ?_;refine AH (A7 rfl (S3 _ _)) rfl ?_;refine KX ?_;refine AO (G3 (cut q 5 5) (cut q 0 5) AD AD) Im ?_;refine AO (CB (Ag (cut p 5 5) (cut p 0 5)) (Ag (cut q 5 5) (cut q 0 5)) AD AD) By ?_;refine KR ?_;refine BJ ?_;refine FP ?_;have hQ15:(cut p 15 5).length=5:=AP
 have hQ16:(AL k (cut p 15 5)).length=5:=AP
 have hQ17:(cut q 15 5).length=5:=AP
 have hQ18:(AL (AL k (cut p 15 5)) (cut q 15 5)).length=5:=AP
 refine Iv ?_;refine Dq ?_;refine AH (A7 rfl (nH _ _)) rfl ?_;refine KX ?_;refine AO (CB k (cut p 15 5) AD AD) By ?_;refine AH (A7 rfl (nH _ _)) rfl ?_;refine KX ?_;refine AO (CB (AL k (cut p 15 5)) (cut q 15 5) AD AD) By ?_;refine KR ?_;refine BJ ?_;refine FP ?_;have hQ19:(cut p 10 5).length=5:=AP
 have hQ20:(Ag (cut p 10 5) (cut p 10 5)).length=5:=AP
 have hQ21:(cut q 10 5).length=5:=AP
 have hQ22:(AL (Ag (cut p 10 5) (cut p 10 5)) (cut q 10 5)).length=5:=AP
 refine S_ ?_;refine Q9 ?_;refine AH (A7 rfl (Vq _ _)) rfl ?_;refine KX ?_;refine AH (A7 rfl (Vq _ _)) rfl ?_;refine KX ?_;refine AO (G3 (cut p 10 5) (cut p 10 5) AD AD) Im ?_;refine AH (A7 rfl (Vq _ _)) rfl ?_;refine KX ?_;refine AO (CB (Ag (cut p 10 5) (cut p 10 5)) (cut q 10 5) AD AD) By ?_;refine KR ?_;refine BJ ?_;refine FP ?_;have hQ23:(A4 (AL (Ag (cut p 5 5) (cut p 0 5)) (Ag (cut q 5 5) (cut q 0 5))) (AL (A4 (cut p 5 5) (cut p 0 5)) (A4 (cut q 5 5) (cut q 0 5)))).length=5:=AP
 have hQ24:(A4 (AL (Ag (cut p 10 5) (cut p 10 5)) (cut q 10 5)) (AL (AL k (cut p 15 5)) (cut q 15 5))).length=5:=AP
 have hQ25:(Ag (AL (Ag (cut p 10 5) (cut p 10 5)) (cut q 10 5)) (AL (AL k (cut p 15 5)) (cut q 15 5))).length=5:=AP
 have hQ26:(Ag (AL (Ag (cut p 5 5) (cut p 0 5)) (Ag (cut q 5 5) (cut q 0 5))) (AL (A4 (cut p 5 5) (cut p 0 5)) (A4 (cut q 5 5) (cut q 0 5)))).length=5:=AP
 refine L2 ?_;refine DS ?_;refine AO (Ht (AL (Ag (cut p 5 5) (cut p 0 5)) (Ag (cut q 5 5) (cut q 0 5))) (AL (A4 (cut p 5 5) (cut p 0 5)) (A4 (cut q 5 5) (cut q 0 5))) AD AD) Js ?_;refine DS ?_;refine AO (Ht (AL (Ag (cut p 10 5) (cut p 10 5)) (cut q 10 5)) (AL (AL k (cut p 15 5)) (cut q 15 5)) AD AD) Js ?_;refine DS ?_;refine AO (G3 (AL (Ag (cut p 10 5) (cut p 10 5)) (cut q 10 5)) (AL (AL k (cut p 15 5)) (cut q 15 5)) AD AD) Im ?_;refine DS ?_;refine AO (G3 (AL (Ag (cut p 5 5) (cut p 0 5)) (Ag (cut q 5 5) (cut q 0 5))) (AL (A4 (cut p 5 5) (cut p 0 5)) (A4 (cut q 5 5) (cut q 0 5))) AD AD) Im ?_;refine KR ?_;refine KR ?_;refine KR ?_;refine KR ?_;refine Is ?_;refine JL ?_;refine JL ?_;refine FP ?_;have hQ27:(AL (A4 (AL (Ag (cut p 5 5) (cut p 0 5)) (Ag (cut q 5 5) (cut q 0 5))) (AL (A4 (cut p 5 5) (cut p 0 5)) (A4 (cut q 5 5) (cut q 0 5)))) (A4 (AL (Ag (cut p 10 5) (cut p 10 5)) (cut q 10 5)) (AL (AL k (cut p 15 5)) (cut q 15 5)))).length=5:=AP
 have hQ28:(AL (Ag (AL (Ag (cut p 10 5) (cut p 10 5)) (cut q 10 5)) (AL (AL k (cut p 15 5)) (cut q 15 5))) (Ag (AL (Ag (cut p 5 5) (cut p 0 5)) (Ag (cut q 5 5) (cut q 0 5))) (AL (A4 (cut p 5 5) (cut p 0 5)) (A4 (cut q 5 5) (cut q 0 5))))).length=5:=AP
 have hQ29:(AL (A4 (AL (Ag (cut p 10 5) (cut p 10 5)) (cut q 10 5)) (AL (AL k (cut p 15 5)) (cut q 15 5))) (Ag (AL (Ag (cut p 10 5) (cut p 10 5)) (cut q 10 5)) (AL (AL k (cut p 15 5)) (cut q 15 5)))).length=5:=AP
 have hQ30:(AL (A4 (AL (Ag (cut p 5 5) (cut p 0 5)) (Ag (cut q 5 5) (cut q 0 5))) (AL (A4 (cut p 5 5) (cut p 0 5)) (A4 (cut q 5 5) (cut q 0 5)))) (Ag (AL (Ag (cut p 5 5) (cut p 0 5)) (Ag (cut q 5 5) (cut q 0 5))) (AL (A4 (cut p 5 5) (cut p 0 5)) (A4 (cut q 5 5) (cut q 0 5))))).length=5:=AP
 refine UJ ?_;refine DS ?_;refine AO (CB (A4 (AL (Ag (cut p 5 5) (cut p 0 5)) (Ag (cut q 5 5) (cut q 0 5))) (AL (A4 (cut p 5 5) (cut p 0 5)) (A4 (cut q 5 5) (cut q 0 5)))) (A4 (AL (Ag (cut p 10 5) (cut p 10 5)) (cut q 10 5)) (AL (AL k (cut p 15 5)) (cut q 15 5))) AD AD) By ?_;refine DS ?_;refine AO (CB (Ag (AL (Ag (cut p 10 5) (cut p 10 5)) (cut q 10 5)) (AL (AL k (cut p 15 5)) (cut q 15 5))) (Ag (AL (Ag (cut p 5 5) (cut p 0 5)) (Ag (cut q 5 5) (cut q 0 5))) (AL (A4 (cut p 5 5) (cut p 0 5)) (A4 (cut q 5 5) (cut q 0 5)))) AD AD) By ?_;refine DS ?_;refine AO (CB (A4 (AL (Ag (cut p 10 5) (cut p 10 5)) (cut q 10 5)) (AL (AL k (cut p 15 5)) (cut q 15 5))) (Ag (AL (Ag (cut p 10 5) (cut p 10 5)) (cut q 10 5)) (AL (AL k (cut p 15 5)) (cut q 15 5))) AD AD) By ?_;refine DS ?_;refine AO (CB (A4 (AL (Ag (cut p 5 5) (cut p 0 5)) (Ag (cut q 5 5) (cut q 0 5))) (AL (A4 (cut p 5 5) (cut p 0 5)) (A4 (cut q 5 5) (cut q 0 5)))) (Ag (AL (Ag (cut p 5 5) (cut p 0 5)) (Ag (cut q 5 5) (cut q 0 5))) (AL (A4 (cut p 5 5) (cut p 0 5)) (A4 (cut q 5 5) (cut q 0 5)))) AD AD) By ?_;refine oO ?_;refine BJ ?_;refine Gb ?_;refine Ar ?_;rw [hP.out]
 exact cz
@[simp] theorem AHT(p q k:AA 64)(hp:p.length=20)(hq:q.length=20)(hk:k.length=5):(Dd p q k).length=20:=by
 unfold Dd
 (simp (maxDischargeDepth:=9) [*];done)
attribute [irreducible] Dd
def PM(p q:AA 64):AA 64:=Dd p q (Ag Ad Ad)
theorem yv(p q:AA 64)(hp:p.length=20)(hq:q.length=20):Ev prog (.call 131 [Aw (p),Aw (q)] []) (.val (Aw (PM p q)) []):=by
 have hP:=Hid.mk (PM.eq_1 p q)
 refine AI func131 rfl ntmps131 rfl AM ?_;refine BO ?_;refine HI ?_;refine AR ?_;have hQ1:(Ad).length=5:=AP
 have hQ2:(Ag Ad Ad).length=5:=AP
 have hQ3:(Dd p q (Ag Ad Ad)).length=20:=AP
 refine S_ ?_;refine SU ?_;refine AH (A9 rfl rfl Vc W5 B7 D_) rfl ?_;refine AH (A9 rfl rfl Vc W5 B7 D_) rfl ?_;refine AO (JH) SI ?_;refine AO (JH) SI ?_;refine AO (G3 Ad Ad AD AD) Im ?_;refine AO (XK p q (Ag Ad Ad) AD AD AD) oN ?_;refine BJ ?_;refine Gb ?_;refine Ar ?_;rw [hP.out]
 exact cz
@[simp] theorem AH1(p q:AA 64)(hp:p.length=20)(hq:q.length=20):(PM p q).length=20:=by
 unfold PM
 (simp (maxDischargeDepth:=9) [*];done)
attribute [irreducible] PM
def Mb(n:AA 8)(p X4:AA 64)(j3:Nat):AA 64:=(if ((((nth n ((255-j3)/8))>>>((255-j3)%8))&&&1#8)==1#8)=true then Dd (Dd X4 X4 (Ag Ad Ad)) p (Ag Ad Ad) else Dd X4 X4 (Ag Ad Ad))
def DB(n:AA 8)(p:AA 64):Nat→AA 64
 |0=>Oy
 |j3+1=>Mb n p (DB n p j3) j3
theorem M6(n:AA 8)(p:AA 64)(_hn:n.length=32)(hp:p.length=20)(j3:Nat):(DB n p j3).length=20:=by
 induction j3 with
 |zero=>(simp (maxDischargeDepth:=9) [DB, *];done)
 |succ j3 ih=>rw [DB.eq_2,Mb];(split<;>first | (simp (maxDischargeDepth:=9) [ih];done) | (simp (maxDischargeDepth:=9) [ih];omega) | (simp (maxDischargeDepth:=9) [*];done))
def Fc(n:AA 8)(p:AA 64):AA 64:=(DB n p 256)
theorem QI(k:r)(h:Hid r→g:=by intro h;refine AB (A9 rfl rfl Vc W5 B7 D_) rfl ?_;exact h.out):g:=h ⟨k⟩
theorem cM(n:AA 8)(p:AA 64)(hn:n.length=32)(hp:p.length=20):Ev prog (.call 127 [BM (n),Aw (p)] []) (.val (Aw (Fc n p)) []):=by
 have hP:=Hid.mk (Fc.eq_1 n p)
 refine AI func127 rfl ntmps127 rfl AM ?_;refine BO ?_;refine HI ?_;refine AR ?_;have hQ1:(Oy).length=20:=AP
 have hQ2:(Ad).length=5:=AP
 have hQ3:(Ag Ad Ad).length=5:=AP
 refine Ab ?_;refine Ae (th) AGS ?_;refine Ae (JH) SI ?_;refine Ae (JH) SI ?_;refine Ae (G3 Ad Ad AD AD) Im ?_;refine HI ?_;refine EH ?_;refine Gb ?_;refine JL ?_;refine B0 ?_;refine AK [2,3,4,5,6,7] (fun (zz:Nat×AA 64)=>⟨34,AU [2,3,4,5,6,7] [AY 0,AY 1,AY 2,AY 3,AY 4,At (((255:Nat):Int)-((zz.1:Nat):Int))],[BP (n),Bb (p),Bb (AC 20),Bb (zz.2),Bb (Ag Ad Ad)]⟩) (fun j3=>(j3,DB n p j3)) (256) K_ ?_ ?_
 ·intro j3 hj3
  try dsimp only
  have hX4:(DB n p j3).length=20:=by rw [M6 n p hn hp _];try omega
  rw [DB.eq_2,Mb]
  generalize DB n p j3=X4 at*
  rw [show ((255:Nat):Int)-((j3:Nat):Int)=((255-j3:Nat):Int) from by omega]
  refine PH ?_;refine AR ?_;have hQ5:(Dd X4 X4 (Ag Ad Ad)).length=20:=AP
  refine Ab ?_;refine QI ?_;refine QI ?_;refine IOq ?_;refine Ae (XK X4 X4 (Ag Ad Ad) AD AD AD) oN ?_;refine Gb ?_;refine Ak ?_;refine Oo ?_;refine O2 ?_;refine GA ?_;refine AX ?_;refine Qi ?_;refine AB (Vu rfl rfl) rfl ?_;refine AB (OH (b:=1#8) rfl rfl) rfl ?_;refine Xt ?_;refine EA ?_;refine Eb [2,3,4,5,6,7] (fun (zz:AA 64)=>⟨34,AU [2,3,4,5,6,7] [AY 0,AY 1,AY 2,AY 3,AY 4,At (((255-j3:Nat):Int))],[BP (n),Bb (p),Bb (AC 20),Bb (zz),Bb (Ag Ad Ad)]⟩) (if ((((nth n ((255-j3)/8))>>>((255-j3)%8))&&&1#8)==1#8)=true then Dd (Dd X4 X4 (Ag Ad Ad)) p (Ag Ad Ad) else Dd X4 X4 (Ag Ad Ad)) rfl (fun hb=>?_) (fun hb=>?_) ?_
  ·have hQ7:(Dd (Dd X4 X4 (Ag Ad Ad)) p (Ag Ad Ad)).length=20:=AP
   refine Ab ?_;refine QI ?_;refine QI ?_;refine IOq ?_;refine Ae (XK (Dd X4 X4 (Ag Ad Ad)) p (Ag Ad Ad) AD AD AD) oN ?_;refine Gb ?_;refine Ar ?_;refine ⟨(Dd (Dd X4 X4 (Ag Ad Ad)) p (Ag Ad Ad)),K_,?_⟩
   rw [if_pos (hb)]
  ·refine S_ ?_
   refine ⟨(Dd X4 X4 (Ag Ad Ad)),K_,?_⟩
   rw [if_neg (by (rw [hb];decide))]
  have hJ6:(if ((((nth n ((255-j3)/8))>>>((255-j3)%8))&&&1#8)==1#8)=true then Dd (Dd X4 X4 (Ag Ad Ad)) p (Ag Ad Ad) else Dd X4 X4 (Ag Ad Ad)).length=20:=by split<;>simp [*]
  generalize (if ((((nth n ((255-j3)/8))>>>((255-j3)%8))&&&1#8)==1#8)=true then Dd (Dd X4 X4 (Ag Ad Ad)) p (Ag Ad Ad) else Dd X4 X4 (Ag Ad Ad))=J6 at*
  refine A1 ?_;refine PE ?_;refine ⟨(j3+1,_),(by
   dsimp only
   rw [show ((255:Nat):Int)-((j3+1:Nat):Int)=((255-j3:Nat):Int)-1 from by omega]
   kernel_rfl),rfl⟩
 ·try dsimp only
  have hY8:(DB n p 256).length=20:=by rw [M6 n p hn hp _];try omega
  generalize DB n p 256=Y8 at*
  refine RU ?_;refine AZ ?_;refine QI ?_;refine Gb ?_;refine Ar ?_;rw [hP.out]
  exact cz
@[simp] theorem ADf(n:AA 8)(p:AA 64)(hn:n.length=32)(hp:p.length=20):(Fc n p).length=20:=by
 unfold Fc
 (simp (maxDischargeDepth:=9) [M6, *];done)
attribute [irreducible] Fc
def Rz(X1:AA 8)(j3:Nat):AA 8:=put X1 (1+j3) 102#8
def FZ:Nat→AA 8
 |0=>put (Ac 32) 0 88#8
 |j3+1=>Rz (FZ j3) j3
@[simp] theorem Ot  (j3:Nat):(FZ j3).length=32:=by
 induction j3 with
 |zero=>(simp (maxDischargeDepth:=9) [FZ, *];done)
 |succ j3 ih=>rw [FZ.eq_2,Rz];(simp (maxDischargeDepth:=9) [ih];done)
def KJ:AA 64:=Nr (FZ 31)
theorem tz:Ev prog (.call 132 [] []) (.val (Aw (KJ)) []):=by
 have hP:=Hid.mk (KJ.eq_1)
 refine AI func132 rfl ntmps132 rfl AM ?_;refine Ab ?_;refine HI ?_;refine AZ ?_;refine AB (nw (l:=(put (Ac 32) 0 (88#8))) AEQ underlying37 Bt rfl rfl) rfl ?_;refine Gf ?_;refine B0 ?_;refine AK [0,1,2] (fun (zz:Nat×AA 8)=>⟨18,AU [0,1,2] [AY 0,AY 1,At (((1+zz.1:Nat):Int))],[Bb (AC 20),BP (zz.2)]⟩) (fun j3=>(j3,FZ j3)) (31) K_ ?_ ?_
 ·intro j3 hj3
  try dsimp only
  have hX1:(FZ j3).length=32:=by rw [Ot _];try omega
  rw [FZ.eq_2,Rz]
  generalize FZ j3=X1 at*
  refine A1 ?_;refine Oi ?_;refine Ak ?_;refine O2 ?_;refine cD (w:=102#8) rfl rfl rfl Bt EO AT ?_;refine Cc ?_;exact ⟨(j3+1,_),K_,rfl⟩
 ·try dsimp only
  have hY2:(FZ 31).length=32:=by rw [Ot _];try omega
  generalize FZ 31=Y2 at*
  refine A1 ?_;refine Pu ?_;refine AR ?_;have hQ3:(Nr Y2).length=20:=AP
  refine Bg ?_;refine Ae (dB Y2 AD) Ug ?_;refine Ch ?_;refine HI ?_;refine Gb ?_;refine Ai ?_;refine QI ?_;refine Gb ?_;refine Ar ?_;rw [hP.out]
  exact cz
@[simp] theorem AGt:(KJ).length=20:=by
 unfold KJ
 (simp (maxDischargeDepth:=9) [Ot, *];done)
attribute [irreducible] KJ
def E6(p:AA 64):AA 8:=(if (((nth (Aa (AL (cut p 0 5) (Cb (cut p 10 5)))) 0)&&&1#8)==1#8)=true then put (Aa (AL (cut p 5 5) (Cb (cut p 10 5)))) 31 ((nth (Aa (AL (cut p 5 5) (Cb (cut p 10 5)))) 31) ||| 128#8) else Aa (AL (cut p 5 5) (Cb (cut p 10 5))))
theorem pU(k:r)(h:Hid r→g:=by intro h;refine AB (Tc rfl rfl H7 HF Wg D_) rfl ?_;exact h.out):g:=h ⟨k⟩
theorem S7(p:AA 64)(hp:p.length=20):Ev prog (.call 128 [Aw (p)] []) (.val (BM (E6 p)) []):=by
 have hP:=Hid.mk (E6.eq_1 p)
 refine AI func128 rfl ntmps128 rfl AM ?_;refine BA ?_;refine Lh ?_;have hQ1:(cut p 10 5).length=5:=AP
 have hQ2:(Cb (cut p 10 5)).length=5:=AP
 refine Ab ?_;refine AB (A7 rfl (Vq _ _)) rfl ?_;refine pU ?_;refine Ae (PD (cut p 10 5) AD) Xx ?_;refine EH ?_;refine FP ?_;have hQ3:(cut p 5 5).length=5:=AP
 have hQ4:(AL (cut p 5 5) (Cb (cut p 10 5))).length=5:=AP
 have hQ5:(Aa (AL (cut p 5 5) (Cb (cut p 10 5)))).length=32:=AP
 refine Ab ?_;refine AB (A7 rfl (Rk _ _)) rfl ?_;refine pU ?_;refine IOq ?_;refine Ae (CB (cut p 5 5) (Cb (cut p 10 5)) AD AD) By ?_;refine Ae (Fq (AL (cut p 5 5) (Cb (cut p 10 5))) AD) O9 ?_;refine Gf ?_;refine AR ?_;have hQ6:(cut p 0 5).length=5:=AP
 have hQ7:(AL (cut p 0 5) (Cb (cut p 10 5))).length=5:=AP
 refine Ab ?_;refine AB (A7 rfl (S3 _ _)) rfl ?_;refine pU ?_;refine IOq ?_;refine Ae (CB (cut p 0 5) (Cb (cut p 10 5)) AD AD) By ?_;refine Ae (bF (AL (cut p 0 5) (Cb (cut p 10 5))) AD) nm ?_;refine EA ?_;refine Eb [2,4] (fun (zz:AA 8)=>⟨23,AU [2,4] [AY 0,AY 1],[BP (Ac 32),BP (zz)]⟩) (if (((nth (Aa (AL (cut p 0 5) (Cb (cut p 10 5)))) 0)&&&1#8)==1#8)=true then put (Aa (AL (cut p 5 5) (Cb (cut p 10 5)))) 31 ((nth (Aa (AL (cut p 5 5) (Cb (cut p 10 5)))) 31) ||| 128#8) else Aa (AL (cut p 5 5) (Cb (cut p 10 5)))) rfl (fun hb=>?_) (fun hb=>?_) ?_
 ·refine S_ ?_
  refine A2 ?_;refine Km ?_;refine AB (cG (b:=128#8) rfl rfl) rfl ?_;refine qO ?_;refine Ct ?_;refine Ar ?_;refine ⟨(put (Aa (AL (cut p 5 5) (Cb (cut p 10 5)))) 31 ((nth (Aa (AL (cut p 5 5) (Cb (cut p 10 5)))) 31) ||| 128#8)),K_,?_⟩
  rw [if_pos (hb)]
 ·refine S_ ?_
  refine ⟨(Aa (AL (cut p 5 5) (Cb (cut p 10 5)))),K_,?_⟩
  rw [if_neg (by (rw [hb];decide))]
 have hJ8:(if (((nth (Aa (AL (cut p 0 5) (Cb (cut p 10 5)))) 0)&&&1#8)==1#8)=true then put (Aa (AL (cut p 5 5) (Cb (cut p 10 5)))) 31 ((nth (Aa (AL (cut p 5 5) (Cb (cut p 10 5)))) 31) ||| 128#8) else Aa (AL (cut p 5 5) (Cb (cut p 10 5)))).length=32:=by split<;>simp [*]
 generalize (if (((nth (Aa (AL (cut p 0 5) (Cb (cut p 10 5)))) 0)&&&1#8)==1#8)=true then put (Aa (AL (cut p 5 5) (Cb (cut p 10 5)))) 31 ((nth (Aa (AL (cut p 5 5) (Cb (cut p 10 5)))) 31) ||| 128#8) else Aa (AL (cut p 5 5) (Cb (cut p 10 5))))=J8 at*
 refine Bg ?_;refine GH ?_;rw [hP.out]
 exact Ec
@[simp] theorem ACe(p:AA 64)(hp:p.length=20):(E6 p).length=32:=by
 unfold E6
 (split<;>(simp (maxDischargeDepth:=9) [*];done))
attribute [irreducible] E6
def F4(p q:AA 8):AA 8:=E6 (PM (Nr p) (Nr q))
theorem QJ(k:r)(h:Hid r→g:=by intro h;refine AB (MW rfl) rfl ?_;refine AB (Bj rfl rfl) rfl ?_;exact h.out):g:=h ⟨k⟩
theorem uR(p q:AA 8)(hp:p.length=32)(hq:q.length=32)(hk:CP p=true)(hq_:CP q=true):Ev prog (.call 93 [BM (p),BM (q)] []) (.val (.tup [BM (F4 p q),At ((0:Nat):Int)]) []):=by
 have hP_cvAddT0:Hid (F4 p q=E6 (PM (Nr p) (Nr q))):=⟨rfl⟩
 refine AI func93 rfl ntmps93 rfl AM ?_;refine BO ?_;refine Dr ?_;refine BZ ?_;have hQ2:(Nr p).length=20:=AP
 have hE1:(CP p)=true:=hk
 refine Bg ?_;refine Ae (dB p AD) Ug ?_;refine QJ ?_;refine AB (C6 (Bj rfl rfl) hE1) rfl ?_;refine HI ?_;refine Gb ?_;refine BZ ?_;have hQ4:(Nr q).length=20:=AP
 have hE3:(CP q)=true:=hq_
 refine Bg ?_;refine Ae (dB q AD) Ug ?_;refine QJ ?_;refine AB (C6 (Bj rfl rfl) hE3) rfl ?_;refine HI ?_;refine Gb ?_;refine BF ?_;refine FN ?_;refine Ip ?_;refine FN ?_;refine SJ ?_;have hQ5:(PM (Nr p) (Nr q)).length=20:=AP
 have hQ6:(E6 (PM (Nr p) (Nr q))).length=32:=AP
 refine Ab ?_;refine QI ?_;refine QI ?_;refine Ae (yv (Nr p) (Nr q) AD AD) AF0 ?_;refine Ae (S7 (PM (Nr p) (Nr q)) AD) pD ?_;refine Gr ?_;refine Al ?_;rw [hP_cvAddT0.out]
 exact Ll
@[simp] theorem ADt(p q:AA 8)(hp:p.length=32)(hq:q.length=32):(F4 p q).length=32:=by
 unfold F4
 (simp (maxDischargeDepth:=9) [*];done)
attribute [irreducible] F4
def TV:AA 8:=Ac 32
theorem Wh(k:r)(h:Hid r→g:=by intro h;refine AB (nw (l:=(Ac 32)) AEQ underlying37 Bt rfl rfl) rfl ?_;exact h.out):g:=h ⟨k⟩
theorem tZ(p q:AA 8)(hp:p.length=32)(hq:q.length=32)(hk:CP p=false):Ev prog (.call 93 [BM (p),BM (q)] []) (.val (.tup [BM (TV),At ((4:Nat):Int)]) []):=by
 have hP_cvAddN0:Hid (TV=Ac 32):=⟨rfl⟩
 refine AI func93 rfl ntmps93 rfl AM ?_;refine BO ?_;refine Dr ?_;refine BZ ?_;have hQ2:(Nr p).length=20:=AP
 have hE1:(CP p)=false:=hk
 refine Bg ?_;refine Ae (dB p AD) Ug ?_;refine QJ ?_;refine AB (C6 (Bj rfl rfl) hE1) rfl ?_;refine HI ?_;refine Gb ?_;refine BZ ?_;have hQ3:(Nr q).length=20:=AP
 refine Bg ?_;refine Ae (dB q AD) Ug ?_;refine Ch ?_;refine HI ?_;refine Gb ?_;refine BF ?_;refine FN ?_;refine AX ?_;refine SZ ?_;refine HZ ?_;refine AZ ?_;refine Wh ?_;refine Gr ?_;refine Al ?_;rw [hP_cvAddN0.out]
 exact Ll
@[simp] theorem ADP:(TV).length=32:=by
 unfold TV
 (simp (maxDischargeDepth:=9) [*];done)
attribute [irreducible] TV
def Dc(n p:AA 8):AA 8:=E6 (Fc n (Nr p))
theorem et(n p:AA 8)(hn:n.length=32)(hp:p.length=32)(hk:CP p=true):Ev prog (.call 91 [BM (n),BM (p)] []) (.val (.tup [BM (Dc n p),At ((0:Nat):Int)]) []):=by
 have hP_cvTmsT0:Hid (Dc n p=E6 (Fc n (Nr p))):=⟨rfl⟩
 refine AI func91 rfl ntmps91 rfl AM ?_;refine BO ?_;refine Dr ?_;refine BZ ?_;have hQ2:(Nr p).length=20:=AP
 have hE1:(CP p)=true:=hk
 refine Bg ?_;refine Ae (dB p AD) Ug ?_;refine QJ ?_;refine AB (C6 (Bj rfl rfl) hE1) rfl ?_;refine HI ?_;refine Gb ?_;refine BF ?_;refine UA ?_;have hQ3:(Fc n (Nr p)).length=20:=AP
 have hQ4:(E6 (Fc n (Nr p))).length=32:=AP
 refine Bg ?_;refine QI ?_;refine Ae (cM n (Nr p) AD AD) ABE ?_;refine Ae (S7 (Fc n (Nr p)) AD) pD ?_;refine Gr ?_;refine Al ?_;rw [hP_cvTmsT0.out]
 exact Ll
@[simp] theorem AD7(n p:AA 8)(hn:n.length=32)(hp:p.length=32):(Dc n p).length=32:=by
 unfold Dc
 (simp (maxDischargeDepth:=9) [*];done)
attribute [irreducible] Dc
def To:AA 8:=Ac 32
theorem uS(n p:AA 8)(_hn:n.length=32)(hp:p.length=32)(hk:CP p=false):Ev prog (.call 91 [BM (n),BM (p)] []) (.val (.tup [BM (To),At ((4:Nat):Int)]) []):=by
 have hP_cvTmsF0:Hid (To=Ac 32):=⟨rfl⟩
 refine AI func91 rfl ntmps91 rfl AM ?_;refine BO ?_;refine Dr ?_;refine BZ ?_;have hQ2:(Nr p).length=20:=AP
 have hE1:(CP p)=false:=hk
 refine Bg ?_;refine Ae (dB p AD) Ug ?_;refine QJ ?_;refine AB (C6 (Bj rfl rfl) hE1) rfl ?_;refine HI ?_;refine Gb ?_;refine BF ?_;refine FN ?_;refine AZ ?_;refine Wh ?_;refine Gr ?_;refine Al ?_;rw [hP_cvTmsF0.out]
 exact Ll
@[simp] theorem ADY:(To).length=32:=by
 unfold To
 (simp (maxDischargeDepth:=9) [*];done)
attribute [irreducible] To
def yG(n:AA 8):AA 8:=E6 (Fc n KJ)
theorem AC0(n:AA 8)(hn:n.length=32):Ev prog (.call 94 [BM (n)] []) (.val (BM (yG n)) []):=by
 have hP:=Hid.mk (yG.eq_1 n)
 refine AI func94 rfl ntmps94 rfl AM ?_;refine BA ?_;refine Lh ?_;have hQ1:(KJ).length=20:=AP
 have hQ2:(Fc n KJ).length=20:=AP
 have hQ3:(E6 (Fc n KJ)).length=32:=AP
 refine IL ?_;refine Cn ?_;refine AO (tz) AGl ?_;refine AO (cM n KJ AD AD) ABE ?_;refine AO (S7 (Fc n KJ) AD) pD ?_;refine BJ ?_;refine GH ?_;rw [hP.out]
 exact Ec
attribute [irreducible] yG
def rB(n:AA 64):AA 8:=kI (wV n)
@[simp] theorem AK6(n:AA 64):(rB n).length=32:=N1 _
theorem ADF(n:AA 64):Vp n=rB n:=by
 unfold Vp rB
 refine XS n (D8 n) rfl fun j=>?_
 rw [D8,MT,BitVec.toNat_ofNat,Nat.mod_eq_of_lt O_]
theorem tM(n:AA 64)(hn:n.length=4):Ev prog (.call 87 [Aw n] []) (.val (BM (rB n)) []):=by
 rw [←ADF];exact qc n hn
attribute [irreducible] rB
theorem zs1:zf (1#64:BitVec 64).toNat=1:=rfl
theorem ba(u:Fp):RR u*RR u=u*u:=by
 unfold RR
 split
 ·grobner
 ·rfl
theorem cJ(u:Fp):(RR u).val%2=0:=by
 unfold RR
 split
 ·rename_i h
  have hlt:=u.isLt
  have e:(0-u).val=PP-u.val:=by
   rw [Fin.sub_def]
   show (PP-u.val+0)%PP=_
   have hp:0<u.val:=by omega
   rw [Nat.add_zero,Nat.mod_eq_of_lt (Nat.sub_lt D_ hp)]
  rw [e]
  show (57896044618658097711785492504343953926634992332820282019728792003956564819949-u.val)%2=0
  omega
 ·omega
theorem yF(u:Fp):RR u=u∨RR u= -u:=by
 unfold RR
 split
 ·exact .inr (by grobner)
 ·exact .inl rfl
theorem lx(b:AA 8)(i:Nat)(v:BitVec 8)(n:Nat)(h:n≤i)(hl:i<b.length):Gt (put b i v) n=Gt b n:=by
 induction n with
 |zero=>rfl
 |succ n ih=>rw [Gt,Gt,ih O_,CD _ _ _ _ hl,if_neg O_]
theorem ed{b:AA 8}(hb:b.length=32)(v:BitVec 8):Gt (put b 31 v) 32=Gt b 31+v.toNat*452312848583266388373324160190187140051835877600158453279131187530910662656:=by
 rw [Gt,lx _ _ _ _ (Nat.le_refl _) O_,CD _ _ _ _ O_,if_pos rfl]
theorem ZE(b:AA 8):Gt b 32=Gt b 31+(nth b 31).toNat*452312848583266388373324160190187140051835877600158453279131187530910662656:=by rw [Gt]
theorem cF(b:AA 8):Gt b 31<452312848583266388373324160190187140051835877600158453279131187530910662656:=Rq b 31
theorem AHH(x:BitVec 8):(x&&&127#8).toNat=x.toNat%128:=by revert x;decide+kernel
theorem AIv(x:BitVec 8):(x>>>7==1#8)=decide (128≤x.toNat):=by revert x;decide+kernel
theorem AJz(x:BitVec 8)(h:x.toNat<128):(x ||| 128#8).toNat=x.toNat+128:=by revert x;decide+kernel
abbrev MM:Nat:=57896044618658097711785492504343953926634992332820282019728792003956564819968
theorem gN{b:AA 8}(hb:b.length=32):Gt (put b 31 (nth b 31&&&127#8)) 32=Gt b 32%MM:=by
 rw [ed hb,ZE b,AHH]
 have h:=cF b
 show _=_%57896044618658097711785492504343953926634992332820282019728792003956564819968
 omega
theorem ADB(b:AA 8):(nth b 31>>>7==1#8)=decide (MM≤Gt b 32):=by
 rw [AIv,ZE b]
 have h:=cF b
 refine decide_eq_decide.2 ?_;show _↔57896044618658097711785492504343953926634992332820282019728792003956564819968≤_
 omega
theorem yf{b:AA 8}(hb:b.length=32)(hv:Gt b 32<MM):Gt (put b 31 (nth b 31 ||| 128#8)) 32=Gt b 32+MM:=by
 have h:=cF b
 rw [ed hb,ZE b]
 rw [ZE b] at hv
 change _<57896044618658097711785492504343953926634992332820282019728792003956564819968 at hv
 rw [AJz _ O_]
 show _=_+57896044618658097711785492504343953926634992332820282019728792003956564819968
 omega
theorem gM{u:Fp}(hu:u≠0):(-u).val%2=1-u.val%2:=by
 have hp:0<u.val:=by
  rcases Nat.eq_zero_or_pos u.val with h | h
  ·exact absurd (Fin.ext h) hu
  ·exact h
 have hlt:=u.isLt
 have e:(-u).val=PP-u.val:=by
  rw [show-u=0-u from by grobner,Fin.sub_def]
  show (PP-u.val+0)%PP=_
  rw [Nat.add_zero,Nat.mod_eq_of_lt (Nat.sub_lt D_ hp)]
 rw [e]
 change u.val<57896044618658097711785492504343953926634992332820282019728792003956564819949 at hlt
 show (57896044618658097711785492504343953926634992332820282019728792003956564819949-u.val)%2=_
 omega
theorem rK(u:Fp): -u* -u=u*u:=by grobner
theorem we: -(0:Fp)=0:=by grobner
theorem pJ{u v:Fp}(h:u*u=v*v)(hp:u.val%2=v.val%2):u=v:=by
 rcases AEV h with h1 | h1
 ·exact h1
 ·by_cases hv:v=0
  ·rw [h1,hv,we]
  ·have:=gM hv
   rw [←h1] at this
   omega
structure Ua where
 p:Pt
 on:On p
theorem Ua.same{P Q:Ua}(h:P.p=Q.p):P=Q:=by
 cases P;cases Q;cases h;rfl
def AE5(P Q:Ua):Ua:=⟨MX P.p Q.p,W9 P.on Q.on⟩
def ABU(P:Ua)(n:Nat):Ua:=⟨dV P.p n,bH P.on n⟩
def Yb:Ua:=⟨pB_,ABy⟩
def Re(P:Ua):Nat:=P.p.y.val+P.p.x.val%2*MM
def enc(P:Ua):AA 8:=kI (Re P)
@[simp] theorem gt(P:Ua):(enc P).length=32:=N1 _
theorem Ku(P:Ua):Re P<115792089237316195423570985008687907853269984665640564039457584007913129639936∧Re P%MM=P.p.y.val∧(MM≤Re P↔P.p.x.val%2=1):=by
 have h:=P.p.y.isLt
 unfold Re
 change _<57896044618658097711785492504343953926634992332820282019728792003956564819949 at h
 change _+_*57896044618658097711785492504343953926634992332820282019728792003956564819968<_∧(_+_*57896044618658097711785492504343953926634992332820282019728792003956564819968)%57896044618658097711785492504343953926634992332820282019728792003956564819968=_∧(57896044618658097711785492504343953926634992332820282019728792003956564819968≤_+_*57896044618658097711785492504343953926634992332820282019728792003956564819968↔_)
 omega
theorem Vn(P:Ua):Gt (enc P) 32=Re P:=by
 unfold enc
 rw [We _ _ (Nat.le_refl _),Nat.mod_eq_of_lt]
 exact (Ku P).1
theorem Zy{b:AA 8}(hb:b.length=32){P:Ua}(h:Re P=Gt b 32):enc P=b:=by
 unfold enc
 rw [h,rc hb]
def Lz(y:Fp):Fp:=(y*y-1)*Gi (dF*(y*y)+1)
theorem em(P:Ua):P.p.x*P.p.x=Lz P.p.y:=(xg _ _).1 P.on
theorem AJU{x y:Fp}(h:x*x=Lz y):On ⟨x,y⟩:=(xg _ _).2 h
theorem ABj{P Q:Ua}(h:Re P=Re Q):P=Q:=by
 obtain ⟨_,y1,b1⟩:=Ku P
 obtain ⟨_,y2,b2⟩:=Ku Q
 rw [h] at y1 b1
 have hy:P.p.y=Q.p.y:=Fin.ext (y1.symm.trans y2)
 have hx:P.p.x=Q.p.x:=by
  refine pJ (by rw [em,em,hy]) ?_
  have:=Nat.mod_two_eq_zero_or_one P.p.x.val
  have:=Nat.mod_two_eq_zero_or_one Q.p.x.val
  have:=b1.symm.trans b2
  omega
 refine Ua.same ?_
 cases hp:P.p
 cases hq:Q.p
 rw [hp,hq] at hx hy
 simp only at hx hy
 rw [hx,hy]
theorem AHI{P Q:Ua}:enc P=enc Q↔P=Q:=⟨fun h=>ABj (by rw [←Vn,h,Vn]),fun h=>by rw [h]⟩
def dOk(n:Nat):Bool:=decide (n%MM<PP)&&(decide (D9 (Lz (zf (n%MM)))*D9 (Lz (zf (n%MM)))=Lz (zf (n%MM)))&& !(decide (MM≤n)&&decide (D9 (Lz (zf (n%MM)))=0)))
def dX(n:Nat):Fp:=if (D9 (Lz (zf (n%MM)))).val%2=n/MM then D9 (Lz (zf (n%MM))) else-D9 (Lz (zf (n%MM)))
theorem ADI(P:Ua):dOk (Re P)=true:=by
 obtain ⟨h1,h2,h3⟩:=Ku P
 unfold dOk
 rw [h2,HQ,←em,decide_eq_true P.p.y.isLt,decide_eq_true (nD _),Bool.true_and,Bool.true_and,Bool.not_eq_true',Bool.and_eq_false_iff]
 by_cases ho:MM≤Re P
 ·refine .inr (decide_eq_false fun h0=>?_)
  have hx:P.p.x*P.p.x=0:=by rw [←nD P.p.x,h0];exact Mj _
  have hx0:P.p.x=0:=by rcases XD hx with h | h<;>exact h
  have:=h3.1 ho
  rw [hx0] at this
  change 0%2=1 at this
  omega
 ·exact .inl (decide_eq_false ho)
theorem AFD{n:Nat}(hn:n<115792089237316195423570985008687907853269984665640564039457584007913129639936)(h:dOk n=true):∃P:Ua,Re P=n∧P.p.y=zf (n%MM)∧P.p.x=dX n:=by
 unfold dOk at h
 simp only [Bool.and_eq_true,Bool.not_eq_true',Bool.and_eq_false_iff,decide_eq_true_eq,decide_eq_false_iff_not] at h
 obtain ⟨hy,hr,ho⟩:=h
 have hd:n/MM≤1:=by
  show n/57896044618658097711785492504343953926634992332820282019728792003956564819968≤1
  omega
 have hm:MM≤n↔n/MM=1:=by
  show 57896044618658097711785492504343953926634992332820282019728792003956564819968≤n↔n/57896044618658097711785492504343953926634992332820282019728792003956564819968=1
  omega
 have hs:dX n*dX n=Lz (zf (n%MM)):=by
  rw [←hr]
  unfold dX
  split
  ·rfl
  ·exact rK _
 have hp:(dX n).val%2=n/MM:=by
  unfold dX
  split
  ·assumption
  ·rename_i hc
   have h2:=Nat.mod_two_eq_zero_or_one (D9 (Lz (zf (n%MM)))).val
   have hne:D9 (Lz (zf (n%MM)))≠0:=fun e=>by
    rcases ho with h | h
    ·rw [e] at hc
     change ¬0%2=n/MM at hc
     rw [hm] at h
     generalize n/MM=q at*
     omega
    ·exact h e
   rw [gM hne]
   generalize n/MM=q at*
   omega
 refine ⟨⟨⟨dX n,zf (n%MM)⟩,AJU hs⟩,?_,rfl,rfl⟩
 unfold Re
 show (zf (n%MM)).val+(dX n).val%2*MM=n
 rw [hp,Jo,Nat.mod_eq_of_lt hy]
 have:=Nat.div_add_mod n MM
 rw [Nat.mul_comm] at this
 omega
attribute [irreducible] enc
def HA(p:AA 64):Prop:=p.length=20∧EB (cut p 0 5)∧EB (cut p 5 5)∧EB (cut p 10 5)∧EB (cut p 15 5)
def LQ(p:AA 64):Qt:=⟨LF (cut p 0 5),LF (cut p 5 5),LF (cut p 10 5),LF (cut p 15 5)⟩
theorem AIK{a b c d:AA 64}(ha:a.length=5)(hb:b.length=5)(hc:c.length=5)(hd:d.length=5):(a++b++c++d).length=20∧cut (a++b++c++d) 0 5=a∧cut (a++b++c++d) 5 5=b∧cut (a++b++c++d) 10 5=c∧cut (a++b++c++d) 15 5=d:=by
 obtain ⟨a0,a1,a2,a3,a4,rfl⟩:=Yw ha
 obtain ⟨b0,b1,b2,b3,b4,rfl⟩:=Yw hb
 obtain ⟨c0,c1,c2,c3,c4,rfl⟩:=Yw hc
 obtain ⟨d0,d1,d2,d3,d4,rfl⟩:=Yw hd
 exact ⟨rfl,rfl,rfl,rfl,rfl⟩
theorem Sa{a b c d:AA 64}(ha:EB a)(hb:EB b)(hc:EB c)(hd:EB d):HA (a++b++c++d)∧LQ (a++b++c++d)=⟨LF a,LF b,LF c,LF d⟩:=by
 obtain ⟨l,e1,e2,e3,e4⟩:=AIK ha.1 hb.1 hc.1 hd.1
 unfold HA LQ
 rw [e1,e2,e3,e4]
 exact ⟨⟨l,ha,hb,hc,hd⟩,rfl⟩
theorem PJ:EB Ad∧LF Ad=dF:=by
 have h:∀b,b=[163#8,120#8,89#8,19#8,202#8,77#8,235#8,117#8,171#8,216#8,65#8,65#8,77#8,10#8,112#8,0#8,152#8,232#8,121#8,119#8,121#8,64#8,199#8,140#8,115#8,254#8,111#8,43#8,238#8,108#8,3#8,82#8]→EB (Rg b)∧LF (Rg b)=dF:=fun b hb=>by
  refine ⟨(Zq b).1,?_⟩
  rw [(Zq b).2,hb]
  unfold dF
  decide+kernel
 unfold Ad
 exact h _ rfl
theorem VG:EB (Ag Ad Ad)∧LF (Ag Ad Ad)=dF+dF:=by
 have h:=LY PJ.1 PJ.1
 rw [PJ.2] at h
 exact h
theorem Xf{p q k:AA 64}(hp:HA p)(hq:HA q)(hk:EB k∧LF k=dF+dF):HA (Dd p q k)∧LQ (Dd p q k)=qo (LQ p) (LQ q):=by
 obtain ⟨_,p0,p1,p2,p3⟩:=hp
 obtain ⟨_,q0,q1,q2,q3⟩:=hq
 obtain ⟨k1,k2⟩:=hk
 have a1:=NB p1 p0
 have a2:=NB q1 q0
 have a:=Cz a1.1 a2.1
 have b1:=LY p1 p0
 have b2:=LY q1 q0
 have b:=Cz b1.1 b2.1
 have c1:=Cz k1 p3
 have c:=Cz c1.1 q3
 have d1:=LY p2 p2
 have d:=Cz d1.1 q2
 have e:=NB b.1 a.1
 have f:=NB d.1 c.1
 have g:=LY d.1 c.1
 have h:=LY b.1 a.1
 have ef:=Cz e.1 f.1
 have gh:=Cz g.1 h.1
 have fg:=Cz f.1 g.1
 have eh:=Cz e.1 h.1
 unfold Dd
 refine ⟨(Sa ef.1 gh.1 fg.1 eh.1).1,?_⟩
 rw [(Sa ef.1 gh.1 fg.1 eh.1).2,ef.2,gh.2,fg.2,eh.2,e.2,f.2,g.2,h.2,a.2,b.2,c.2,d.2,a1.2,a2.2,b1.2,b2.2,c1.2,d1.2,k2]
 rfl
theorem vd:HA Oy∧LQ Oy=rb:=by
 have s0:=FF (x:=0#64) D_
 have s1:=FF (x:=1#64) D_
 unfold Oy
 refine ⟨(Sa s0.1 s1.1 s1.1 s0.1).1,?_⟩
 rw [(Sa s0.1 s1.1 s1.1 s0.1).2,s0.2,s1.2]
 rfl
theorem vo(n:AA 8){p:AA 64}(hp:HA p):∀j,j≤256→HA (DB n p j)∧LQ (DB n p j)=Wn (LQ p) (Gt n 32) j:=by
 intro j
 induction j with
 |zero=>
  intro _
  rw [DB,Wn]
  exact vd
 |succ j ih=>
  intro hj
  obtain ⟨h1,h2⟩:=ih O_
  have h3:=Xf h1 h1 VG
  have h4:=Xf h3.1 hp VG
  rw [DB,Mb,Wn,jE n (255-j) O_]
  by_cases hc:Gt n 32/2^(255-j)%2=1
  ·rw [if_pos (decide_eq_true hc),if_pos hc,h4.2,h3.2,h2]
   exact ⟨h4.1,rfl⟩
  ·rw [if_neg (by rw [decide_eq_false hc];decide),if_neg hc,h3.2,h2]
   exact ⟨h3.1,rfl⟩
theorem zC(n:AA 8):Gt n 32<2^256:=Rq n 32
theorem bx(n:AA 8){p:AA 64}(hp:HA p){P:Ua}(hr:Yk (LQ p) P.p):HA (Fc n p)∧Yk (LQ (Fc n p)) (ABU P (Gt n 32)).p:=by
 obtain ⟨h1,h2⟩:=vo n hp 256 (Nat.le_refl _)
 unfold Fc
 rw [h2]
 exact ⟨h1,eG P.on hr _ (zC n)⟩
theorem AAO{p q:AA 64}(hp:HA p)(hq:HA q){P Q:Ua}(h1:Yk (LQ p) P.p)(h2:Yk (LQ q) Q.p):HA (PM p q)∧Yk (LQ (PM p q)) (AE5 P Q).p:=by
 have h:=Xf hp hq VG
 unfold PM
 rw [h.2]
 exact ⟨h.1,ZZ P.on Q.on h1 h2⟩
theorem ADQ(u:Fp):((nth (F u) 0&&&1#8)==1#8)=decide (u.val%2=1):=by
 rw [qv,AFw,BitVec.toNat_ofNat]
 refine decide_eq_decide.2 ?_;omega
theorem fe(u:Fp):Gt (F u) 32=u.val:=by
 unfold F
 rw [We _ _ (Nat.le_refl _),Nat.mod_eq_of_lt (Nat.lt_trans u.isLt D_)]
theorem U4{p:AA 64}(hp:HA p){P:Ua}(hr:Yk (LQ p) P.p):E6 p=enc P:=by
 obtain ⟨_,p0,p1,p2,p3⟩:=hp
 obtain ⟨z,ex,ey,_⟩:=hr
 have i:=Z0 p2
 have x:=Cz p0 i.1
 have y:=Cz p1 i.1
 have hx:LF (AL (cut p 0 5) (Cb (cut p 10 5)))=P.p.x:=by rw [x.2,i.2];exact SA z ex
 have hy:LF (AL (cut p 5 5) (Cb (cut p 10 5)))=P.p.y:=by rw [y.2,i.2];exact SA z ey
 have hl:Gt (F P.p.y) 32<MM:=by
  rw [fe]
  exact Nat.lt_trans P.p.y.isLt D_
 unfold E6
 rw [NP x.1,NP y.1,hx,hy,ADQ]
 by_cases ho:P.p.x.val%2=1
 ·rw [if_pos (decide_eq_true ho)]
  refine (Zy (by rw [BW,bT]) ?_).symm
  rw [yf (bT _) hl,fe]
  unfold Re
  rw [ho,Nat.one_mul]
 ·rw [if_neg (by rw [decide_eq_false ho];decide)]
  refine (Zy (bT _) ?_).symm
  rw [fe]
  unfold Re
  rw [show P.p.x.val%2=0 by omega,Nat.zero_mul,Nat.add_zero]
def JQ(b:AA 8):Nat:=Gt b 32%MM
theorem Pb{b:AA 8}(hb:b.length=32):EB (Na b)∧LF (Na b)=zf (JQ b):=by
 have h:=Zq (put b 31 (nth b 31&&&127#8))
 rw [gN hb] at h
 unfold Na JQ
 exact h
theorem vK{b:AA 8}(hb:b.length=32):EB (E7 b)∧LF (E7 b)=zf (JQ b)*zf (JQ b):=by
 have h:=Cz (Pb hb).1 (Pb hb).1
 rw [(Pb hb).2] at h
 unfold E7
 exact h
theorem TT{b:AA 8}(hb:b.length=32):EB (WQ b)∧LF (WQ b)=Lz (zf (JQ b)):=by
 have s1:=FF (x:=1#64) D_
 have y:=vK hb
 have n:=NB y.1 s1.1
 have d1:=Cz PJ.1 y.1
 have d2:=LY d1.1 s1.1
 have d3:=Z0 d2.1
 have h:=Cz n.1 d3.1
 unfold WQ
 refine ⟨h.1,?_⟩
 rw [h.2,n.2,d3.2,d2.2,d1.2,y.2,PJ.2,s1.2]
 rfl
theorem bo{b:AA 8}(hb:b.length=32):EB (Ha b)∧LF (Ha b)=D9 (Lz (zf (JQ b))):=by
 have h:=(fb (TT hb).1).1
 rw [(TT hb).2] at h
 unfold Ha
 exact h
theorem ZT{b:AA 8}(hb:b.length=32):Uq b=decide (D9 (Lz (zf (JQ b)))*D9 (Lz (zf (JQ b)))=Lz (zf (JQ b))):=by
 have h:=(fb (TT hb).1).2
 rw [(TT hb).2] at h
 unfold Uq
 exact h
theorem AAR{b:AA 8}(hb:b.length=32):unZ b=decide (D9 (Lz (zf (JQ b)))=0):=by
 have s0:=FF (x:=0#64) D_
 unfold unZ
 rw [NP (bo hb).1,NP s0.1,(bo hb).2,s0.2]
 exact decide_eq_decide.2 AAl
theorem ACY(b:AA 8):JQ b<MM:=Nat.mod_lt _ D_
theorem ABt{b:AA 8}(hb:b.length=32):put b 31 (nth b 31&&&127#8)=kI (JQ b):=by
 have h:=rc (b:=put b 31 (nth b 31&&&127#8)) (by rw [BW,hb])
 rw [gN hb] at h
 exact h.symm
theorem AJN{n:Nat}(hn:n<MM):(F (zf n)=kI n)↔n<PP:=by
 unfold F
 rw [Jo]
 have hM:MM<256^32:=by decide
 constructor
 ·intro h
  have h1:Gt (kI (n%PP)) 32=Gt (kI n) 32:=by rw [h]
  rw [We _ _ (Nat.le_refl _),We _ _ (Nat.le_refl _),Nat.mod_eq_of_lt (Nat.lt_trans hn hM),Nat.mod_eq_of_lt (Nat.lt_trans (Nat.mod_lt _ AAe) D_)] at h1
  rw [←h1]
  exact Nat.mod_lt _ AAe
 ·intro h
  rw [Nat.mod_eq_of_lt h]
theorem AJF{b:AA 8}(hb:b.length=32):wb b=decide (JQ b<PP):=by
 unfold wb
 rw [NP (Pb hb).1,(Pb hb).2,ABt hb]
 exact decide_eq_decide.2 (AJN (ACY b))
theorem AFe(b:AA 8):kK b=decide (MM≤Gt b 32):=by
 unfold kK
 exact ADB b
theorem mj{b:AA 8}(hb:b.length=32):CP b=dOk (Gt b 32):=by
 unfold CP dOk
 rw [AJF hb,ZT hb,AFe,AAR hb]
 rfl
theorem ae(P:Ua):CP (enc P)=true:=by
 rw [mj (gt P),Vn]
 exact ADI P
theorem gz{x y:Fp}:Yk ⟨x,y,1,x*y⟩ ⟨x,y⟩:=⟨Vy,(Sm _).symm,(Sm _).symm,(Sm _).symm⟩
theorem ABM{b:AA 8}(hb:b.length=32){X:AA 64}(hX:EB X):HA (X++Na b++AQ 1#64++AL X (Na b))∧LQ (X++Na b++AQ 1#64++AL X (Na b))=⟨LF X,zf (JQ b),1,LF X*zf (JQ b)⟩:=by
 have s1:=FF (x:=1#64) D_
 have y:=Pb hb
 have m:=Cz hX y.1
 have h:=Sa hX y.1 s1.1 m.1
 refine ⟨h.1,?_⟩
 rw [h.2,y.2,s1.2,m.2,y.2,zs1]
theorem WS(u:Fp):0-u= -u:=by grobner
theorem AEt{α:Type}(m:Nat)(o:Bool)(h:m=0∨m=1)(S R:α):(if (!((decide (m=1))==o))=true then S else R)=(if m=(if o then 1 else 0) then R else S):=by
 rcases h with rfl | rfl<;>cases o<;>rfl
theorem AJ5{b:AA 8}(hb:b.length=32)(o:Bool)(ho:kK b=o):EB (if (!((((nth (Aa (Ha b)) 0)&&&1#8)==1#8)==o))=true then A4 (AQ 0#64) (Ha b) else Ha b)∧LF (if (!((((nth (Aa (Ha b)) 0)&&&1#8)==1#8)==o))=true then A4 (AQ 0#64) (Ha b) else Ha b)=dX (Gt b 32):=by
 have r:=bo hb
 have s0:=FF (x:=0#64) D_
 have s:=NB s0.1 r.1
 have hs:LF (A4 (AQ 0#64) (Ha b))= -D9 (Lz (zf (JQ b))):=by
  rw [s.2,s0.2,r.2]
  exact WS _
 have hn:Gt b 32<115792089237316195423570985008687907853269984665640564039457584007913129639936:=Rq b 32
 rw [NP r.1,r.2,ADQ]
 unfold dX
 rw [show Gt b 32%MM=JQ b from rfl]
 rw [AFe] at ho
 have hd:Gt b 32/MM=if o then 1 else 0:=by
  cases o with
  |true=>
   have h:=of_decide_eq_true ho
   change 57896044618658097711785492504343953926634992332820282019728792003956564819968≤_ at h
   show _/57896044618658097711785492504343953926634992332820282019728792003956564819968=1
   omega
  |false=>
   have h:=of_decide_eq_false ho
   change ¬57896044618658097711785492504343953926634992332820282019728792003956564819968≤_ at h
   show _/57896044618658097711785492504343953926634992332820282019728792003956564819968=0
   omega
 rw [hd,AEt _ o (Nat.mod_two_eq_zero_or_one (D9 (Lz (zf (JQ b)))).val)]
 by_cases hc:(D9 (Lz (zf (JQ b)))).val%2=if o then 1 else 0
 ·rw [if_pos hc,if_pos hc]
  exact r
 ·rw [if_neg hc,if_neg hc]
  exact ⟨s.1,hs⟩
theorem Vk{b:AA 8}(hb:b.length=32)(h:CP b=true):∃P:Ua,b=enc P∧HA (Nr b)∧Yk (LQ (Nr b)) P.p:=by
 obtain ⟨P,h1,h2,h3⟩:=AFD (Rq b 32) (by rw [←mj hb];exact h)
 refine ⟨P,(Zy hb h1).symm,?_⟩
 have hP:P.p=⟨dX (Gt b 32),zf (JQ b)⟩:=by
  cases hp:P.p with
  |mk x y=>rw [hp] at h2 h3;simp only at h2 h3;rw [h2,h3];rfl
 rw [hP]
 unfold Nr
 rw [if_pos h]
 cases ho:kK b with
 |true=>
  rw [if_pos rfl]
  obtain ⟨x1,x2⟩:=AJ5 hb true ho
  have e:=ABM hb x1
  unfold R6
  refine ⟨e.1,?_⟩
  rw [e.2,x2]
  exact gz
 |false=>
  rw [if_neg D_]
  obtain ⟨x1,x2⟩:=AJ5 hb false ho
  have e:=ABM hb x1
  unfold SS
  refine ⟨e.1,?_⟩
  rw [e.2,x2]
  exact gz
theorem ZY(P:Ua):HA (Nr (enc P))∧Yk (LQ (Nr (enc P))) P.p:=by
 obtain ⟨Q,e,h⟩:=Vk (gt P) (ae P)
 rw [AHI.1 e] at h ⊢
 exact h
theorem tX:FZ 31=enc Yb:=by decide+kernel
theorem zW:HA KJ∧Yk (LQ KJ) Yb.p:=by
 unfold KJ
 rw [tX]
 exact ZY Yb
theorem ADN(P Q:Ua):F4 (enc P) (enc Q)=enc (AE5 P Q):=by
 obtain ⟨f1,r1⟩:=ZY P
 obtain ⟨f2,r2⟩:=ZY Q
 obtain ⟨f3,r3⟩:=AAO f1 f2 r1 r2
 unfold F4
 exact U4 f3 r3
theorem sQ(n:AA 8)(P:Ua):Dc n (enc P)=enc (ABU P (Gt n 32)):=by
 obtain ⟨f1,r1⟩:=ZY P
 obtain ⟨f3,r3⟩:=bx n f1 r1
 unfold Dc
 exact U4 f3 r3
theorem AGZ(n:AA 8):yG n=enc (ABU Yb (Gt n 32)):=by
 obtain ⟨f1,r1⟩:=zW
 obtain ⟨f3,r3⟩:=bx n f1 r1
 unfold yG
 exact U4 f3 r3
def oB(n:AA 8):Ua:=ABU Yb (Gt n 32)
theorem AFW(n:AA 8)(hn:n.length=32):Ev prog (.call 94 [BM n] []) (.val (BM (enc (oB n))) []):=by
 have h:=AC0 n hn
 rw [AGZ] at h
 exact h
attribute [irreducible] oB
theorem wQ(n:AA 8)(hn:n.length=32):Ev prog (.call 90 [BM n] []) (.val (.c (.val (.bool (Ga n)))) []):=by
 rw [←kL hn];exact nX n hn
theorem ACj(b:AA 8)(n cap:Nat)(hb:b.length=n)(hn:n≤64):Ev prog (.call 130 [.c (.sl 0 0 n cap 1)] [A0 b]) (.val (.tup [BM (Yy b),At ((0:Nat):Int)]) [A0 b]):=by
 rw [←vc];exact vP b n cap hb O_ hn
def C8(a b c:AA 8):AA 8:=Yy (HJ ((a++b)++c))
theorem ny(k:r)(h:Hid r→g:=by intro h;refine AB (F1 (j:=2) rfl rfl underlying22 WE O_) rfl ?_;exact h.out):g:=h ⟨k⟩
theorem XB(a:AA 8)(na ca:Nat)(b:AA 8)(nb cb:Nat)(c:AA 8)(nc cc:Nat)(ha:a.length=na)(hna:na≤1099511627)(hb:b.length=nb)(hnb:nb≤1099511627)(hc:c.length=nc)(hnc:nc≤1099511627):Ev prog (.call 92 [.c (.sl 0 0 3 3 1)] [.row false (.ac [.sl 1 0 na ca 1,.sl 2 0 nb cb 1,.sl 3 0 nc cc 1]),A0 (a),A0 (b),A0 (c)]) (.val (BM (C8 a b c)) [.row false (.ac [.sl 1 0 na ca 1,.sl 2 0 nb cb 1,.sl 3 0 nc cc 1]),A0 (a),A0 (b),A0 (c)]):=by
 have hP:=Hid.mk (C8.eq_1 a b c)
 subst ha
 subst hb
 subst hc
 refine AI func92 rfl ntmps92 rfl AM ?_;refine Ab ?_;refine It ?_;refine BF ?_;refine Yj ?_;refine fV ?_;refine I3 ?_;refine Ab ?_;refine AB (A8 (a:=0) (b:=3) rfl rfl) rfl ?_;refine AZ ?_;refine cn ?_;refine Ix ?_;refine Be ?_;refine jy ?_;refine Ai ?_;refine jC ?_;refine fV ?_;show WC _ _ _ _ _
 refine I3 ?_;refine Ab ?_;refine AB (A8 (a:=1) (b:=3) rfl rfl) rfl ?_;refine AZ ?_;refine iQ ?_;refine Ix ?_;refine Be ?_;refine DD ?_;refine Ai ?_;refine fy ?_;refine fV ?_;show WC _ _ _ _ _
 refine I3 ?_;refine Ab ?_;refine AB (A8 (a:=2) (b:=3) rfl rfl) rfl ?_;refine AZ ?_;refine ny ?_;refine Ix ?_;refine Be ?_;refine DD ?_;refine Ai ?_;refine AB (B8 (a:=2) (b:=1) rfl rfl O_) rfl ?_;refine fV ?_;show WC _ _ _ _ _
 refine I3 ?_;refine Ab ?_;refine dH ?_;refine AR ?_;have hQ1:(HJ ((a++b)++c)).length=64:=AP
 refine A1 ?_;refine sR (nQ ((a++b)++c) ((a.length+b.length)+c.length) ((a.length+b.length)+c.length) AD AD) AHN ?_;refine F6 ?_;refine OQ ?_;refine AR ?_;have hQ2:(Yy (HJ ((a++b)++c))).length=32:=AP
 refine Ab ?_;refine jr ?_;refine CQ (Ah (bs:=[8]) (ACj (HJ ((a++b)++c)) 64 64 AD AD) AGJ K_ K_ rfl B4) AT rfl ?_;refine Ch ?_;refine Gf ?_;refine Ai ?_;refine GM ?_;refine GH ?_;rw [hP.out]
 exact Ec
@[simp] theorem AHA(a b c:AA 8):(C8 a b c).length=32:=by
 unfold C8
 (simp [*];done)
attribute [irreducible] C8
end Go.Proofs.YtmbepikkgkcgkaaGreatDoor
