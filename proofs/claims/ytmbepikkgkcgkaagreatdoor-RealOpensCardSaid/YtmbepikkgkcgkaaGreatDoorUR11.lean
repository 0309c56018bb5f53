/- Merged and shortened by a program: part 11. -/
import Derived.Test.YtmbepikkgkcgkaaGreatDoorUR10
set_option maxRecDepth 100000
set_option maxHeartbeats 8000000
namespace Go.Proofs.YtmbepikkgkcgkaaGreatDoor
open Go.RowKit
variable {g r : Prop}
open Go.Proofs.Tryz
theorem AHV:((0:Fp)-zf (121665#64:BitVec 64).toNat)*Gi (zf (121666#64:BitVec 64).toNat)=dF:=by
 have h1:zf (121665#64:BitVec 64).toNat=zf 121665:=rfl
 have h2:zf (121666#64:BitVec 64).toNat=zf 121666:=rfl
 have h3:=B2 (u:=zf 121666) (by decide+kernel)
 have h4:=AIo
 rw [h1,h2]
 generalize zf 121665=x at*
 generalize zf 121666=y at*
 generalize Gi y=i at*
 generalize dF=d at*
 clear h1 h2
 grobner
theorem AIt{u:Fp}(e:(0:Fp)= -u):u=0:=by grobner
theorem eqO(b:AA 8){r:Bool}(h:kK b=r):decide ((128#8).toNat≤(nth b 31).toNat)=r:=by
 rw [←h]
 unfold kK
 rw [AIv]
 rfl
theorem mi(n p:AA 8)(hp:p.length=32)(h:CP p=true):CP (Dc n p)=true:=by
 obtain ⟨P,rfl,_⟩:=Vk hp h
 rw [sQ]
 exact ae _
theorem Q3(n:AA 8)(v:Bool)(hn:n.length=32)(h:Ga n=v):Ev prog (.call 90 [BM n] []) (.val (.c (.val (.bool v))) []):=by
 rw [←h];exact wQ n hn
def Zz(pub text sig:AA 8):Bool:=Ga (cut sig 32 32)&&(CP pub&&(CP (cut sig 0 32)&&decide (F4 (cut sig 0 32) (Dc (C8 (cut sig 0 32) pub text) pub)=enc (oB (cut sig 32 32)))))
theorem gP(k:r)(h:Hid r→g:=by intro h;refine AI func58 rfl ntmps58 rfl AM ?_;exact h.out):g:=h ⟨k⟩
theorem QQ(k:r)(h:Hid r→g:=by intro h;refine AH (IH (l:=0) (h:=32) (len:=32) (cp:=64) rfl underlying105 Bt rfl rfl rfl O_ O_ T6 rfl rfl) rfl ?_;exact h.out):g:=h ⟨k⟩
theorem Rp(k:r)(h:Hid r→g:=by intro h;refine AH (fq rfl underlying37 O_ D_) rfl ?_;exact h.out):g:=h ⟨k⟩
theorem SP(k:r)(h:Hid r→g:=by intro h;refine AH (V8 rfl rfl QH Pg Wg D_) rfl ?_;exact h.out):g:=h ⟨k⟩
theorem Sh(k:r)(h:Hid r→g:=by intro h;refine AH (IH (l:=32) (h:=64) (len:=32) (cp:=32) rfl underlying105 Bt rfl rfl rfl O_ O_ T6 rfl rfl) rfl ?_;exact h.out):g:=h ⟨k⟩
theorem I5(k:r)(h:Hid r→g:=by intro h;refine Hn (Ay YJ AM) AT rfl ?_;exact h.out):g:=h ⟨k⟩
theorem vT(pub text:AA 8)(tn tcap:Nat)(sig:AA 8)(_hpub:pub.length=32)(htext:text.length=tn)(htn:tn≤1099511627)(hsig:sig.length=64)(hT:tn≤65536)(hB:Ga (cut sig 32 32)=false):Ev prog (.call 58 [BM (pub),.c (.sl 0 0 tn tcap 1),BM (sig)] [A0 (text)]) (.val (.c (.val (.bool (false)))) [A0 (text)]):=by
 subst htext
 refine gP ?_;refine BO ?_;refine BZ ?_;have hQ1:(cut sig 0 32).length=32:=AP
 have hQ2:(cut sig 32 32).length=32:=AP
 refine Iv ?_;refine QQ ?_;refine Rp ?_;refine SP ?_;refine Sh ?_;refine Rp ?_;refine SP ?_;refine I5 ?_;refine I5 ?_;refine I8 ?_;refine Gr ?_;refine Jk ?_;refine JE ?_;refine Lu ?_;refine GM ?_;refine Ee KL ?_;refine Ae (Q3 (cut sig 32 32) false AD hB) tD ?_;refine Ee KL ?_;refine FN ?_;refine Dm ?_;refine B0 ?_;exact CF
theorem pZ(k:r)(h:Hid r→g:=by intro h;refine aS 11 9 mixed K_ K_ rfl rfl rfl ?_;exact h.out):g:=h ⟨k⟩
theorem ux(pub text:AA 8)(tn tcap:Nat)(sig:AA 8)(hpub:pub.length=32)(htext:text.length=tn)(htn:tn≤1099511627)(hsig:sig.length=64)(hT:tn≤65536)(hB:Ga (cut sig 32 32)=true)(hp:CP pub=false):Ev prog (.call 58 [BM (pub),.c (.sl 0 0 tn tcap 1),BM (sig)] [A0 (text)]) (.val (.c (.val (.bool (false)))) [A0 (text)]):=by
 subst htext
 refine gP ?_;refine BO ?_;refine BZ ?_;have hQ1:(cut sig 0 32).length=32:=AP
 have hQ2:(cut sig 32 32).length=32:=AP
 refine Iv ?_;refine QQ ?_;refine Rp ?_;refine SP ?_;refine Sh ?_;refine Rp ?_;refine SP ?_;refine I5 ?_;refine I5 ?_;refine I8 ?_;refine Gr ?_;refine Jk ?_;refine JE ?_;refine Lu ?_;refine GM ?_;refine Ee KL ?_;refine Ae (Q3 (cut sig 32 32) true AD hB) tD ?_;refine Ee KL ?_;refine FN ?_;refine SJ ?_;have hQ3:(C8 (cut sig 0 32) pub text).length=32:=AP
 have hQ4:(To).length=32:=AP
 refine S_ ?_;refine pZ ?_;refine FI ?_;refine FI ?_;refine AW ?_;refine Ur ?_;refine Hw (Ah (bs:=[5,3,1,0]) (XB (cut sig 0 32) 32 32 pub 32 32 text text.length tcap AD AD AD AD AD AD) xA K_ K_ rfl B4) AT rfl ?_;refine Cn ?_;refine AO (uS (C8 (cut sig 0 32) pub text) pub AD AD hp) wq ?_;refine Hd ?_;refine I5 ?_;refine I8 ?_;refine BF ?_;refine AB (Ko (a:=4) (b:=0) rfl rfl) rfl ?_;refine B0 ?_;exact CF
theorem tY(pub text:AA 8)(tn tcap:Nat)(sig:AA 8)(hpub:pub.length=32)(htext:text.length=tn)(htn:tn≤1099511627)(hsig:sig.length=64)(hT:tn≤65536)(hB:Ga (cut sig 32 32)=true)(hp:CP pub=true)(hr:CP (cut sig 0 32)=false):Ev prog (.call 58 [BM (pub),.c (.sl 0 0 tn tcap 1),BM (sig)] [A0 (text)]) (.val (.c (.val (.bool (false)))) [A0 (text)]):=by
 subst htext
 refine gP ?_;refine BO ?_;refine BZ ?_;have hQ1:(cut sig 0 32).length=32:=AP
 have hQ2:(cut sig 32 32).length=32:=AP
 refine Iv ?_;refine QQ ?_;refine Rp ?_;refine SP ?_;refine Sh ?_;refine Rp ?_;refine SP ?_;refine I5 ?_;refine I5 ?_;refine I8 ?_;refine Gr ?_;refine Jk ?_;refine JE ?_;refine Lu ?_;refine GM ?_;refine Ee KL ?_;refine Ae (Q3 (cut sig 32 32) true AD hB) tD ?_;refine Ee KL ?_;refine FN ?_;refine SJ ?_;have hQ3:(C8 (cut sig 0 32) pub text).length=32:=AP
 have hQ4:(Dc (C8 (cut sig 0 32) pub text) pub).length=32:=AP
 refine S_ ?_;refine pZ ?_;refine FI ?_;refine FI ?_;refine AW ?_;refine Ur ?_;refine Hw (Ah (bs:=[5,3,1,0]) (XB (cut sig 0 32) 32 32 pub 32 32 text text.length tcap AD AD AD AD AD AD) xA K_ K_ rfl B4) AT rfl ?_;refine Cn ?_;refine AO (et (C8 (cut sig 0 32) pub text) pub AD AD hp) wq ?_;refine Hd ?_;refine I5 ?_;refine I8 ?_;refine BF ?_;refine AB (Ko (a:=0) (b:=0) rfl rfl) rfl ?_;refine AR ?_;have hQ5:(TV).length=32:=AP
 refine Bg ?_;refine GM ?_;refine Ae (tZ (cut sig 0 32) (Dc (C8 (cut sig 0 32) pub text) pub) AD AD hr) ADT ?_;refine Ch ?_;refine Gf ?_;refine Al ?_;refine Q9 ?_;refine AW ?_;refine AH (DC (a:=4) (b:=0) rfl rfl) rfl ?_;refine AW ?_;refine Ws KL ?_;refine Ws KL ?_;refine Ws KL ?_;refine Ws KL ?_;refine Sl ?_;refine I7 ?_;exact CF
theorem vV(pub text:AA 8)(tn tcap:Nat)(sig:AA 8)(hpub:pub.length=32)(htext:text.length=tn)(htn:tn≤1099511627)(hsig:sig.length=64)(hT:tn≤65536)(hB:Ga (cut sig 32 32)=true)(hp:CP pub=true)(hr:CP (cut sig 0 32)=true):Ev prog (.call 58 [BM (pub),.c (.sl 0 0 tn tcap 1),BM (sig)] [A0 (text)]) (.val (.c (.val (.bool (decide (F4 (cut sig 0 32) (Dc (C8 (cut sig 0 32) pub text) pub)=enc (oB (cut sig 32 32))))))) [A0 (text)]):=by
 subst htext
 refine gP ?_;refine BO ?_;refine BZ ?_;have hQ1:(cut sig 0 32).length=32:=AP
 have hQ2:(cut sig 32 32).length=32:=AP
 refine Iv ?_;refine QQ ?_;refine Rp ?_;refine SP ?_;refine Sh ?_;refine Rp ?_;refine SP ?_;refine I5 ?_;refine I5 ?_;refine I8 ?_;refine Gr ?_;refine Jk ?_;refine JE ?_;refine Lu ?_;refine GM ?_;refine Ee KL ?_;refine Ae (Q3 (cut sig 32 32) true AD hB) tD ?_;refine Ee KL ?_;refine FN ?_;refine SJ ?_;have hQ3:(C8 (cut sig 0 32) pub text).length=32:=AP
 have hQ4:(Dc (C8 (cut sig 0 32) pub text) pub).length=32:=AP
 refine S_ ?_;refine pZ ?_;refine FI ?_;refine FI ?_;refine AW ?_;refine Ur ?_;refine Hw (Ah (bs:=[5,3,1,0]) (XB (cut sig 0 32) 32 32 pub 32 32 text text.length tcap AD AD AD AD AD AD) xA K_ K_ rfl B4) AT rfl ?_;refine Cn ?_;refine AO (et (C8 (cut sig 0 32) pub text) pub AD AD hp) wq ?_;refine Hd ?_;refine I5 ?_;refine I8 ?_;refine BF ?_;refine AB (Ko (a:=0) (b:=0) rfl rfl) rfl ?_;refine AR ?_;have hQ5:(F4 (cut sig 0 32) (Dc (C8 (cut sig 0 32) pub text) pub)).length=32:=AP
 refine Bg ?_;refine GM ?_;refine CQ (Ah (bs:=[]) (uR (cut sig 0 32) (Dc (C8 (cut sig 0 32) pub text) pub) AD AD hr (mi _ _ hpub hp)) ADT K_ K_ rfl B4) AT rfl ?_;refine Ch ?_;refine Gf ?_;refine BZ ?_;have hQ6:(enc (oB (cut sig 32 32))).length=32:=AP
 refine S_ ?_;refine Q9 ?_;refine AW ?_;refine AH (DC (a:=0) (b:=0) rfl rfl) rfl ?_;refine Q4 ?_;refine Cn ?_;refine Jg KL ?_;refine Cn ?_;refine Jg KL ?_;refine AO (AFW (cut sig 32 32) AD) AIU ?_;refine Jg KL ?_;refine oW ?_;refine AH (WV rfl PK_ rfl) rfl ?_;refine I7 ?_;exact CF
theorem AB3(pub text:AA 8)(tn tcap:Nat)(sig:AA 8)(hpub:pub.length=32)(htext:text.length=tn)(hsig:sig.length=64)(htn:tn≤65536):Ev prog (.call 58 [BM pub,.c (.sl 0 0 tn tcap 1),BM sig] [A0 text]) (.val (.c (.val (.bool (Zz pub text sig)))) [A0 text]):=by
 have hn:tn≤1099511627:=by omega
 cases hB:Ga (cut sig 32 32) with
 |false=>
  rw [show Zz pub text sig=false by unfold Zz;rw [hB,Bool.false_and]]
  exact vT pub text tn tcap sig hpub htext hn hsig htn hB
 |true=>
  cases hp:CP pub with
  |false=>
   rw [show Zz pub text sig=false by unfold Zz;rw [hB,hp,Bool.false_and,Bool.and_false]]
   exact ux pub text tn tcap sig hpub htext hn hsig htn hB hp
  |true=>
   cases hr:CP (cut sig 0 32) with
   |false=>
    rw [show Zz pub text sig=false by unfold Zz;rw [hB,hp,hr,Bool.false_and,Bool.and_false,Bool.and_false]]
    exact tY pub text tn tcap sig hpub htext hn hsig htn hB hp hr
   |true=>
    rw [show Zz pub text sig=decide (F4 (cut sig 0 32) (Dc (C8 (cut sig 0 32) pub text) pub)=enc (oB (cut sig 32 32))) by unfold Zz;rw [hB,hp,hr,Bool.true_and,Bool.true_and,Bool.true_and]]
    exact vV pub text tn tcap sig hpub htext hn hsig htn hB hp hr
theorem qR(a:AA 8)(na ca:Nat)(b:AA 8)(nb cb:Nat)(c:AA 8)(nc cc:Nat)(ha:a.length=na)(hna:na≤1099511627)(hb:b.length=nb)(hnb:nb≤1099511627)(hc:c.length=nc)(hnc:nc≤1099511627):Ev prog (.call 139 [.c (.sl 0 0 3 3 1)] [.row false (.ac [.sl 1 0 na ca 1,.sl 2 0 nb cb 1,.sl 3 0 nc cc 1]),A0 (a),A0 (b),A0 (c)]) (.val (.c (.sl 4 0 ((na+nb)+nc) ((na+nb)+nc) 1)) [.row false (.ac [.sl 1 0 na ca 1,.sl 2 0 nb cb 1,.sl 3 0 nc cc 1]),A0 (a),A0 (b),A0 (c),BP ((a++b)++c)]):=by
 subst ha
 subst hb
 subst hc
 refine AI func139 rfl ntmps139 rfl AM ?_;refine P3 ?_;refine Ai ?_;refine ABC ?_;refine jQ ?_;refine Ho ?_;refine AB (A8 (a:=0) (b:=3) rfl rfl) rfl ?_;refine Io ?_;refine cn ?_;refine Ix ?_;refine jy ?_;refine BF ?_;refine jC ?_;refine BZ ?_;show WC _ _ _ _ _
 refine I3 ?_;refine Ho ?_;refine AB (A8 (a:=1) (b:=3) rfl rfl) rfl ?_;refine Io ?_;refine iQ ?_;refine Ix ?_;refine DD ?_;refine BF ?_;refine fy ?_;refine BZ ?_;show WC _ _ _ _ _
 refine I3 ?_;refine Ho ?_;refine AB (A8 (a:=2) (b:=3) rfl rfl) rfl ?_;refine Io ?_;refine ny ?_;refine Ix ?_;refine DD ?_;refine BF ?_;refine AB (B8 (a:=2) (b:=1) rfl rfl O_) rfl ?_;refine BZ ?_;show WC _ _ _ _ _
 refine I3 ?_;refine Ho ?_;refine dH ?_;refine Eg ?_;exact CF
def V6(b:AA 8):AA 64:=JJ (put (put b 0 ((nth b 0)&&&248#8)) 31 (((nth (put b 0 ((nth b 0)&&&248#8)) 31)&&&127#8) ||| 64#8))
theorem zI(b:AA 8)(hb:b.length=32):Ev prog (.call 81 [BM (b)] []) (.val (Aw (V6 b)) []):=by
 have hP:=Hid.mk (V6.eq_1 b)
 refine AI func81 rfl ntmps81 rfl AM ?_;refine BA ?_;refine FG ?_;refine AZ ?_;refine O0 ?_;refine GA ?_;refine AB (OH (b:=248#8) rfl rfl) rfl ?_;refine O0 ?_;refine Ct ?_;refine AZ ?_;refine Iw ?_;refine AB (cG (b:=64#8) rfl rfl) rfl ?_;refine Jp ?_;have hQ1:(JJ (put (put b 0 ((nth b 0)&&&248#8)) 31 (((nth (put b 0 ((nth b 0)&&&248#8)) 31)&&&127#8) ||| 64#8))).length=4:=AP
 refine Bg ?_;refine Ae (Tw (put (put b 0 ((nth b 0)&&&248#8)) 31 (((nth (put b 0 ((nth b 0)&&&248#8)) 31)&&&127#8) ||| 64#8)) AD) Sj ?_
 refine Gp ?_;rw [hP.out]
 exact KU
@[simp] theorem AHg(b:AA 8)(hb:b.length=32):(V6 b).length=4:=by
 unfold V6
 (simp [*];done)
attribute [irreducible] V6
def SV(X1:AA 8):AA 8:=X1++[0#8]
def Er(tx:AA 8):Nat→AA 8
 |0=>tx++[128#8]
 |j3+1=>SV (Er tx j3)
@[simp] theorem LM(tx:AA 8)(j3:Nat):(Er tx j3).length=(tx.length+1)+j3:=by
 induction j3 with
 |zero=>(simp [Er, *];done)
 |succ j3 ih=>rw [Er.eq_2,SV];(simp [ih];omega)
def LX(tx X3:AA 8)(j7:Nat):AA 8:=(if 8≤15-j7 then X3++[0#8] else X3++[(((BitVec.ofNat 64 tx.length)*8#64)>>>(8#64*(BitVec.ofNat 64 (15-j7))).toNat).setWidth 8])
def DH(tx Y2:AA 8):Nat→AA 8
 |0=>Y2
 |j7+1=>LX tx (DH tx Y2 j7) j7
@[simp] theorem O3(tx Y2:AA 8)(j7:Nat):(DH tx Y2 j7).length=Y2.length+j7:=by
 induction j7 with
 |zero=>(simp [DH, *];done)
 |succ j7 ih=>rw [DH.eq_2,LX];(split<;>first | (simp [ih];done) | (simp [ih];omega) | (simp [LM, *];done))
def JO(tx:AA 8):AA 8:=(DH tx (Er tx ((240-(tx.length+1)%128)%128)) 16)
theorem vh(b:AA 8)(o n cap:Nat)(hb:o+n≤b.length)(hn:n≤4398046511104):Ev prog (.call 65 [.c (.sl 0 o n cap 1),At ((128:Nat):Int),At ((16:Nat):Int)] [A0 (b)]) (.val (.c (.sl 1 0 (((n+1)+(240-(n+1)%128)%128)+16) (((n+1)+(240-(n+1)%128)%128)+16) 1)) [A0 (b),BP (JO (cut b o n))]):=by
 have hP:=Hid.mk (JO.eq_1 (cut b o n))
 have htx:(cut b o n).length=n:=by rw [BV];omega
 try simp only [htx] at hP
 refine AI func65 rfl ntmps65 rfl AM ?_;refine P3 ?_;refine Be ?_;refine Ap (nC rfl rfl rfl underlying23 underlying23 KM Wg O_ AM) AT rfl ?_;refine gQ ?_;refine DD ?_;refine Al ?_;refine AK [0,1,2,7] (fun (zz:Nat×AA 8)=>⟨50,AU [0,1,2,7] [.c (.sl 0 o n cap 1),At (((128:Nat):Int)),At (((16:Nat):Int)),.c (.sl 1 0 ((n+1)+zz.1) ((n+1)+zz.1) 1)],[A0 (b),BP (zz.2)]⟩) (fun j3=>(j3,Er (cut b o n) j3)) ((240-(n+1)%128)%128) K_ ?_ ?_
 ·intro j3 hj3
  try dsimp only
  have hX1:(Er (cut b o n) j3).length=(n+1)+j3:=by rw [LM (cut b o n) _];try omega
  rw [Er.eq_2,SV]
  try simp only [htx]
  generalize Er (cut b o n) j3=X1 at*
  refine JI ?_;refine AX ?_;refine Rr ?_;refine AX ?_;refine jU ?_;refine Jm ?_;refine Ak ?_;refine Wf ?_;refine DD ?_;refine BZ ?_;exact ⟨(j3+1,_),K_,rfl⟩
 ·try dsimp only
  have hY2:(Er (cut b o n) ((240-(n+1)%128)%128)).length=(n+1)+(240-(n+1)%128)%128:=by rw [LM (cut b o n) _];try omega
  generalize Er (cut b o n) ((240-(n+1)%128)%128)=Y2 at*
  refine JI ?_;refine AX ?_;refine Rr ?_;refine AX ?_;refine jU ?_;refine Jm ?_;refine Jk ?_;refine Yr ?_;refine AB (Gx (b:=8#64) rfl rfl) rfl ?_;refine BF ?_;refine AB (E4 (a:=16) (b:=1) rfl rfl O_ O_) rfl ?_;refine Al ?_;refine AK [7,8,9] (fun (zz:Nat×AA 8)=>⟨50,AU [7,8,9] [.c (.sl 1 0 (((n+1)+(240-(n+1)%128)%128)+zz.1) (((n+1)+(240-(n+1)%128)%128)+zz.1) 1),.c (.val (Bp ((BitVec.ofNat 64 n)*8#64))),At (((15:Nat):Int)-((zz.1:Nat):Int))],[A0 (b),BP (zz.2)]⟩) (fun j7=>(j7,DH (cut b o n) Y2 j7)) (16) K_ ?_ ?_
  ·intro j7 hj7
   try dsimp only
   have hX3:(DH (cut b o n) Y2 j7).length=((n+1)+(240-(n+1)%128)%128)+j7:=by rw [O3 (cut b o n) Y2 _];try omega
   rw [DH.eq_2,LX]
   try simp only [htx]
   generalize DH (cut b o n) Y2 j7=X3 at*
   rw [show ((15:Nat):Int)-((j7:Nat):Int)=((15-j7:Nat):Int) from by omega]
   refine PH ?_;refine Ak ?_;refine AB (XH (b:=8) rfl rfl) rfl ?_;refine EA ?_;refine Eb [7,8,9] (fun (zz:AA 8)=>⟨50,AU [7,8,9] [.c (.sl 1 0 ((((n+1)+(240-(n+1)%128)%128)+j7)+1) ((((n+1)+(240-(n+1)%128)%128)+j7)+1) 1),.c (.val (Bp ((BitVec.ofNat 64 n)*8#64))),At (((15-j7:Nat):Int))],[A0 (b),BP (zz)]⟩) (if 8≤15-j7 then X3++[0#8] else X3++[(((BitVec.ofNat 64 n)*8#64)>>>(8#64*(BitVec.ofNat 64 (15-j7))).toNat).setWidth 8]) rfl (fun hb=>?_) (fun hb=>?_) ?_
   ·have hb_:=of_decide_eq_true hb
    refine A1 ?_;refine Wf ?_;refine DD ?_;refine Al ?_;refine ⟨(X3++[0#8]),K_,?_⟩
    rw [if_pos (of_decide_eq_true hb)]
   ·have hb_:=of_decide_eq_false hb
    refine CK ?_;refine AX ?_;refine QE ?_;refine AB (Gx (a:=8#64) rfl rfl) rfl ?_;refine Vv ?_;refine RS ?_;refine Yp ?_;refine DD ?_;refine Al ?_;refine ⟨(X3++[(((BitVec.ofNat 64 n)*8#64)>>>(8#64*(BitVec.ofNat 64 (15-j7))).toNat).setWidth 8]),K_,?_⟩
    rw [if_neg (of_decide_eq_false hb)]
   have hJ4:(if 8≤15-j7 then X3++[0#8] else X3++[(((BitVec.ofNat 64 n)*8#64)>>>(8#64*(BitVec.ofNat 64 (15-j7))).toNat).setWidth 8]).length=(((n+1)+(240-(n+1)%128)%128)+j7)+1:=by split<;>simp [*]
   generalize (if 8≤15-j7 then X3++[0#8] else X3++[(((BitVec.ofNat 64 n)*8#64)>>>(8#64*(BitVec.ofNat 64 (15-j7))).toNat).setWidth 8])=J4 at*
   refine A1 ?_;refine PE ?_;refine ⟨(j7+1,_),(by
    dsimp only
    rw [show ((15:Nat):Int)-((j7+1:Nat):Int)=((15-j7:Nat):Int)-1 from by omega]
    kernel_rfl),rfl⟩
  ·try dsimp only
   have hY5:(DH (cut b o n) Y2 16).length=((n+1)+(240-(n+1)%128)%128)+16:=by rw [O3 (cut b o n) Y2 _];try omega
   generalize DH (cut b o n) Y2 16=Y5 at*
   refine RU ?_;refine Eg ?_;rw [hP.out]
   exact CF
@[simp] theorem AHJ(tx:AA 8):(JO tx).length=((tx.length+1)+(240-(tx.length+1)%128)%128)+16:=by
 unfold JO
 (simp [LM,O3, *];done)
attribute [irreducible] JO
def OD(tx:AA 8)(j5 j9:Nat)(X6:AA 64)(j13:Nat):AA 64:=put X6 j9 (((nth X6 j9)<<<8) ||| ((nth (JO tx) (((128*j5)+(8*j9))+j13)).setWidth 64))
def EV(tx:AA 8)(j5:Nat)(X4:AA 64)(j9:Nat):Nat→AA 64
 |0=>X4
 |j13+1=>OD tx j5 j9 (EV tx j5 X4 j9 j13) j13
theorem LD(tx:AA 8)(j5:Nat)(X4:AA 64)(j9:Nat)(hX4:X4.length=80)(j13:Nat):(EV tx j5 X4 j9 j13).length=80:=by
 induction j13 with
 |zero=>(simp [EV, *];done)
 |succ j13 ih=>rw [EV.eq_2,OD];(simp [ih];done)
def Qj(tx:AA 8)(j5:Nat)(X4:AA 64)(j9:Nat):AA 64:=if j9<16 then (EV tx j5 X4 j9 8) else put X4 j9 ((((nth X4 (j9-16))+(nth X4 (j9-7)))+(((FK (nth X4 (j9-15)) 1)^^^(FK (nth X4 (j9-15)) 8))^^^((nth X4 (j9-15))>>>7)))+(((FK (nth X4 (j9-2)) 19)^^^(FK (nth X4 (j9-2)) 61))^^^((nth X4 (j9-2))>>>6)))
def GQ(tx:AA 8)(j5:Nat):Nat→AA 64
 |0=>AC 80
 |j9+1=>Qj tx j5 (GQ tx j5 j9) j9
@[simp] theorem Ql(tx:AA 8)(j5 j9:Nat):(GQ tx j5 j9).length=80:=by
 induction j9 with
 |zero=>(simp [GQ, *];done)
 |succ j9 ih=>rw [GQ.eq_2,Qj];(split<;>first | (simp [ih];done) | (simp [ih];omega) | (simp [LD, *];done))
def Nz(Y5 X6:AA 64)(j20:Nat):AA 64:=[(((((nth X6 7)+(((FK (nth X6 4) 14)^^^(FK (nth X6 4) 18))^^^(FK (nth X6 4) 41)))+(((nth X6 4)&&&(nth X6 5))^^^((~~~(nth X6 4))&&&(nth X6 6))))+(nth KE j20))+(nth Y5 j20))+((((FK (nth X6 0) 28)^^^(FK (nth X6 0) 34))^^^(FK (nth X6 0) 39))+((((nth X6 0)&&&(nth X6 1))^^^((nth X6 0)&&&(nth X6 2)))^^^((nth X6 1)&&&(nth X6 2)))),nth X6 0,nth X6 1,nth X6 2,(nth X6 3)+(((((nth X6 7)+(((FK (nth X6 4) 14)^^^(FK (nth X6 4) 18))^^^(FK (nth X6 4) 41)))+(((nth X6 4)&&&(nth X6 5))^^^((~~~(nth X6 4))&&&(nth X6 6))))+(nth KE j20))+(nth Y5 j20)),nth X6 4,nth X6 5,nth X6 6]
def Ep(X3 Y5:AA 64):Nat→AA 64
 |0=>X3
 |j20+1=>Nz Y5 (Ep X3 Y5 j20) j20
theorem PA(X3 Y5:AA 64)(hX3:X3.length=8)(_hY5:Y5.length=80)(j20:Nat):(Ep X3 Y5 j20).length=8:=by
 induction j20 with
 |zero=>(simp [Ep, *];done)
 |succ j20 ih=>rw [Ep.eq_2,Nz];(simp;done)
def TD(Y7 X8:AA 64)(j27:Nat):AA 64:=put X8 j27 ((nth X8 j27)+(nth Y7 j27))
def Ez(X3 Y7:AA 64):Nat→AA 64
 |0=>X3
 |j27+1=>TD Y7 (Ez X3 Y7 j27) j27
theorem ON(X3 Y7:AA 64)(hX3:X3.length=8)(j27:Nat):(Ez X3 Y7 j27).length=8:=by
 induction j27 with
 |zero=>(simp [Ez, *];done)
 |succ j27 ih=>rw [Ez.eq_2,TD];(simp [ih];done)
def QK(tx:AA 8)(X3:AA 64)(j5:Nat):AA 64:=(Ez X3 (Ep X3 (GQ tx j5 80) 80) 8)
def GD(tx:AA 8):Nat→AA 64
 |0=>[7640891576956012808#64,13503953896175478587#64,4354685564936845355#64,11912009170470909681#64,5840696475078001361#64,11170449401992604703#64,2270897969802886507#64,6620516959819538809#64]
 |j5+1=>QK tx (GD tx j5) j5
@[simp] theorem WK(tx:AA 8)(j5:Nat):(GD tx j5).length=8:=by
 induction j5 with
 |zero=>(simp [GD, *];done)
 |succ j5 ih=>rw [GD.eq_2,QK];(simp [ON, *];done)
def N5(Y13:AA 64)(X14:AA 8)(j32:Nat):AA 8:=put X14 j32 (((nth Y13 (j32/8))>>>(BitVec.ofNat 64 (56-(8*(j32%8)))).toNat).setWidth 8)
def Ew(Y13:AA 64):Nat→AA 8
 |0=>Ac 64
 |j32+1=>N5 Y13 (Ew Y13 j32) j32
@[simp] theorem UW(Y13:AA 64)(j32:Nat):(Ew Y13 j32).length=64:=by
 induction j32 with
 |zero=>(simp [Ew, *];done)
 |succ j32 ih=>rw [Ew.eq_2,N5];(simp [ih];done)
def ms(tx:AA 8):AA 8:=(Ew (GD tx (((((tx.length+1)+(240-(tx.length+1)%128)%128)+16)+127)/128)) 64)
theorem pR(k:r)(h:Hid r→g:=by intro h;refine AB (AN (j:=0) rfl rfl underlying153 Am O_) rfl ?_;exact h.out):g:=h ⟨k⟩
theorem xM(b:AA 8)(o n cap:Nat)(hb:o+n≤b.length)(hn:n≤2199023255552):Ev prog (.call 138 [.c (.sl 0 o n cap 1)] [A0 (b)]) (.val (BM (ms (cut b o n))) [A0 (b)]):=by
 have hP:=Hid.mk (ms.eq_1 (cut b o n))
 have htx:(cut b o n).length=n:=by rw [BV];omega
 try simp only [htx] at hP
 refine AI func138 rfl ntmps138 rfl AM ?_;refine Ab ?_;refine F6 ?_;refine AR ?_;have hQ1:(KE).length=80:=AP
 refine Ab ?_;refine Ae (vy) AF3 ?_;refine Ap (Ay ib AM) AT rfl ?_;refine Bs rfl rfl rfl rfl qU B7 B7 AT ?_;refine AZ ?_;refine zJ ?_;refine QB ?_;refine QR ?_;refine AR ?_;have hQ2:(JO (cut b o n)).length=((n+1)+(240-(n+1)%128)%128)+16:=AP
 refine A1 ?_;refine bM (vh b o n cap AD AD) AEM ?_;refine Ai ?_;refine Al ?_;refine AK [2,3,4,5,6] (fun (zz:Nat×AA 64)=>⟨208,AU [2,3,4,5,6] [AY 1,AY 2,AY 3,.c (.sl 4 0 (((n+1)+(240-(n+1)%128)%128)+16) (((n+1)+(240-(n+1)%128)%128)+16) 1),At (((128*zz.1:Nat):Int))],[A0 (b),BP (Ac 64),Bb (KE),Bb (zz.2),BP (JO (cut b o n))]⟩) (fun j5=>(j5,GD (cut b o n) j5)) (((((n+1)+(240-(n+1)%128)%128)+16)+127)/128) K_ ?_ ?_
 ·intro j5 hj5
  try dsimp only
  have hX3:(GD (cut b o n) j5).length=8:=by rw [WK (cut b o n) _];try omega
  rw [GD.eq_2,QK]
  try simp only [htx]
  generalize GD (cut b o n) j5=X3 at*
  refine CK ?_;refine Hc ?_;refine AZ ?_;refine Ap (Ay ib AM) AT rfl ?_;refine B0 ?_;refine AK [2,3,4,5,6,7,8] (fun (zz:Nat×AA 64)=>⟨208,AU [2,3,4,5,6,7,8] [AY 1,AY 2,AY 3,.c (.sl 4 0 (((n+1)+(240-(n+1)%128)%128)+16) (((n+1)+(240-(n+1)%128)%128)+16) 1),At (((128*j5:Nat):Int)),AY 5,At (((zz.1:Nat):Int))],[A0 (b),BP (Ac 64),Bb (KE),Bb (X3),BP (JO (cut b o n)),Bb (zz.2)]⟩) (fun j9=>(j9,GQ (cut b o n) j5 j9)) (80) K_ ?_ ?_
  ·intro j9 hj9
   try dsimp only
   have hX4:(GQ (cut b o n) j5 j9).length=80:=by rw [Ql (cut b o n) j5 _];try omega
   rw [GQ.eq_2,Qj]
   try simp only [htx]
   generalize GQ (cut b o n) j5 j9=X4 at*
   refine A1 ?_;refine AB (A8 (b:=80) rfl rfl) rfl ?_;refine Ak ?_;refine GF ?_;refine EA ?_;by_cases hc5:j9<16
   ·try simp only [if_pos hc5] at*
    refine FJ rfl (decide_eq_true hc5) ?_;refine Ab ?_;refine Al ?_;refine AK [2,3,4,5,6,7,8,9] (fun (zz:Nat×AA 64)=>⟨208,AU [2,3,4,5,6,7,8,9] [AY 1,AY 2,AY 3,.c (.sl 4 0 (((n+1)+(240-(n+1)%128)%128)+16) (((n+1)+(240-(n+1)%128)%128)+16) 1),At (((128*j5:Nat):Int)),AY 5,At (((j9:Nat):Int)),At (((zz.1:Nat):Int))],[A0 (b),BP (Ac 64),Bb (KE),Bb (X3),BP (JO (cut b o n)),Bb (zz.2)]⟩) (fun j13=>(j13,EV (cut b o n) j5 X4 j9 j13)) (8) K_ ?_ ?_
    ·intro j13 hj13
     try dsimp only
     have hX6:(EV (cut b o n) j5 X4 j9 j13).length=80:=by rw [LD (cut b o n) j5 X4 j9 hX4 _];try omega
     rw [EV.eq_2,OD]
     try simp only [htx]
     generalize EV (cut b o n) j5 X4 j9 j13=X6 at*
     refine A1 ?_;refine Rc ?_;refine Ar ?_;refine iW ?_;refine Ca ?_;refine I2 ?_;refine DT ?_;refine AH (CM (j:=8) rfl rfl) rfl ?_;refine Ca ?_;refine AW ?_;refine Ud ?_;refine P0 ?_;refine AW ?_;refine P0 ?_;refine Of ?_;refine EK ?_;refine W3 ?_;refine Uy ?_;refine I2 ?_;refine Kn ?_;refine Cc ?_;exact ⟨(j13+1,_),K_,rfl⟩
    ·try dsimp only
     have hY7:(EV (cut b o n) j5 X4 j9 8).length=80:=by rw [LD (cut b o n) j5 X4 j9 hX4 _];try omega
     generalize EV (cut b o n) j5 X4 j9 8=Y7 at*
     refine A1 ?_;refine Ub ?_;refine Cc ?_;exact ⟨(j9+1,_),K_,rfl⟩
   ·try simp only [if_neg hc5] at*
    refine Cg rfl (decide_eq_false hc5) ?_;refine S_ ?_;refine RZ ?_;refine ft ?_;refine I2 ?_;refine Fm ?_;refine fk ?_;refine I2 ?_;refine DT ?_;refine I6 ?_;refine I7 ?_;refine B5 29 mixed K_ rfl rfl rfl ?_;refine Ca ?_;refine gK ?_;refine I2 ?_;refine Fm ?_;refine jJ ?_;refine I2 ?_;refine DT ?_;refine RI ?_;refine AO (Fl (nth X4 (j9-15)) 1 AD) OZ ?_;refine AW ?_;refine AO (Fl (nth X4 (j9-15)) 8 AD) OZ ?_;refine L0 ?_;refine AW ?_;refine AH (CW (j:=7) rfl rfl) rfl ?_;refine L0 ?_;refine RI ?_;refine AO (Fl (nth X4 (j9-2)) 19 AD) OZ ?_;refine AW ?_;refine AO (Fl (nth X4 (j9-2)) 61 AD) OZ ?_;refine L0 ?_;refine AW ?_;refine AH (CW (j:=6) rfl rfl) rfl ?_;refine L0 ?_;refine Mq ?_;refine I2 ?_;refine Kn ?_;refine Cc ?_;exact ⟨(j9+1,_),K_,rfl⟩
  ·try dsimp only
   have hY8:(GQ (cut b o n) j5 80).length=80:=by rw [Ql (cut b o n) j5 _];try omega
   generalize GQ (cut b o n) j5 80=Y8 at*
   refine A1 ?_;refine ju ?_;refine AZ ?_;refine fz ?_;refine QB ?_;refine QR ?_;refine B0 ?_;refine AK [2,3,4,5,6,7,12,13] (fun (zz:Nat×AA 64)=>⟨208,AU [2,3,4,5,6,7,12,13] [AY 1,AY 2,AY 3,.c (.sl 4 0 (((n+1)+(240-(n+1)%128)%128)+16) (((n+1)+(240-(n+1)%128)%128)+16) 1),At (((128*j5:Nat):Int)),AY 5,AY 6,At (((zz.1:Nat):Int))],[A0 (b),BP (Ac 64),Bb (KE),Bb (X3),BP (JO (cut b o n)),Bb (Y8),Bb (zz.2)]⟩) (fun j20=>(j20,Ep X3 Y8 j20)) (80) K_ ?_ ?_
   ·intro j20 hj20
    try dsimp only
    have hX9:(Ep X3 Y8 j20).length=8:=by rw [PA X3 Y8 hX3 hY8 _];try omega
    rw [Ep.eq_2,Nz]
    try simp only [htx]
    generalize Ep X3 Y8 j20=X9 at*
    refine A1 ?_;refine AB (A8 (b:=80) rfl rfl) rfl ?_;refine Ar ?_;refine SU ?_;refine AH (AN (j:=0) rfl rfl underlying153 Am O_) rfl ?_;refine DT ?_;refine AH (AN (j:=4) rfl rfl underlying153 Am O_) rfl ?_;refine DT ?_;refine I6 ?_;refine I7 ?_;refine B5 31 mixed K_ rfl rfl rfl ?_;refine AH (AN (j:=7) rfl rfl underlying153 Am O_) rfl ?_;refine Fm ?_;refine AO (Fl (nth X9 4) 14 AD) OZ ?_;refine AW ?_;refine AO (Fl (nth X9 4) 18 AD) OZ ?_;refine L0 ?_;refine AW ?_;refine AO (Fl (nth X9 4) 41 AD) OZ ?_;refine L0 ?_;refine RI ?_;refine AH (AN (j:=5) rfl rfl underlying153 Am O_) rfl ?_;refine DT ?_;refine Ul ?_;refine AW ?_;refine AH (fR rfl) rfl ?_;refine AH (AN (j:=6) rfl rfl underlying153 Am O_) rfl ?_;refine DT ?_;refine Ul ?_;refine L0 ?_;refine RI ?_;refine I2 ?_;refine DT ?_;refine RI ?_;refine I2 ?_;refine DT ?_;refine Mq ?_;refine I7 ?_;refine iO ?_;refine AW ?_;refine AO (Fl (nth X9 0) 28 AD) OZ ?_;refine AW ?_;refine AO (Fl (nth X9 0) 34 AD) OZ ?_;refine L0 ?_;refine AW ?_;refine AO (Fl (nth X9 0) 39 AD) OZ ?_;refine L0 ?_;refine AW ?_;refine AH (AN (j:=1) rfl rfl underlying153 Am O_) rfl ?_;refine DT ?_;refine Ul ?_;refine AW ?_;refine AH (AN (j:=2) rfl rfl underlying153 Am O_) rfl ?_;refine DT ?_;refine Ul ?_;refine L0 ?_;refine AH (AN (j:=1) rfl rfl underlying153 Am O_) rfl ?_;refine DT ?_;refine AH (AN (j:=2) rfl rfl underlying153 Am O_) rfl ?_;refine DT ?_;refine Ul ?_;refine L0 ?_;refine Mq ?_;refine Ft ?_;refine GW ?_;refine EW ?_;refine pR ?_;refine A3 ?_;refine Xo ?_;refine A3 ?_;refine W4 ?_;refine A3 ?_;refine jP ?_;refine Ed ?_;refine EW ?_;refine AB (AN (j:=4) rfl rfl underlying153 Am O_) rfl ?_;refine A3 ?_;refine oa ?_;refine A3 ?_;refine qH ?_;refine A3 ?_;refine AB (JX (l:=[_,_,_,_,_,_,_,_]) qC underlying153 Am rfl rfl D_) rfl ?_;refine QR ?_;refine Cc ?_;exact ⟨(j20+1,_),K_,rfl⟩
   ·try dsimp only
    have hY10:(Ep X3 Y8 80).length=8:=by rw [PA X3 Y8 hX3 hY8 _];try omega
    generalize Ep X3 Y8 80=Y10 at*
    refine A1 ?_;refine ju ?_;refine B0 ?_;refine AK [2,3,4,5,6,12,18] (fun (zz:Nat×AA 64)=>⟨208,AU [2,3,4,5,6,12,18] [AY 1,AY 2,AY 3,.c (.sl 4 0 (((n+1)+(240-(n+1)%128)%128)+16) (((n+1)+(240-(n+1)%128)%128)+16) 1),At (((128*j5:Nat):Int)),AY 5,At (((zz.1:Nat):Int))],[A0 (b),BP (Ac 64),Bb (KE),Bb (zz.2),BP (JO (cut b o n)),Bb (Y10)]⟩) (fun j27=>(j27,Ez X3 Y10 j27)) (8) K_ ?_ ?_
    ·intro j27 hj27
     try dsimp only
     have hX11:(Ez X3 Y10 j27).length=8:=by rw [ON X3 Y10 hX3 _];try omega
     rw [Ez.eq_2,TD]
     try simp only [htx]
     generalize Ez X3 Y10 j27=X11 at*
     refine A1 ?_;refine Rc ?_;refine Ar ?_;refine SG ?_;refine AW ?_;refine QF ?_;refine Fm ?_;refine QF ?_;refine DT ?_;refine Mq ?_;refine QF ?_;refine Kn ?_;refine Cc ?_;exact ⟨(j27+1,_),K_,rfl⟩
    ·try dsimp only
     have hY12:(Ez X3 Y10 8).length=8:=by rw [ON X3 Y10 hX3 _];try omega
     generalize Ez X3 Y10 8=Y12 at*
     refine A1 ?_;refine Ub ?_;refine Ak ?_;refine AB (B8 (b:=128) rfl rfl O_) rfl ?_;refine BZ ?_;exact ⟨(j5+1,_),K_,rfl⟩
 ·try dsimp only
  have hY13:(GD (cut b o n) (((((n+1)+(240-(n+1)%128)%128)+16)+127)/128)).length=8:=by rw [WK (cut b o n) _];try omega
  generalize GD (cut b o n) (((((n+1)+(240-(n+1)%128)%128)+16)+127)/128)=Y13 at*
  refine CK ?_;refine Hc ?_;refine AZ ?_;refine F6 ?_;refine B0 ?_;refine AK [2,4,19,20] (fun (zz:Nat×AA 8)=>⟨208,AU [2,4,19,20] [AY 1,AY 2,AY 3,At (((zz.1:Nat):Int))],[A0 (b),BP (Ac 64),Bb (Y13),BP (zz.2)]⟩) (fun j32=>(j32,Ew Y13 j32)) (64) K_ ?_ ?_
  ·intro j32 hj32
   try dsimp only
   have hX14:(Ew Y13 j32).length=64:=by rw [UW Y13 _];try omega
   rw [Ew.eq_2,N5]
   try simp only [htx]
   generalize Ew Y13 j32=X14 at*
   refine Hh ?_;refine GW ?_;refine Oo ?_;refine bC ?_;refine Ed ?_;refine Qi ?_;refine KN ?_;refine AB (E4 (a:=56) rfl rfl O_ O_) rfl ?_;refine QE ?_;refine Vv ?_;refine RS ?_;refine Wj ?_;refine Ct ?_;refine Cc ?_;exact ⟨(j32+1,_),K_,rfl⟩
  ·try dsimp only
   have hY15:(Ew Y13 64).length=64:=by rw [UW Y13 _];try omega
   generalize Ew Y13 64=Y15 at*
   refine A1 ?_;refine Lr ?_;refine AZ ?_;refine jm ?_;refine OQ ?_;refine Ar ?_;rw [hP.out]
   exact jK
attribute [irreducible] ms
theorem wY:H8=KE:=by with_unfolding_all rfl
theorem AJJ(tx:AA 8)(n:Nat):Er tx n=D2 tx n:=by
 induction n with
 |zero=>rfl
 |succ n ih=>rw [Er.eq_2,D2.eq_2,ih];rfl
theorem AG4(tx Y:AA 8)(hn:tx.length<2305843009213693952):DH tx Y 16=Cs (Cs Y (BitVec.ofNat 64 tx.length>>>61)) (BitVec.ofNat 64 tx.length<<<3):=by
 have h0:BitVec.ofNat 64 tx.length>>>61=0#64:=by
  apply BitVec.eq_of_toNat_eq
  rw [BitVec.toNat_ushiftRight,BitVec.toNat_ofNat,Nat.shiftRight_eq_div_pow]
  show _/2305843009213693952=0
  omega
 have h1:∀j,j≤8→DH tx Y j=Y++List.replicate j 0#8:=by
  intro j
  induction j with
  |zero=>intro _;simp [DH]
  |succ j ih=>intro hj;rw [DH.eq_2,ih O_,LX,if_pos O_,List.replicate_succ'];simp
 have h2:∀j,j≤8→DH tx Y (8+j)=Bn (Y++List.replicate 8 0#8) (BitVec.ofNat 64 tx.length<<<3) j:=by
  intro j
  induction j with
  |zero=>intro _;rw [h1 8 O_];rfl
  |succ j ih=>
   intro hj
   rw [show 8+(j+1)=(8+j)+1 from rfl,DH.eq_2,Bn.eq_2,ih O_,LX,F5,if_neg O_,AIb,AKI O_,show 15-(8+j)=7-j by omega]
 unfold Cs
 rw [h0,ABk Y 8 O_]
 exact h2 8 O_
theorem wg(tx:AA 8)(hn:tx.length<2305843009213693952):JO tx=Fi tx:=by
 unfold JO Fi
 rw [AG4 _ _ hn,AJJ]
theorem ADA(tx:AA 8)(hn:tx.length<2305843009213693952)(q:Nat)(X:AA 64)(hX:X.length=80)(j:Nat)(hj:j<80)(h0:nth X j=0#64):EV tx q X j 8=put X j (MR (Fi tx) ((128*q)+(8*j)) (((8*j)+8)-(8*j))):=by
 have hpad:=wg tx hn
 have h:∀i,i≤8→EV tx q X j i=put X j (Ea (Fi tx) ((128*q)+(8*j)) i):=by
  intro i
  induction i with
  |zero=>intro _;show X=put X j _;rw [show Ea (Fi tx) ((128*q)+(8*j)) 0=nth X j from h0.symm,rE X j O_]
  |succ i ih=>
   intro hi
   rw [EV.eq_2,ih O_,OD,rr,VV X j _ O_,Ea.eq_2,MN,hpad]
 have e:=h 8 O_
 rw [e,show (8*j)+8-(8*j)=8 by omega]
 unfold MR
 rfl
theorem AAw(tx:AA 8)(hn:tx.length<2305843009213693952)(q:Nat):∀j,j≤80→GQ tx q j=Dx tx q j∧ ∀i,j≤i→nth (Dx tx q j) i=0#64:=by
 intro j
 induction j with
 |zero=>intro _;exact ⟨rfl,fun i _=>ADM _ _⟩
 |succ j ih=>
  intro hj
  obtain ⟨h1,h2⟩:=ih O_
  have hl:=IX tx q j
  rw [GQ.eq_2,Dx.eq_2,h1]
  generalize Dx tx q j=X at*
  rw [Qj,Nv]
  by_cases h:j<16
  ·rw [if_pos h,if_pos h]
   refine ⟨ADA tx hn q X hl j O_ (h2 j (Nat.le_refl _)),fun i hi=>?_⟩
   rw [CD X j i _ O_,if_neg O_]
   exact h2 i O_
  ·rw [if_neg h,if_neg h]
   refine ⟨?_,fun i hi=>?_⟩
   ·unfold FK
    congr 1
    congr 1
    rw [BitVec.add_assoc,BitVec.add_assoc]
    congr 1
    exact BitVec.add_comm _ _
   ·rw [CD X j i _ O_,if_neg O_]
    exact h2 i O_
theorem tb(H Y:AA 64)(j:Nat):Ep H Y j=D6 H Y j:=by
 induction j with
 |zero=>rfl
 |succ j ih=>
  rw [Ep.eq_2,D6.eq_2,ih,Nz,MH,wY]
  unfold FK
  rfl
theorem ACc(H Y:AA 64)(j:Nat):Ez H Y j=Dw H Y j:=by
 induction j with
 |zero=>rfl
 |succ j ih=>rw [Ez.eq_2,Dw.eq_2,ih];rfl
theorem vB(tx:AA 8)(hn:tx.length<2305843009213693952)(j:Nat):GD tx j=Eu tx j:=by
 induction j with
 |zero=>rfl
 |succ j ih=>rw [GD.eq_2,Eu.eq_2,ih,QK,Nt,ACc,tb,(AAw tx hn j 80 O_).1]
theorem ABz(H:AA 64)(j:Nat):Ew H j=D0 H j:=by
 induction j with
 |zero=>rfl
 |succ j ih=>
  rw [Ew.eq_2,D0.eq_2,ih,N5,Ma,BitVec.toNat_ofNat,Nat.mod_eq_of_lt O_]
theorem mX(tx:AA 8)(hn:tx.length<2305843009213693952):ms tx=HJ tx:=by
 unfold ms HJ
 rw [ABz,vB tx hn]
 congr 2
 omega
theorem vR(b:AA 8)(o n cap:Nat)(hb:o+n≤b.length)(hn:n≤2199023255552):Ev prog (.call 138 [.c (.sl 0 o n cap 1)] [A0 b]) (.val (BM (HJ (cut b o n))) [A0 b]):=by
 have h:=xM b o n cap hb hn
 rw [mX _ (by rw [BV];omega)] at h
 exact h
theorem ox(b:AA 8)(n cap:Nat)(hb:b.length=n)(hn:n≤2199023255552):Ev prog (.call 138 [.c (.sl 0 0 n cap 1)] [A0 b]) (.val (BM (HJ b)) [A0 b]):=by
 have h:=vR b 0 n cap O_ hn
 rw [IE hb] at h
 exact h
def mHi(lo hi:AA 64):BitVec 64:=(nth (An hi (put (AC 4) 0 38#64)) 4)+(KA lo [nth (An hi (put (AC 4) 0 38#64)) 0,nth (An hi (put (AC 4) 0 38#64)) 1,nth (An hi (put (AC 4) 0 38#64)) 2,nth (An hi (put (AC 4) 0 38#64)) 3])
def mLo(lo hi:AA 64):AA 64:=AJ lo [nth (An hi (put (AC 4) 0 38#64)) 0,nth (An hi (put (AC 4) 0 38#64)) 1,nth (An hi (put (AC 4) 0 38#64)) 2,nth (An hi (put (AC 4) 0 38#64)) 3]
def RO(a b:AA 64):Nat→AA 64×AA 64
 |0=>([nth (An a b) 0,nth (An a b) 1,nth (An a b) 2,nth (An a b) 3],[nth (An a b) 4,nth (An a b) 5,nth (An a b) 6,nth (An a b) 7])
 |j+1=>(mLo (RO a b j).1 (RO a b j).2,put (AC 4) 0 (mHi (RO a b j).1 (RO a b j).2))
def mH(a b:AA 64)(j:Nat):BitVec 64:=mHi (RO a b j).1 (RO a b j).2
def kH(a b:AA 64):Nat:=if mH a b 0=0#64 then 1 else if mH a b 1=0#64 then 2 else 3
theorem TA(x:BitVec 64):wV (put (AC 4) 0 x)=x.toNat:=by
 show x.toNat+(0#64).toNat*_+(0#64).toNat*_+(0#64).toNat*_=_
 rw [show (0#64:BitVec 64).toNat=0 from rfl]
 omega
theorem eT(x:AA 64):Rh x 8=wV [nth x 0,nth x 1,nth x 2,nth x 3]+wV [nth x 4,nth x 5,nth x 6,nth x 7]*115792089237316195423570985008687907853269984665640564039457584007913129639936:=by
 have e1:wV [nth x 0,nth x 1,nth x 2,nth x 3]=(nth x 0).toNat+(nth x 1).toNat*18446744073709551616+(nth x 2).toNat*340282366920938463463374607431768211456+(nth x 3).toNat*6277101735386680763835789423207666416102355444464034512896:=rfl
 have e2:wV [nth x 4,nth x 5,nth x 6,nth x 7]=(nth x 4).toNat+(nth x 5).toNat*18446744073709551616+(nth x 6).toNat*340282366920938463463374607431768211456+(nth x 7).toNat*6277101735386680763835789423207666416102355444464034512896:=rfl
 rw [e1,e2]
 simp only [Rh,Nat.pow_zero,Nat.reducePow]
 omega
theorem rV(a b:AA 64)(j:Nat):(RO a b j).1.length=4∧(RO a b j).2.length=4:=by
 cases j with
 |zero=>exact ⟨rfl,rfl⟩
 |succ j=>exact ⟨Uo _ _,rfl⟩
theorem vM{lo hi:AA 64}(hl:lo.length=4):wV (mLo lo hi)+(mHi lo hi).toNat*115792089237316195423570985008687907853269984665640564039457584007913129639936=wV lo+38*wV hi:=by
 unfold mLo mHi
 have hv:=YM hi (put (AC 4) 0 38#64)
 rw [TA,show (38#64:BitVec 64).toNat=38 from rfl] at hv
 generalize An hi (put (AC 4) 0 38#64)=x at*
 rw [eT] at hv
 obtain ⟨e,hc⟩:=Tt (a:=lo) (b:=[nth x 0,nth x 1,nth x 2,nth x 3]) hl rfl
 have b1:=IF hi
 have b2:=IF [nth x 0,nth x 1,nth x 2,nth x 3]
 have hx:wV [nth x 4,nth x 5,nth x 6,nth x 7]=(nth x 4).toNat+(nth x 5).toNat*18446744073709551616+(nth x 6).toNat*340282366920938463463374607431768211456+(nth x 7).toNat*6277101735386680763835789423207666416102355444464034512896:=rfl
 rw [hx] at hv
 clear hx
 have hs:=CU (x:=nth x 4) (y:=KA lo [nth x 0,nth x 1,nth x 2,nth x 3])
 generalize nth x 4+KA lo [nth x 0,nth x 1,nth x 2,nth x 3]=w at*
 generalize KA lo [nth x 0,nth x 1,nth x 2,nth x 3]=c at*
 generalize wV (AJ lo [nth x 0,nth x 1,nth x 2,nth x 3])=r at*
 generalize wV [nth x 0,nth x 1,nth x 2,nth x 3]=q at*
 generalize wV lo=l at*
 generalize wV hi=h at*
 have h4:=(nth x 4).isLt
 generalize (nth x 4).toNat=x4 at*
 generalize (nth x 5).toNat=x5 at*
 generalize (nth x 6).toNat=x6 at*
 generalize (nth x 7).toNat=x7 at*
 have hx4:x4<64∧x5=0∧x6=0∧x7=0:=by omega
 obtain ⟨g4,g5,g6,g7⟩:=hx4
 rw [hs O_]
 clear hs
 rw [g5,g6,g7] at hv
 simp only [Nat.zero_mul,Nat.add_zero] at hv
 rw [Nat.add_mul,Nat.add_comm (x4*_) _,←Nat.add_assoc,e,Nat.add_assoc,hv,Nat.mul_comm]
theorem ZN(a b:AA 64)(j:Nat):wV (RO a b (j+1)).1+(mH a b j).toNat*115792089237316195423570985008687907853269984665640564039457584007913129639936=wV (RO a b j).1+38*wV (RO a b j).2:=vM (rV a b j).1
theorem se(a b:AA 64)(j:Nat):wV (RO a b (j+1)).2=(mH a b j).toNat:=TA _
theorem xB(a b:AA 64):(mH a b 0).toNat≤38∧(mH a b 1).toNat≤1∧(mH a b 1≠0#64→mH a b 2=0#64):=by
 have s0:wV (RO a b 1).1+(mH a b 0).toNat*115792089237316195423570985008687907853269984665640564039457584007913129639936=wV (RO a b 0).1+38*wV (RO a b 0).2:=ZN a b 0
 have s1:wV (RO a b 2).1+(mH a b 1).toNat*115792089237316195423570985008687907853269984665640564039457584007913129639936=wV (RO a b 1).1+38*(mH a b 0).toNat:=(ZN a b 1).trans (by rw [show wV (RO a b 1).2=(mH a b 0).toNat from se a b 0])
 have s2:wV (RO a b 3).1+(mH a b 2).toNat*115792089237316195423570985008687907853269984665640564039457584007913129639936=wV (RO a b 2).1+38*(mH a b 1).toNat:=(ZN a b 2).trans (by rw [show wV (RO a b 2).2=(mH a b 1).toNat from se a b 1])
 have l0:=IF (RO a b 0).1
 have m0:=IF (RO a b 0).2
 have l1:=IF (RO a b 1).1
 have l2:=IF (RO a b 2).1
 have l3:=IF (RO a b 3).1
 have h0:(mH a b 0).toNat≤38:=by omega
 have h1:(mH a b 1).toNat≤1:=by omega
 refine ⟨h0,h1,fun hne=>?_⟩
 have h1':(mH a b 1).toNat=1:=by
  have:(mH a b 1).toNat≠0:=fun e=>hne (BitVec.eq_of_toNat_eq (by rw [e];rfl))
  omega
 apply BitVec.eq_of_toNat_eq
 show (mH a b 2).toNat=0
 omega
theorem zn(n:Nat):zf (n*115792089237316195423570985008687907853269984665640564039457584007913129639936)=zf (38*n):=by
 rw [YI]
 show _%57896044618658097711785492504343953926634992332820282019728792003956564819949=_%57896044618658097711785492504343953926634992332820282019728792003956564819949
 omega
theorem AKP(a b:AA 64):∀j,zf (wV (RO a b j).1)+zf (38*wV (RO a b j).2)=zf (wV a*wV b):=by
 intro j
 induction j with
 |zero=>
  have hv:=YM a b
  rw [eT] at hv
  rw [←hv,S1,zn]
  rfl
 |succ j ih=>rw [←ih,←S1 (wV (RO a b j).1),←ZN,S1,zn,se]
theorem AHO(a b:AA 64):zf (wV (RO a b (kH a b)).1)=zf (wV a)*zf (wV b):=by
 have key:∀j,mH a b j=0#64→zf (wV (RO a b (j+1)).1)=zf (wV a)*zf (wV b):=fun j h=>by
  have:=AKP a b (j+1)
  rw [se,h,show 38*(0#64:BitVec 64).toNat=0 from rfl,rY,jt] at this
  rw [←this]
  generalize zf (wV (RO a b (j+1)).1)=x
  grobner
 obtain ⟨_,_,h3⟩:=xB a b
 unfold kH
 split
 ·exact key 0 (by assumption)
 ·split
  ·exact key 1 (by assumption)
  ·exact key 2 (h3 (by assumption))
theorem AB9(a b:AA 64)(j:Nat)(hj:j+1≤kH a b):(mH a b j !=0#64)=decide (j+1<kH a b):=by
 obtain ⟨_,_,h3⟩:=xB a b
 have eb:∀x:BitVec 64,x=0#64→(x !=0#64)=false:=fun x h=>by rw [h];rfl
 have nb:∀x:BitVec 64,x≠0#64→(x !=0#64)=true:=fun x h=>by simp [h]
 unfold kH at*
 by_cases e0:mH a b 0=0#64
 ·rw [if_pos e0] at*
  obtain rfl:j=0:=by omega
  rw [eb _ e0];rfl
 ·rw [if_neg e0] at*
  by_cases e1:mH a b 1=0#64
  ·rw [if_pos e1] at*
   rcases (by omega:j=0∨j=1) with h | h<;>subst h
   ·rw [nb _ e0];rfl
   ·rw [eb _ e1];rfl
  ·rw [if_neg e1] at*
   rcases (by omega:j=0∨j=1∨j=2) with h | h | h<;>subst h
   ·rw [nb _ e0];rfl
   ·rw [nb _ e1];rfl
   ·rw [eb _ (h3 e1)];rfl
attribute [irreducible] kH mH
def VO(X3 X4:AA 64):Bool×AA 64×AA 64:=(((nth (put (AC 4) 0 ((nth (An X4 (put (AC 4) 0 38#64)) 4)+(KA X3 [nth (An X4 (put (AC 4) 0 38#64)) 0,nth (An X4 (put (AC 4) 0 38#64)) 1,nth (An X4 (put (AC 4) 0 38#64)) 2,nth (An X4 (put (AC 4) 0 38#64)) 3]))) 0) !=0#64),AJ X3 [nth (An X4 (put (AC 4) 0 38#64)) 0,nth (An X4 (put (AC 4) 0 38#64)) 1,nth (An X4 (put (AC 4) 0 38#64)) 2,nth (An X4 (put (AC 4) 0 38#64)) 3],put (AC 4) 0 ((nth (An X4 (put (AC 4) 0 38#64)) 4)+(KA X3 [nth (An X4 (put (AC 4) 0 38#64)) 0,nth (An X4 (put (AC 4) 0 38#64)) 1,nth (An X4 (put (AC 4) 0 38#64)) 2,nth (An X4 (put (AC 4) 0 38#64)) 3])))
def CY(a b:AA 64):Nat→Bool×AA 64×AA 64
 |0=>(true,[nth (An a b) 0,nth (An a b) 1,nth (An a b) 2,nth (An a b) 3],[nth (An a b) 4,nth (An a b) 5,nth (An a b) 6,nth (An a b) 7])
 |j5+1=>VO (CY a b j5).2.1 (CY a b j5).2.2
theorem UB(a b:AA 64)(_ha:a.length=4)(_hb:b.length=4)(j5:Nat):(CY a b j5).2.1.length=4∧(CY a b j5).2.2.length=4:=by
 induction j5 with
 |zero=>refine ⟨?_,?_⟩<;>(simp (maxDischargeDepth:=9) [CY, *];done)
 |succ j5 ih=>
  obtain ⟨ih1,ih2⟩:=ih
  rw [CY.eq_2,VO]
  refine ⟨?_,?_⟩<;>(simp (maxDischargeDepth:=9) [*];done)
theorem Oj(a b:AA 64)(ha:a.length=4)(hb:b.length=4)(j5:Nat):(CY a b j5).2.1.length=4:=(UB a b ha hb j5).1
theorem OP(a b:AA 64)(ha:a.length=4)(hb:b.length=4)(j5:Nat):(CY a b j5).2.2.length=4:=(UB a b ha hb j5).2
def Ff(a b:AA 64):AA 64:=Fx ((CY a b (kH a b)).2.1)
theorem AEC(a b:AA 64)(j:Nat):(CY a b j).2=RO a b j∧ ∀i,j=i+1→(CY a b j).1=(mH a b i !=0#64):=by
 induction j with
 |zero=>exact ⟨by rw [RO];rfl,fun i hi=>by omega⟩
 |succ j ih=>
  have e1:(CY a b j).2.1=(RO a b j).1:=by rw [ih.1]
  have e2:(CY a b j).2.2=(RO a b j).2:=by rw [ih.1]
  rw [CY,e1,e2]
  refine ⟨?_,fun i hi=>?_⟩
  ·rw [RO];rfl
  ·obtain rfl:i=j:=by omega
   unfold mH
   rfl
theorem bz(a b:AA 64)(_:a.length=4)(_:b.length=4)(j:Nat)(hj:j≤kH a b):(CY a b j).1=decide (j<kH a b):=by
 cases j with
 |zero=>
  have:0<kH a b:=by unfold kH;split<;>(try split)<;>decide
  rw [decide_eq_true this];rfl
 |succ j=>rw [(AEC a b (j+1)).2 j rfl];exact AB9 a b j hj
theorem nl(k:r)(h:Hid r→g:=by intro h;refine AB (JX (l:=[_,_,_,_]) nP underlying128 Am rfl rfl D_) rfl ?_;exact h.out):g:=h ⟨k⟩
theorem jW(k:r)(h:Hid r→g:=by intro h;refine AB (AN (j:=0) rfl rfl underlying128 Am O_) rfl ?_;exact h.out):g:=h ⟨k⟩
theorem cu(a b:AA 64)(ha:a.length=4)(hb:b.length=4):Ev prog (.call 86 [Aw (a),Aw (b)] []) (.val (Aw (Ff a b)) []):=by
 have hP:=Hid.mk (Ff.eq_1 a b)
 refine AI func86 rfl ntmps86 rfl AM ?_;refine BO ?_;refine FG ?_;refine AR ?_;have hQ1:(An a b).length=8:=AP
 refine IK ?_;refine Ae (au a b AD AD) xY ?_;refine QB ?_;refine QR ?_;refine AZ ?_;refine pR ?_;refine A3 ?_;refine Xo ?_;refine A3 ?_;refine W4 ?_;refine A3 ?_;refine jP ?_;refine A3 ?_;refine nl ?_;refine Lq ?_;refine AZ ?_;refine AB (AN (j:=4) rfl rfl underlying153 Am O_) rfl ?_;refine A3 ?_;refine oa ?_;refine A3 ?_;refine qH ?_;refine A3 ?_;refine AB (AN (j:=7) rfl rfl underlying153 Am O_) rfl ?_;refine A3 ?_;refine nl ?_;refine Lq ?_;refine B0 ?_;refine AK [4,6,7,8] (fun (zz:Nat×Bool×AA 64×AA 64)=>⟨62,AU [4,6,7,8] [AY 0,AY 1,AY 2,.c (.val (.bool (zz.2.1)))],[Bb (AC 4),Bb (zz.2.2.1),Bb (zz.2.2.2)]⟩) (fun j5=>(j5,CY a b j5)) (kH a b) K_ ?_ ?_
 ·intro j5 hj5
  try dsimp only
  have hX3:(CY a b j5).2.1.length=4:=by rw [Oj a b ha hb _];try omega
  have hX4:(CY a b j5).2.2.length=4:=by rw [OP a b ha hb _];try omega
  have hm:=bz a b ha hb j5 O_
  rw [CY.eq_2,VO]
  generalize CY a b j5=Z5 at*
  obtain ⟨X2,X3,X4⟩:=Z5
  try dsimp only at*
  subst hm
  refine A1 ?_;refine AR ?_;have hQ6:(An X4 (put (AC 4) 0 38#64)).length=8:=AP
  refine Kc ?_;refine AB (Fd (l:=(put (AC 4) 0 (38#64))) Hx underlying128 Am rfl rfl) rfl ?_;refine Ae (au X4 (put (AC 4) 0 38#64) AD AD) xY ?_;refine QB ?_;refine QR ?_;refine AR ?_;have hQ7:(AJ X3 [nth (An X4 (put (AC 4) 0 38#64)) 0,nth (An X4 (put (AC 4) 0 38#64)) 1,nth (An X4 (put (AC 4) 0 38#64)) 2,nth (An X4 (put (AC 4) 0 38#64)) 3]).length=4:=AP
  refine Kc ?_;refine pR ?_;refine A3 ?_;refine Xo ?_;refine A3 ?_;refine W4 ?_;refine A3 ?_;refine jP ?_;refine A3 ?_;refine nl ?_;refine Ae (S9 X3 [nth (An X4 (put (AC 4) 0 38#64)) 0,nth (An X4 (put (AC 4) 0 38#64)) 1,nth (An X4 (put (AC 4) 0 38#64)) 2,nth (An X4 (put (AC 4) 0 38#64)) 3] AD AD) aT ?_;refine Ch ?_;refine Lq ?_;refine Al ?_;refine JF [1,2] mixed K_ ?_;(refine Df (A9 rfl rfl Ei EI B7 D_) rfl ?_)
  refine Df (AN (j:=4) rfl rfl underlying153 Am O_) rfl ?_;(refine Df (GS rfl rfl KK EO) rfl ?_)
  refine Gz ?_;refine Df (Tv rfl rfl) rfl ?_;refine Df (tG Hx underlying128 Am rfl rfl rfl) rfl ?_;refine iM ?_;refine iM ?_;refine Ye ?_;have h9:((put (AC 4) 0 ((nth (An X4 (put (AC 4) 0 38#64)) 4)+(KA X3 [nth (An X4 (put (AC 4) 0 38#64)) 0,nth (An X4 (put (AC 4) 0 38#64)) 1,nth (An X4 (put (AC 4) 0 38#64)) 2,nth (An X4 (put (AC 4) 0 38#64)) 3])))).length=4:=AP
  refine Ab ?_;refine jW ?_;refine A3 ?_;refine AB (AC5 (b:=0#64) rfl rfl) rfl ?_;refine BZ ?_;exact ⟨(j5+1,_),K_,rfl⟩
 ·try dsimp only
  have hY9:(CY a b (kH a b)).2.1.length=4:=by rw [Oj a b ha hb _];try omega
  have hY10:(CY a b (kH a b)).2.2.length=4:=by rw [OP a b ha hb _];try omega
  have hm:=bz a b ha hb (kH a b) O_
  generalize CY a b (kH a b)=Z11 at*
  obtain ⟨Y8,Y9,Y10⟩:=Z11
  try dsimp only at*
  subst hm
  refine A1 ?_;refine AR ?_;have hQ12:(Fx Y9).length=4:=AP
  refine Kc ?_;refine Ae (TE Y9 AD) Sr ?_;refine Gp ?_;rw [hP.out]
  exact KU
@[simp] theorem AHl(a b:AA 64)(ha:a.length=4)(hb:b.length=4):(Ff a b).length=4:=by
 unfold Ff
 (simp (maxDischargeDepth:=9) [Oj, *];done)
attribute [irreducible] Ff
def Qk(a e X1:AA 64)(j3:Nat):AA 64:=(if ((((nth e ((255-j3)/64))>>>(BitVec.ofNat 64 ((255-j3)%64)).toNat)&&&1#64)==1#64)=true then Ff (Ff X1 X1) a else Ff X1 X1)
def Du(a e:AA 64):Nat→AA 64
 |0=>put (AC 4) 0 1#64
 |j3+1=>Qk a e (Du a e j3) j3
theorem QT(a e:AA 64)(ha:a.length=4)(_he:e.length=4)(j3:Nat):(Du a e j3).length=4:=by
 induction j3 with
 |zero=>(simp [Du, *];done)
 |succ j3 ih=>rw [Du.eq_2,Qk];(split<;>first | (simp [ih];done) | (simp [ih];omega) | (simp [*];done))
def UH(a e:AA 64):AA 64:=(Du a e 256)
theorem cH(k:r)(h:Hid r→g:=by intro h;refine AB (Fd (l:=(put (AC 4) 0 (1#64))) Hx underlying128 Am rfl rfl) rfl ?_;exact h.out):g:=h ⟨k⟩
theorem XU(k:r)(h:Hid r→g:=by intro h;refine AB (Gk (b:=1#64) rfl rfl) rfl ?_;exact h.out):g:=h ⟨k⟩
theorem nJ(a e:AA 64)(ha:a.length=4)(he:e.length=4):Ev prog (.call 122 [Aw (a),Aw (e)] []) (.val (Aw (UH a e)) []):=by
 have hP:=Hid.mk (UH.eq_1 a e)
 refine AI func122 rfl ntmps122 rfl AM ?_;refine BO ?_;refine FG ?_;refine AZ ?_;refine cH ?_;refine Lq ?_;refine B0 ?_;refine AK [2,3,4,5,6] (fun (zz:Nat×AA 64)=>⟨29,AU [2,3,4,5,6] [AY 0,AY 1,AY 2,AY 3,At (((255:Nat):Int)-((zz.1:Nat):Int))],[Bb (a),Bb (e),Bb (AC 4),Bb (zz.2)]⟩) (fun j3=>(j3,Du a e j3)) (256) K_ ?_ ?_
 ·intro j3 hj3
  try dsimp only
  have hX1:(Du a e j3).length=4:=by rw [QT a e ha he _];try omega
  rw [Du.eq_2,Qk]
  generalize Du a e j3=X1 at*
  rw [show ((255:Nat):Int)-((j3:Nat):Int)=((255-j3:Nat):Int) from by omega]
  refine PH ?_;refine AR ?_;have hQ2:(Ff X1 X1).length=4:=AP
  refine IK ?_;refine Ae (cu X1 X1 AD AD) CA ?_;refine FQ ?_;refine Ak ?_;refine gF ?_;refine Xm ?_;refine Ed ?_;refine U6 ?_;refine QE ?_;refine Vv ?_;refine XU ?_;refine SM ?_;refine EA ?_;refine Eb [2,3,4,5,6] (fun (zz:AA 64)=>⟨29,AU [2,3,4,5,6] [AY 0,AY 1,AY 2,AY 3,At (((255-j3:Nat):Int))],[Bb (a),Bb (e),Bb (AC 4),Bb (zz)]⟩) (if ((((nth e ((255-j3)/64))>>>(BitVec.ofNat 64 ((255-j3)%64)).toNat)&&&1#64)==1#64)=true then Ff (Ff X1 X1) a else Ff X1 X1) rfl (fun hb=>?_) (fun hb=>?_) ?_
  ·have hQ4:(Ff (Ff X1 X1) a).length=4:=AP
   refine IK ?_;refine Ae (cu (Ff X1 X1) a AD AD) CA ?_;refine Gp ?_;refine ⟨(Ff (Ff X1 X1) a),K_,?_⟩
   rw [if_pos (hb)]
  ·refine S_ ?_
   refine ⟨(Ff X1 X1),K_,?_⟩
   rw [if_neg (by (rw [hb];decide))]
  have hJ3:(if ((((nth e ((255-j3)/64))>>>(BitVec.ofNat 64 ((255-j3)%64)).toNat)&&&1#64)==1#64)=true then Ff (Ff X1 X1) a else Ff X1 X1).length=4:=by split<;>simp [*]
  generalize (if ((((nth e ((255-j3)/64))>>>(BitVec.ofNat 64 ((255-j3)%64)).toNat)&&&1#64)==1#64)=true then Ff (Ff X1 X1) a else Ff X1 X1)=J3 at*
  refine A1 ?_;refine PE ?_;refine ⟨(j3+1,_),(by
   dsimp only
   rw [show ((255:Nat):Int)-((j3+1:Nat):Int)=((255-j3:Nat):Int)-1 from by omega]
   kernel_rfl),rfl⟩
 ·try dsimp only
  have hY5:(Du a e 256).length=4:=by rw [QT a e ha he _];try omega
  generalize Du a e 256=Y5 at*
  refine RU ?_;refine AZ ?_;refine IQ ?_;refine Gp ?_;rw [hP.out]
  exact KU
@[simp] theorem AHu(a e:AA 64)(ha:a.length=4)(he:e.length=4):(UH a e).length=4:=by
 unfold UH
 (simp [QT, *];done)
attribute [irreducible] UH
def dt(a:AA 64):AA 64:=UH a (Af BU (put (AC 4) 0 2#64))
theorem yi(a:AA 64)(ha:a.length=4):Ev prog (.call 88 [Aw (a)] []) (.val (Aw (dt a)) []):=by
 have hP:=Hid.mk (dt.eq_1 a)
 refine AI func88 rfl ntmps88 rfl AM ?_;refine BA ?_;refine FG ?_;refine AR ?_;have hQ1:(BU).length=4:=AP
 have hQ2:(Af BU (put (AC 4) 0 2#64)).length=4:=AP
 refine Ab ?_;refine Ae (I0) Ik ?_;refine AB (Fd (l:=(put (AC 4) 0 (2#64))) Hx underlying128 Am rfl rfl) rfl ?_;refine Ae (NC BU (put (AC 4) 0 2#64) AD AD) Uh ?_;refine Ch ?_;refine Lq ?_;refine BZ ?_;have hQ3:(UH a (Af BU (put (AC 4) 0 2#64))).length=4:=AP
 refine IK ?_;refine Ae (nJ a (Af BU (put (AC 4) 0 2#64)) AD AD) Zv ?_;refine Gp ?_;rw [hP.out]
 exact KU
attribute [irreducible] dt
def SL(a X1:AA 64)(j3:Nat):AA 64:=(if j3<3 then put (put X1 j3 ((nth a j3)>>>1)) j3 ((nth (put X1 j3 ((nth a j3)>>>1)) j3) ||| ((nth a (j3+1))<<<63)) else put X1 j3 ((nth a j3)>>>1))
def Gd(a:AA 64):Nat→AA 64
 |0=>AC 4
 |j3+1=>SL a (Gd a j3) j3
theorem Ou(a:AA 64)(_ha:a.length=4)(j3:Nat):(Gd a j3).length=4:=by
 induction j3 with
 |zero=>(simp [Gd, *];done)
 |succ j3 ih=>rw [Gd.eq_2,SL];(split<;>first | (simp [ih];done) | (simp [ih];omega) | (simp [*];done))
def AE(a:AA 64):AA 64:=(Gd a 4)
theorem Ka(a:AA 64)(ha:a.length=4):Ev prog (.call 174 [Aw (a)] []) (.val (Aw (AE a)) []):=by
 have hP:=Hid.mk (AE.eq_1 a)
 refine AI func174 rfl ntmps174 rfl AM ?_;refine BA ?_;refine FG ?_;refine AZ ?_;refine FG ?_;refine B0 ?_;refine AK [1,2,3,4] (fun (zz:Nat×AA 64)=>⟨28,AU [1,2,3,4] [AY 0,AY 1,AY 2,At (((zz.1:Nat):Int))],[Bb (a),Bb (AC 4),Bb (zz.2)]⟩) (fun j3=>(j3,Gd a j3)) (4) K_ ?_ ?_
 ·intro j3 hj3
  try dsimp only
  have hX1:(Gd a j3).length=4:=by rw [Ou a ha _];try omega
  rw [Gd.eq_2,SL]
  generalize Gd a j3=X1 at*
  refine A1 ?_;refine IU ?_;refine GW ?_;refine Xm ?_;refine A3 ?_;refine AB (CW (j:=1) rfl rfl) rfl ?_;refine Xm ?_;refine D4 ?_;refine Ak ?_;refine AB (A8 (b:=3) rfl rfl) rfl ?_;refine EA ?_;refine Eb [1,2,3,4] (fun (zz:AA 64)=>⟨28,AU [1,2,3,4] [AY 0,AY 1,AY 2,At (((j3:Nat):Int))],[Bb (a),Bb (AC 4),Bb (zz)]⟩) (if j3<3 then put (put X1 j3 ((nth a j3)>>>1)) j3 ((nth (put X1 j3 ((nth a j3)>>>1)) j3) ||| ((nth a (j3+1))<<<63)) else put X1 j3 ((nth a j3)>>>1)) rfl (fun hb=>?_) (fun hb=>?_) ?_
  ·have hb_:=of_decide_eq_true hb
   refine S_ ?_;refine RZ ?_;refine VA ?_;refine Fm ?_;refine AH (B8 (b:=1) rfl rfl O_) rfl ?_;refine VA ?_;refine DT ?_;refine AH (CM (j:=63) rfl rfl) rfl ?_;refine Uy ?_;refine VA ?_;refine Kn ?_;refine Ar ?_;refine ⟨(put (put X1 j3 ((nth a j3)>>>1)) j3 ((nth (put X1 j3 ((nth a j3)>>>1)) j3) ||| ((nth a (j3+1))<<<63))),K_,?_⟩
   rw [if_pos (of_decide_eq_true hb)]
  ·have hb_:=of_decide_eq_false hb
   refine S_ ?_;refine ⟨(put X1 j3 ((nth a j3)>>>1)),K_,?_⟩
   rw [if_neg (of_decide_eq_false hb)]
  have hJ2:(if j3<3 then put (put X1 j3 ((nth a j3)>>>1)) j3 ((nth (put X1 j3 ((nth a j3)>>>1)) j3) ||| ((nth a (j3+1))<<<63)) else put X1 j3 ((nth a j3)>>>1)).length=4:=by split<;>simp [*]
  generalize (if j3<3 then put (put X1 j3 ((nth a j3)>>>1)) j3 ((nth (put X1 j3 ((nth a j3)>>>1)) j3) ||| ((nth a (j3+1))<<<63)) else put X1 j3 ((nth a j3)>>>1))=J2 at*
  refine A1 ?_;refine HH ?_;exact ⟨(j3+1,_),K_,rfl⟩
 ·try dsimp only
  have hY3:(Gd a 4).length=4:=by rw [Ou a ha _];try omega
  generalize Gd a 4=Y3 at*
  refine A1 ?_;refine PO ?_;refine AZ ?_;refine IQ ?_;refine Gp ?_;rw [hP.out]
  exact KU
@[simp] theorem AGC(a:AA 64)(ha:a.length=4):(AE a).length=4:=by
 unfold AE
 (simp [Ou, *];done)
attribute [irreducible] AE
theorem iP{a b:AA 64}(_ha:a.length=4)(_hb:b.length=4):Ff a b=WF (ZW a*ZW b):=by
 have e:Ff a b=Fx ((RO a b (kH a b)).1):=by
  unfold Ff
  rw [(AEC a b (kH a b)).1]
 rw [e,WY (rV a b _).1]
 congr 1
 exact AHO a b
theorem mu(x:BitVec 64)(k:Nat)(hk:k<64):(((x>>>(BitVec.ofNat 64 k).toNat)&&&1#64)==1#64)=decide (x.toNat/2^k%2=1):=by
 rw [BitVec.toNat_ofNat,Nat.mod_eq_of_lt O_]
 have e:((x>>>k)&&&1#64).toNat=x.toNat/2^k%2:=by
  rw [BitVec.toNat_and,BitVec.toNat_ushiftRight,Nat.shiftRight_eq_div_pow]
  exact Nat.and_two_pow_sub_one_eq_mod _ 1
 by_cases h:x.toNat/2^k%2=1
 ·rw [decide_eq_true h,beq_iff_eq]
  apply BitVec.eq_of_toNat_eq
  rw [e,h];rfl
 ·rw [decide_eq_false h,beq_eq_false_iff_ne]
  intro hx
  apply h
  rw [←e,hx];rfl
theorem ABN(e:AA 64)(t:Nat)(ht:t<4):wV e/18446744073709551616^t%18446744073709551616=(nth e t).toNat:=by
 have h0:=(nth e 0).isLt
 have h1:=(nth e 1).isLt
 have h2:=(nth e 2).isLt
 have h3:=(nth e 3).isLt
 unfold wV
 rcases (by omega:t=0∨t=1∨t=2∨t=3) with h | h | h | h<;>subst h<;>simp only [Nat.pow_zero,Nat.reducePow]<;>omega
theorem bc(e:AA 64)(i:Nat)(hi:i<256):((((nth e (i/64))>>>(BitVec.ofNat 64 (i%64)).toNat)&&&1#64)==1#64)=decide (wV e/2^i%2=1):=by
 rw [mu _ _ O_,←ABN e (i/64) O_]
 have h2:(2:Nat)^i=18446744073709551616^(i/64)*2^(i%64):=by
  rw [show (18446744073709551616:Nat)=2^64 from rfl,←Nat.pow_mul,←Nat.pow_add,Nat.div_add_mod]
 rw [h2,←Nat.div_div_eq_div_mul]
 generalize wV e/18446744073709551616^(i/64)=x
 congr 1
 have hk:i%64<64:=by omega
 generalize i%64=k at*
 have:x%18446744073709551616/2^k%2=x/2^k%2:=by
  have e1:=Nat.testBit_mod_two_pow x 64 k
  rw [decide_eq_true hk,Bool.true_and] at e1
  rw [Nat.testBit_eq_decide_div_mod_eq,Nat.testBit_eq_decide_div_mod_eq] at e1
  have e2:=decide_eq_decide.1 e1
  rw [show (2:Nat)^64=18446744073709551616 from rfl] at e2
  omega
 rw [this]
theorem tP{a e:AA 64}(ha:a.length=4):UH a e=WF (ZW a^wV e):=by
 have run:∀j,j≤256→(Du a e j).length=4∧ZW (Du a e j)=ZW a^(wV e/2^(256-j))∧(0<j→Du a e j=WF (ZW a^(wV e/2^(256-j)))):=by
  intro j
  induction j with
  |zero=>
   intro _
   have hz:wV e/2^(256-0)=0:=Nat.div_eq_of_lt (IF e)
   rw [hz,GX]
   refine ⟨rfl,?_,fun h=>absurd h D_⟩
   show zf (wV (put (AC 4) 0 1#64))=1
   rw [TA];rfl
  |succ j ih=>
   intro hj
   obtain ⟨h1,h2,_⟩:=ih O_
   have hb:=bc e (255-j) O_
   have hq:wV e/2^(256-(j+1))=2*(wV e/2^(256-j))+wV e/2^(255-j)%2:=by
    rw [show 256-(j+1)=255-j by omega,show 256-j=(255-j)+1 by omega,Nat.pow_succ,←Nat.div_div_eq_div_mul]
    omega
   have hs:Ff (Du a e j) (Du a e j)=WF ((ZW a^(wV e/2^(256-j)))^2):=by
    rw [iP h1 h1,h2,sj]
   have key:Du a e (j+1)=WF (ZW a^(wV e/2^(256-(j+1)))):=by
    rw [Du,Qk,hb,hq,SK,Nat.mul_comm 2,aJ,hs]
    by_cases hc:wV e/2^(255-j)%2=1
    ·rw [decide_eq_true hc,if_pos rfl,hc,iP rfl ha,G1,kw]
    ·rw [decide_eq_false hc,if_neg D_,show wV e/2^(255-j)%2=0 by omega,GX,Sm]
   exact ⟨by rw [key];rfl,by rw [key,G1],fun _=>key⟩
 have:=(run 256 (Nat.le_refl _)).2.2 D_
 rw [Nat.sub_self,Nat.pow_zero,Nat.div_one] at this
 unfold UH
 exact this
theorem ACW:wV (Af BU (put (AC 4) 0 2#64))=yP:=by decide+kernel
theorem ADD{a:AA 64}(ha:a.length=4):dt a=WF (Gi (ZW a)):=by
 unfold dt Gi
 rw [tP ha,ACW]
def Bd(a:AA 64):AA 64:=WF (ZW a)
def Aq(a b:AA 64):AA 64:=WF (ZW a-ZW b)
def AG(a b:AA 64):AA 64:=WF (ZW a*ZW b)
def BS(a e:AA 64):AA 64:=WF (ZW a^wV e)
def BT(a:AA 64):AA 64:=WF (Gi (ZW a))
@[simp] theorem AH9(a:AA 64):(Bd a).length=4:=rfl
@[simp] theorem FE(a b:AA 64):(Aq a b).length=4:=rfl
@[simp] theorem CL(a b:AA 64):(AG a b).length=4:=rfl
@[simp] theorem AKG(a b:AA 64):(BS a b).length=4:=rfl
@[simp] theorem Ef(a:AA 64):(BT a).length=4:=rfl
theorem ui{a:AA 64}(h:a.length=4):Fx a=Bd a:=WY h
theorem uU{a b:AA 64}(h:a.length=4)(h':b.length=4):eW a b=Aq a b:=ACG h h'
theorem vj{a b:AA 64}(h:a.length=4)(h':b.length=4):Ff a b=AG a b:=iP h h'
theorem ug{a e:AA 64}(h:a.length=4):UH a e=BS a e:=tP h
theorem uW{a:AA 64}(h:a.length=4):dt a=BT a:=ADD h
theorem fc{b:AA 8}:wV (JJ b)=Gt b 32:=by
 have run:=Wv b (HV b) rfl (fun j=>by rw [HV,TR,BitVec.toNat_ofNat,Nat.mod_eq_of_lt O_]) 32 (Nat.le_refl _)
 have v:∀t,t<4→(nth (HV b 32) t).toNat=tK b t 8:=fun t ht=>by
  have:=run.2 t ht
  rwa [show min 8 (32-8*t)=8 by omega] at this
 unfold JJ wV
 rw [v 0 D_,v 1 D_,v 2 D_,v 3 D_,gI]
theorem xb:wV (AE (AE (AE (AJ BU (put (AC 4) 0 3#64)))))=Cv:=by decide+kernel
theorem AIS:wV (AE (AE (Af BU (put (AC 4) 0 1#64))))=eI:=by decide+kernel
def R0(a:AA 64):AA 64:=BS (Bd a) (AE (AE (AE (AJ BU (put (AC 4) 0 3#64)))))
def R1(a:AA 64):AA 64:=AG (BS (Bd a) (AE (AE (AE (AJ BU (put (AC 4) 0 3#64)))))) (BS (put (AC 4) 0 2#64) (AE (AE (Af BU (put (AC 4) 0 1#64)))))
theorem vq(a:AA 64):R0 a=WF (ZW a^Cv):=by
 unfold R0 BS Bd
 rw [G1,xb]
theorem AG1(a:AA 64):R1 a=WF (ZW a^Cv*iF):=by
 have e:R1 a=AG (R0 a) (BS (put (AC 4) 0 2#64) (AE (AE (Af BU (put (AC 4) 0 1#64))))):=rfl
 rw [e,vq]
 unfold AG BS
 rw [G1,G1,AIS]
 have:ZW (put (AC 4) 0 2#64)=zf 2:=by unfold ZW;rw [TA];rfl
 rw [this,ABG]
theorem AAQ{u v:Fp}:WF u=WF v↔u=v:=⟨fun h=>by rw [←G1 u,h,G1],fun h=>by rw [h]⟩
theorem TP(a:AA 64)(x:Fp):(AG (WF x) (WF x)=Bd a)↔x*x=ZW a:=by
 unfold AG Bd
 rw [G1]
 exact AAQ
theorem xE(x:Fp):(if (((nth (WF x) 0)&&&1#64)==1#64)=true then Aq (AC 4) (WF x) else WF x)=WF (RR x):=by
 have h0:nth (WF x) 0=BitVec.ofNat 64 x.val:=rfl
 have hb:(((nth (WF x) 0)&&&1#64)==1#64)=decide (x.val%2=1):=by
  have:=mu (nth (WF x) 0) 0 D_
  rw [show (BitVec.ofNat 64 0).toNat=0 from rfl,BitVec.ushiftRight_zero] at this
  rw [this,h0,BitVec.toNat_ofNat,Nat.pow_zero,Nat.div_one]
  congr 1
  apply propext
  omega
 rw [hb]
 unfold RR
 by_cases h:x.val%2=1
 ·rw [decide_eq_true h,if_pos rfl,if_pos h]
  unfold Aq
  rw [G1]
  have:ZW (AC 4)=0:=by unfold ZW;rw [show wV (AC 4)=0 from by decide+kernel];rfl
  rw [this]
 ·rw [decide_eq_false h,if_neg D_,if_neg h]
def JU(a:AA 64):Bool:=decide (D9 (ZW a)*D9 (ZW a)=ZW a)
def IG(a:AA 64):AA 64:=WF (if D9 (ZW a)*D9 (ZW a)=ZW a then RR (D9 (ZW a)) else 0)
@[simp] theorem AH3(a:AA 64):(IG a).length=4:=rfl
theorem xy{z:Fp}(h:z^Cv*z^Cv=z):D9 z=z^Cv:=by
 unfold D9;rw [if_pos h]
theorem fT{z:Fp}(h:¬z^Cv*z^Cv=z):D9 z=z^Cv*iF:=by
 unfold D9;rw [if_neg h]
theorem QM:AC 4=WF 0:=by decide+kernel
attribute [irreducible] JU IG R0 R1 Bd Aq AG BS BT
theorem RD(a:AA 64)(ha:a.length=4):Ev prog (.call 82 [Aw (a)] []) (.val (Aw (Bd a)) []):=by
 have h_:=TE a ha
 rw [ui ha] at h_
 exact h_
theorem CV(a b:AA 64)(ha:a.length=4)(hb:b.length=4):Ev prog (.call 85 [Aw (a),Aw (b)] []) (.val (Aw (Aq a b)) []):=by
 have h_:=zO a b ha hb
 rw [uU ha hb] at h_
 exact h_
theorem Ax(a b:AA 64)(ha:a.length=4)(hb:b.length=4):Ev prog (.call 86 [Aw (a),Aw (b)] []) (.val (Aw (AG a b)) []):=by
 have h_:=cu a b ha hb
 rw [vj ha hb] at h_
 exact h_
theorem ZJ(a e:AA 64)(ha:a.length=4)(he:e.length=4):Ev prog (.call 122 [Aw (a),Aw (e)] []) (.val (Aw (BS a e)) []):=by
 have h_:=nJ a e ha he
 rw [ug ha] at h_
 exact h_
theorem C5(a:AA 64)(ha:a.length=4):Ev prog (.call 88 [Aw (a)] []) (.val (Aw (BT a)) []):=by
 have h_:=yi a ha
 rw [uW ha] at h_
 exact h_
def mZ(a b:AA 64):AA 64:=Bd (AJ (Bd a) (Bd b))
theorem Ji(k:r)(h:Hid r→g:=by intro h;refine Hn (Ay IM AM) AT rfl ?_;refine BJ ?_;exact h.out):g:=h ⟨k⟩
theorem wz(a b:AA 64)(ha:a.length=4)(hb:b.length=4):Ev prog (.call 84 [Aw (a),Aw (b)] []) (.val (Aw (mZ a b)) []):=by
 have hP:=Hid.mk (mZ.eq_1 a b)
 refine AI func84 rfl ntmps84 rfl AM ?_;refine BO ?_;refine FG ?_;refine AR ?_;have hQ1:(Bd a).length=4:=AP
 have hQ2:(Bd b).length=4:=AP
 have hQ3:(AJ (Bd a) (Bd b)).length=4:=AP
 refine S_ ?_;refine aS 9 7 mixed K_ K_ rfl rfl rfl ?_;refine CO ?_;refine AO (RD a AD) Sr ?_;refine CO ?_;refine AO (RD b AD) Sr ?_;refine AO (S9 (Bd a) (Bd b) AD AD) aT ?_;refine Hd ?_;refine Ji ?_;refine FQ ?_;refine BF ?_;refine AR ?_;have hQ4:(Bd (AJ (Bd a) (Bd b))).length=4:=AP
 refine Kc ?_;refine Ae (RD (AJ (Bd a) (Bd b)) AD) Sr ?_;refine Gp ?_;rw [hP.out]
 exact KU
attribute [irreducible] mZ
def Aj(a b:AA 64):AA 64:=WF (ZW a+ZW b)
@[simp] theorem Fa(a b:AA 64):(Aj a b).length=4:=rfl
theorem uV{a b:AA 64}(_ha:a.length=4)(_hb:b.length=4):mZ a b=Aj a b:=by
 unfold mZ Aj Bd
 generalize ZW a=u
 generalize ZW b=v
 obtain ⟨e1,c1⟩:=Tt (a:=WF u) (b:=WF v) rfl rfl
 congr 1
 rw [TJ,TJ] at e1
 have hu:=u.isLt
 have hv:=v.isLt
 change _<57896044618658097711785492504343953926634992332820282019728792003956564819949 at hu
 change _<57896044618658097711785492504343953926634992332820282019728792003956564819949 at hv
 have hw:wV (AJ (WF u) (WF v))=u.val+v.val:=by omega
 unfold ZW
 rw [hw,S1,HQ,HQ]
theorem Co(a b:AA 64)(ha:a.length=4)(hb:b.length=4):Ev prog (.call 84 [Aw (a),Aw (b)] []) (.val (Aw (Aj a b)) []):=by
 have h_:=wz a b ha hb
 rw [uV ha hb] at h_
 exact h_
def MF:AA 64:=AG (Aq (AC 4) (put (AC 4) 0 121665#64)) (BT (put (AC 4) 0 121666#64))
theorem M5(k:r)(h:Hid r→g:=by intro h;refine AB (Fd (l:=(AC 4)) Hx underlying128 Am rfl rfl) rfl ?_;exact h.out):g:=h ⟨k⟩
theorem TI:Ev prog (.call 135 [] []) (.val (Aw (MF)) []):=by
 have hP:=Hid.mk (MF.eq_1)
 refine AI func135 rfl ntmps135 rfl AM ?_;refine Ab ?_;refine FG ?_;refine AR ?_;have hQ1:(Aq (AC 4) (put (AC 4) 0 121665#64)).length=4:=AP
 have hQ2:(BT (put (AC 4) 0 121666#64)).length=4:=AP
 have hQ3:(AG (Aq (AC 4) (put (AC 4) 0 121665#64)) (BT (put (AC 4) 0 121666#64))).length=4:=AP
 refine Ab ?_;refine M5 ?_;refine AB (Fd (l:=(put (AC 4) 0 (121665#64))) Hx underlying128 Am rfl rfl) rfl ?_;refine Ae (CV (AC 4) (put (AC 4) 0 121665#64) AD AD) La ?_;refine AB (Fd (l:=(put (AC 4) 0 (121666#64))) Hx underlying128 Am rfl rfl) rfl ?_;refine Ae (C5 (put (AC 4) 0 121666#64) AD) V2 ?_;refine Ae (Ax (Aq (AC 4) (put (AC 4) 0 121665#64)) (BT (put (AC 4) 0 121666#64)) AD AD) CA ?_;refine Gp ?_;rw [hP.out]
 exact KU
@[simp] theorem AKm:(MF).length=4:=by
 unfold MF
 (simp (maxDischargeDepth:=9) [*];done)
attribute [irreducible] MF
def QP:AA 64:=(AC 4)++(put (AC 4) 0 1#64)++(put (AC 4) 0 1#64)++(AC 4)
theorem Gu(k:r)(h:Hid r→g:=by intro h;refine Ap (Ay AHR AM) AT rfl ?_;exact h.out):g:=h ⟨k⟩
theorem Fo(k:r)(h:Hid r→g:=by intro h;refine Bs rfl rfl rfl rfl ag B7 B7 AT ?_;exact h.out):g:=h ⟨k⟩
theorem ia(h:g:=by exact kG (Hu rfl rfl ZG ag B7 D_) (by (kernel_rfl))):g:=h
theorem vQ:Ev prog (.call 175 [] []) (.val (Aw (QP)) []):=by
 have hP:=Hid.mk (QP.eq_1)
 refine AI func175 rfl ntmps175 rfl AM ?_;refine Ab ?_;refine Gu ?_;refine AZ ?_;refine M5 ?_;refine cH ?_;refine cH ?_;refine M5 ?_;refine AB (gb rfl rfl rfl rfl (AA8 Iz Iz Iz Iz)) rfl ?_;refine Fo ?_;refine Ar ?_;rw [hP.out]
 exact ia
@[simp] theorem AGP:(QP).length=16:=by
 unfold QP
 (simp (maxDischargeDepth:=9) [*];done)
attribute [irreducible] QP
def Tx:AA 64:=[6346243789798364141#64,1503914060200516822#64,0#64,1152921504606846976#64]
theorem pL:Ev prog (.call 133 [] []) (.val (Aw (Tx)) []):=by
 have hP:=Hid.mk (Tx.eq_1)
 refine AI func133 rfl ntmps133 rfl AM ?_;refine Ab ?_;refine FG ?_;refine AZ ?_;refine AB (JX (l:=[6346243789798364141#64,1503914060200516822#64,0#64,1152921504606846976#64]) nP underlying128 Am rfl rfl D_) rfl ?_;refine Gp ?_;rw [hP.out]
 exact KU
@[simp] theorem AKi:(Tx).length=4:=by
 unfold Tx
 (simp [*];done)
attribute [irreducible] Tx
theorem rh:wV Tx=Cl:=by unfold Tx;decide+kernel
def OC(t X1:AA 64)(j3:Nat):AA 64:=(if (!((Bu (put (AJ X1 X1) 0 ((nth (AJ X1 X1) 0) ||| (((nth t ((511-j3)/64))>>>(BitVec.ofNat 64 ((511-j3)%64)).toNat)&&&1#64))) Tx)==1#64))=true then Af (put (AJ X1 X1) 0 ((nth (AJ X1 X1) 0) ||| (((nth t ((511-j3)/64))>>>(BitVec.ofNat 64 ((511-j3)%64)).toNat)&&&1#64))) Tx else put (AJ X1 X1) 0 ((nth (AJ X1 X1) 0) ||| (((nth t ((511-j3)/64))>>>(BitVec.ofNat 64 ((511-j3)%64)).toNat)&&&1#64)))
def Bq(t:AA 64):Nat→AA 64
 |0=>AC 4
 |j3+1=>OC t (Bq t j3) j3
theorem OX(t:AA 64)(_ht:t.length=8)(j3:Nat):(Bq t j3).length=4:=by
 induction j3 with
 |zero=>(simp (maxDischargeDepth:=9) [Bq, *];done)
 |succ j3 ih=>rw [Bq.eq_2,OC];(split<;>first | (simp (maxDischargeDepth:=9) [ih];done) | (simp (maxDischargeDepth:=9) [ih];omega) | (simp (maxDischargeDepth:=9) [*];done))
def NQ(t:AA 64):AA 64:=(Bq t 512)
theorem tc(t:AA 64)(ht:t.length=8):Ev prog (.call 178 [Aw (t)] []) (.val (Aw (NQ t)) []):=by
 have hP:=Hid.mk (NQ.eq_1 t)
 refine AI func178 rfl ntmps178 rfl AM ?_;refine BA ?_;refine FG ?_;refine AZ ?_;refine FG ?_;refine B0 ?_;refine AK [1,2,3,4] (fun (zz:Nat×AA 64)=>⟨39,AU [1,2,3,4] [AY 0,AY 1,AY 2,At (((511:Nat):Int)-((zz.1:Nat):Int))],[Bb (t),Bb (AC 4),Bb (zz.2)]⟩) (fun j3=>(j3,Bq t j3)) (512) K_ ?_ ?_
 ·intro j3 hj3
  try dsimp only
  have hX1:(Bq t j3).length=4:=by rw [OX t ht _];try omega
  rw [Bq.eq_2,OC]
  generalize Bq t j3=X1 at*
  rw [show ((511:Nat):Int)-((j3:Nat):Int)=((511-j3:Nat):Int) from by omega]
  refine PH ?_;refine AR ?_;have hQ2:(AJ X1 X1).length=4:=AP
  refine IK ?_;refine Ae (S9 X1 X1 AD AD) aT ?_;refine Ch ?_;refine Gp ?_;refine B5 13 mixed K_ rfl rfl rfl ?_;refine AH (AN (j:=0) rfl rfl underlying128 Am O_) rfl ?_;refine Fm ?_;refine AH (VD (b:=64) rfl rfl O_ O_) rfl ?_;refine QF ?_;refine Fm ?_;refine AH (OU (b:=64) rfl rfl O_ O_) rfl ?_;refine kD ?_;refine AH (ko rfl rfl) rfl ?_;refine AH (Gk (b:=1#64) rfl rfl) rfl ?_;refine Uy ?_;refine AH (AN (j:=0) rfl rfl underlying128 Am O_) rfl ?_;refine Kn ?_;refine AR ?_;have hQ3:(Tx).length=4:=AP
  refine IL ?_;refine CO ?_;refine AO (pL) oP ?_;refine AO (H5 (put (AJ X1 X1) 0 ((nth (AJ X1 X1) 0) ||| (((nth t ((511-j3)/64))>>>(BitVec.ofNat 64 ((511-j3)%64)).toNat)&&&1#64))) Tx AD AD) Qb ?_
  refine Kp ?_;refine Fs ?_;refine Eb [1,2,3,4] (fun (zz:AA 64)=>⟨39,AU [1,2,3,4] [AY 0,AY 1,AY 2,At (((511-j3:Nat):Int))],[Bb (t),Bb (AC 4),Bb (zz)]⟩) (if (!((Bu (put (AJ X1 X1) 0 ((nth (AJ X1 X1) 0) ||| (((nth t ((511-j3)/64))>>>(BitVec.ofNat 64 ((511-j3)%64)).toNat)&&&1#64))) Tx)==1#64))=true then Af (put (AJ X1 X1) 0 ((nth (AJ X1 X1) 0) ||| (((nth t ((511-j3)/64))>>>(BitVec.ofNat 64 ((511-j3)%64)).toNat)&&&1#64))) Tx else put (AJ X1 X1) 0 ((nth (AJ X1 X1) 0) ||| (((nth t ((511-j3)/64))>>>(BitVec.ofNat 64 ((511-j3)%64)).toNat)&&&1#64))) rfl (fun hb=>?_) (fun hb=>?_) ?_
  ·have hQ5:(Tx).length=4:=AP
   have hQ6:(Af (put (AJ X1 X1) 0 ((nth (AJ X1 X1) 0) ||| (((nth t ((511-j3)/64))>>>(BitVec.ofNat 64 ((511-j3)%64)).toNat)&&&1#64))) Tx).length=4:=AP
   refine S_ ?_;refine aS 6 5 mixed K_ K_ rfl rfl rfl ?_;refine CO ?_;refine AO (pL) oP ?_;refine AO (NC (put (AJ X1 X1) 0 ((nth (AJ X1 X1) 0) ||| (((nth t ((511-j3)/64))>>>(BitVec.ofNat 64 ((511-j3)%64)).toNat)&&&1#64))) Tx AD AD) Uh ?_
   refine Hd ?_;refine BJ ?_;refine Gp ?_;refine ⟨(Af (put (AJ X1 X1) 0 ((nth (AJ X1 X1) 0) ||| (((nth t ((511-j3)/64))>>>(BitVec.ofNat 64 ((511-j3)%64)).toNat)&&&1#64))) Tx),K_,?_⟩
   rw [if_pos (hb)]
  ·refine S_ ?_
   refine ⟨(put (AJ X1 X1) 0 ((nth (AJ X1 X1) 0) ||| (((nth t ((511-j3)/64))>>>(BitVec.ofNat 64 ((511-j3)%64)).toNat)&&&1#64))),K_,?_⟩
   rw [if_neg (by (rw [hb];decide))]
  have hJ4:(if (!((Bu (put (AJ X1 X1) 0 ((nth (AJ X1 X1) 0) ||| (((nth t ((511-j3)/64))>>>(BitVec.ofNat 64 ((511-j3)%64)).toNat)&&&1#64))) Tx)==1#64))=true then Af (put (AJ X1 X1) 0 ((nth (AJ X1 X1) 0) ||| (((nth t ((511-j3)/64))>>>(BitVec.ofNat 64 ((511-j3)%64)).toNat)&&&1#64))) Tx else put (AJ X1 X1) 0 ((nth (AJ X1 X1) 0) ||| (((nth t ((511-j3)/64))>>>(BitVec.ofNat 64 ((511-j3)%64)).toNat)&&&1#64))).length=4:=by split<;>simp [*]
  generalize (if (!((Bu (put (AJ X1 X1) 0 ((nth (AJ X1 X1) 0) ||| (((nth t ((511-j3)/64))>>>(BitVec.ofNat 64 ((511-j3)%64)).toNat)&&&1#64))) Tx)==1#64))=true then Af (put (AJ X1 X1) 0 ((nth (AJ X1 X1) 0) ||| (((nth t ((511-j3)/64))>>>(BitVec.ofNat 64 ((511-j3)%64)).toNat)&&&1#64))) Tx else put (AJ X1 X1) 0 ((nth (AJ X1 X1) 0) ||| (((nth t ((511-j3)/64))>>>(BitVec.ofNat 64 ((511-j3)%64)).toNat)&&&1#64)))=J4 at*
  refine A1 ?_;refine PE ?_;refine ⟨(j3+1,_),(by
   dsimp only
   rw [show ((511:Nat):Int)-((j3+1:Nat):Int)=((511-j3:Nat):Int)-1 from by omega]
   kernel_rfl),rfl⟩
 ·try dsimp only
  have hY7:(Bq t 512).length=4:=by rw [OX t ht _];try omega
  generalize Bq t 512=Y7 at*
  refine RU ?_;refine AZ ?_;refine IQ ?_;refine Gp ?_;rw [hP.out]
  exact KU
@[simp] theorem AFr(t:AA 64)(ht:t.length=8):(NQ t).length=4:=by
 unfold NQ
 (simp (maxDischargeDepth:=9) [OX, *];done)
attribute [irreducible] NQ
def Nw(b:AA 8)(X1:AA 64)(j3:Nat):AA 64:=put X1 (j3/8) ((nth X1 (j3/8)) ||| (((nth b j3).setWidth 64)<<<(BitVec.ofNat 64 (8*(j3%8))).toNat))
def CR(b:AA 8):Nat→AA 64
 |0=>AC 8
 |j3+1=>Nw b (CR b j3) j3
@[simp] theorem UC(b:AA 8)(j3:Nat):(CR b j3).length=8:=by
 induction j3 with
 |zero=>(simp [CR, *];done)
 |succ j3 ih=>rw [CR.eq_2,Nw];(simp [ih];done)
def cg(b:AA 8):AA 8:=rB (NQ (CR b b.length))
theorem vt(b:AA 8)(n cap:Nat)(hb:b.length=n)(hn:n≤1099511627776)(hN:n≤64):Ev prog (.call 140 [.c (.sl 0 0 n cap 1)] [A0 (b)]) (.val (BM (cg b)) [A0 (b)]):=by
 have hP:=Hid.mk (cg.eq_1 b)
 subst hb
 refine AI func140 rfl ntmps140 rfl AM ?_;refine Ab ?_;refine It ?_;refine QB ?_;refine B0 ?_;refine AK [0,2,3,4] (fun (zz:Nat×AA 64)=>⟨30,AU [0,2,3,4] [.c (.sl 0 0 b.length cap 1),AY 1,AY 2,At (((zz.1:Nat):Int))],[A0 (b),BP (Ac 32),Bb (zz.2)]⟩) (fun j3=>(j3,CR b j3)) (b.length) K_ ?_ ?_
 ·intro j3 hj3
  try dsimp only
  have hX1:(CR b j3).length=8:=by rw [UC b _];try omega
  rw [CR.eq_2,Nw]
  generalize CR b j3=X1 at*
  refine CK ?_;refine Hc ?_;refine Ar ?_;refine B5 16 mixed K_ rfl rfl rfl ?_;refine AW ?_;refine R8 ?_;refine QF ?_;refine DT ?_;refine Ca ?_;refine Of ?_;refine EK ?_;refine W3 ?_;refine AW ?_;refine Sy ?_;refine Ud ?_;refine kD ?_;refine AH (cQ rfl rfl) rfl ?_;refine Uy ?_;refine QF ?_;refine Kn ?_;refine Cc ?_;exact ⟨(j3+1,_),K_,rfl⟩
 ·try dsimp only
  have hY2:(CR b b.length).length=8:=by rw [UC b _];try omega
  generalize CR b b.length=Y2 at*
  refine CK ?_;refine Hc ?_;refine AR ?_;have hQ3:(NQ Y2).length=4:=AP
  have hQ4:(rB (NQ Y2)).length=32:=AP
  refine Ab ?_;refine fz ?_;refine Ae (tc Y2 AD) AHX ?_;refine Ae (tM (NQ Y2) AD) sf ?_;refine GH ?_;rw [hP.out]
  exact Ec
attribute [irreducible] cg
theorem qE(n:AA 8)(hn:n.length=32):Ev prog (.call 95 [BM (n)] []) (.val (.c (.val (.bool ((Bu (JJ n) Tx)==1#64)))) []):=by
 refine AI func95 rfl ntmps95 rfl AM ?_;refine BA ?_;refine BZ ?_;have hQ1:(JJ n).length=4:=AP
 have hQ2:(Tx).length=4:=AP
 refine Bg ?_;refine Ae (Tw n AD) Sj ?_;refine Ae (pL) oP ?_;refine Ae (H5 (JJ n) Tx AD AD) Qb ?_;refine Al ?_;exact CF
theorem ACL(x b:BitVec 64)(hx:x.toNat%2=0)(hb:b.toNat<2):(x ||| b).toNat=x.toNat+b.toNat:=by
 have e:(x>>>1)<<<1=x:=by
  apply BitVec.eq_of_toNat_eq
  rw [BitVec.toNat_shiftLeft,BitVec.toNat_ushiftRight,Nat.shiftLeft_eq,Nat.shiftRight_eq_div_pow]
  have:=x.isLt
  omega
 have h:=OI (x:=b) (y:=x>>>1) 1 O_
 rw [e,BitVec.or_comm] at h
 rw [h,BitVec.toNat_ushiftRight,Nat.shiftRight_eq_div_pow]
 have:=x.isLt
 omega
theorem ADC(t:AA 64)(n i:Nat)(hi:i<64*n):(((nth t (i/64))>>>(BitVec.ofNat 64 (i%64)).toNat)&&&1#64).toNat=Rh t n/2^i%2:=by
 have hm:(BitVec.ofNat 64 (i%64)).toNat=i%64:=by rw [BitVec.toNat_ofNat];omega
 have e1:(((nth t (i/64))>>>(i%64))&&&1#64).toNat=((nth t (i/64))>>>(i%64)).toNat%2:=by
  rw [BitVec.toNat_and]
  exact Nat.and_two_pow_sub_one_eq_mod _ 1
 rw [hm,e1,BitVec.toNat_ushiftRight,Nat.shiftRight_eq_div_pow,←en t n (i/64) O_]
 have h2:(2:Nat)^i=18446744073709551616^(i/64)*2^(i%64):=by
  rw [show (18446744073709551616:Nat)=2^64 from rfl,←Nat.pow_mul,←Nat.pow_add,Nat.div_add_mod]
 rw [h2,←Nat.div_div_eq_div_mul]
 generalize Rh t n/18446744073709551616^(i/64)=x
 have h3:i%64<64:=Nat.mod_lt _ D_
 generalize i%64=k at h3
 have h4:(18446744073709551616:Nat)=2^k*(2*2^(63-k)):=by
  rw [←Nat.mul_assoc,Nat.mul_comm (2^k) 2,Nat.mul_assoc,←Nat.pow_add,show k+(63-k)=63 by omega]
 rw [h4,Nat.mod_mul_right_div_self,Nat.mod_mul_right_mod]
theorem ALY{X:AA 64}(hX:X.length=4)(hl:wV X<Cl)(b:BitVec 64)(hb:b.toNat<2):(put (AJ X X) 0 ((nth (AJ X X) 0) ||| b)).length=4∧wV (put (AJ X X) 0 ((nth (AJ X X) 0) ||| b))=2*wV X+b.toNat:=by
 obtain ⟨e,hc⟩:=Tt hX hX
 have l:=Uo X X
 have l1:=IF (AJ X X)
 change _<7237005577332262213973186563042994240857116359379907606001950938285454250989 at hl
 have hv:wV (AJ X X)=2*wV X:=by omega
 generalize AJ X X=Y at*
 obtain ⟨a0,a1,a2,a3,rfl⟩:=four l
 change a0.toNat+a1.toNat*18446744073709551616+a2.toNat*340282366920938463463374607431768211456+a3.toNat*6277101735386680763835789423207666416102355444464034512896=2*wV X at hv
 refine ⟨rfl,?_⟩
 show (a0 ||| b).toNat+a1.toNat*18446744073709551616+a2.toNat*340282366920938463463374607431768211456+a3.toNat*6277101735386680763835789423207666416102355444464034512896=2*wV X+b.toNat
 rw [ACL a0 b O_ hb]
 omega
theorem mh:Tx.length=4:=by simp
theorem AD0{Y:AA 64}(hY:Y.length=4):(Bu Y Tx==1#64)=decide (wV Y<Cl):=by
 obtain ⟨e,hc⟩:=Kq hY mh
 have l1:=IF (Af Y Tx)
 rw [rh] at e
 by_cases h:wV Y<Cl
 ·rw [decide_eq_true h,beq_iff_eq]
  apply BitVec.eq_of_toNat_eq
  show _=1
  omega
 ·rw [decide_eq_false h,beq_eq_false_iff_ne]
  intro h2
  have:(Bu Y Tx).toNat=1:=by rw [h2];rfl
  omega
theorem AKv{Y:AA 64}(hY:Y.length=4)(h:¬wV Y<Cl)(h2:wV Y<2*Cl):(Af Y Tx).length=4∧wV (Af Y Tx)=wV Y%Cl:=by
 obtain ⟨e,hc⟩:=Kq hY mh
 have l1:=IF (Af Y Tx)
 refine ⟨Ui Y Tx hY,?_⟩
 rw [rh] at e
 have hm:wV Y%Cl=wV Y-Cl:=by
  rw [Nat.mod_eq_sub_mod O_,Nat.mod_eq_of_lt O_]
 rw [hm]
 have hc0:(Bu Y Tx).toNat=0:=by omega
 rw [hc0] at e
 omega
theorem ABl(v k n:Nat)(hk:k=64*n)(h:v<18446744073709551616^n):v/2^k=0:=by
 subst hk
 rw [Nat.pow_mul]
 exact Nat.div_eq_of_lt h
theorem zH(t:AA 64):∀j,j≤512→(Bq t j).length=4∧wV (Bq t j)=Rh t 8/2^(512-j)%Cl:=by
 intro j
 induction j with
 |zero=>
  intro _
  rw [Bq]
  refine ⟨rfl,?_⟩
  have h:=zq t 8
  rw [Nat.sub_zero,ABl (Rh t 8) 512 8 rfl h]
  decide+kernel
 |succ j ih=>
  intro hj
  obtain ⟨h1,h2⟩:=ih O_
  have hl:wV (Bq t j)<Cl:=by rw [h2];exact Nat.mod_lt _ AEN
  have hbit:=ADC t 8 (511-j) O_
  rw [Bq,OC]
  generalize hB:(((nth t ((511-j)/64))>>>(BitVec.ofNat 64 ((511-j)%64)).toNat)&&&1#64)=B at*
  have hB2:B.toNat<2:=by rw [hbit];exact Nat.mod_lt _ D_
  obtain ⟨d1,d2⟩:=ALY h1 hl B hB2
  have hs:Rh t 8/2^(512-(j+1))%Cl=(2*wV (Bq t j)+B.toNat)%Cl:=by
   rw [h2,hbit,step_mod]
   congr 1
   rw [show 512-j=(511-j)+1 by omega,show 512-(j+1)=511-j by omega,Nat.pow_succ,←Nat.div_div_eq_div_mul]
   omega
  rw [hs,←d2]
  have hlt:wV (put (AJ (Bq t j) (Bq t j)) 0 ((nth (AJ (Bq t j) (Bq t j)) 0) ||| B))<2*Cl:=by rw [d2];omega
  generalize put (AJ (Bq t j) (Bq t j)) 0 ((nth (AJ (Bq t j) (Bq t j)) 0) ||| B)=Y at*
  rw [AD0 d1]
  by_cases h:wV Y<Cl
  ·rw [decide_eq_true h,if_neg D_,Nat.mod_eq_of_lt h]
   exact ⟨d1,rfl⟩
  ·rw [decide_eq_false h,if_pos D_]
   exact AKv d1 h hlt
theorem zd(t:AA 64):wV (NQ t)=Rh t 8%Cl:=by
 obtain ⟨_,h⟩:=zH t 512 (Nat.le_refl _)
 unfold NQ
 rw [h,Nat.sub_self,Nat.pow_zero,Nat.div_one]
theorem AAb(b:AA 8):∀j,j≤64→(CR b j).length=8∧Rh (CR b j) 8=Gt b j:=by
 intro j
 induction j with
 |zero=>intro _;exact ⟨rfl,by rw [CR,Gt];decide⟩
 |succ j ih=>
  intro hj
  obtain ⟨h1,h2⟩:=ih O_
  rw [CR,Nw,BitVec.toNat_ofNat,Nat.mod_eq_of_lt (show 8*(j%8)<2^64 by omega)]
  have hd:=en (CR b j) 8 (j/8) O_
  have hlt:=Rq b j
  have hw:(nth (CR b j) (j/8)).toNat<256^(j%8):=by
   rw [←hd,h2]
   refine Nat.lt_of_le_of_lt (Nat.mod_le _ _) ?_;rw [Nat.div_lt_iff_lt_mul (Nat.pow_pos D_)]
   rw [show (18446744073709551616:Nat)=256^8 from rfl,←Nat.pow_mul,←Nat.pow_add,Nat.add_comm,Nat.div_add_mod]
   exact hlt
  have hb:=rf (nth (CR b j) (j/8)) (nth b j) (j%8) (Nat.mod_lt _ D_) hw
  have hp:=iT (CR b j) (j/8) ((nth (CR b j) (j/8)) ||| (((nth b j).setWidth 64)<<<(8*(j%8)))) O_ 8
  rw [if_pos O_,if_pos O_,hb,h2,Nat.add_mul] at hp
  refine ⟨by rw [BW,h1],?_⟩
  rw [Gt]
  have e:(256:Nat)^j=256^(j%8)*18446744073709551616^(j/8):=by
   rw [show (18446744073709551616:Nat)=256^8 from rfl,←Nat.pow_mul,←Nat.pow_add,Nat.add_comm,Nat.div_add_mod]
  rw [e,←Nat.mul_assoc]
  omega
theorem mB{b:AA 8}(hb:b.length≤64):cg b=Yy b:=by
 unfold cg Yy rB
 rw [zd,(AAb b b.length hb).2]
theorem gZ{n:AA 8}(hn:n.length=32):((Bu (JJ n) Tx)==1#64)=Ga n:=by
 unfold Ga
 rw [AD0 (lr n hn),fc]
theorem ud(n:AA 8)(hn:n.length=32):Ev prog (.call 95 [BM n] []) (.val (.c (.val (.bool (Ga n)))) []):=by
 rw [←gZ hn];exact qE n hn
theorem ACx(b:AA 8)(n cap:Nat)(hb:b.length=n)(hn:n≤64):Ev prog (.call 140 [.c (.sl 0 0 n cap 1)] [A0 b]) (.val (BM (Yy b)) [A0 b]):=by
 rw [←mB (hb ▸ hn)];exact vt b n cap hb O_ hn
def dL(r pub text:AA 8):AA 8:=Yy (HJ ((r++pub)++text))
theorem wX(r pub text:AA 8)(tn tcap:Nat)(hr:r.length=32)(hpub:pub.length=32)(htext:text.length=tn)(htn:tn≤1099511627):Ev prog (.call 98 [BM (r),BM (pub),.c (.sl 0 0 tn tcap 1)] [A0 (text)]) (.val (BM (dL r pub text)) [A0 (text)]):=by
 have hP:=Hid.mk (dL.eq_1 r pub text)
 subst htext
 refine AI func98 rfl ntmps98 rfl AM ?_;refine BO ?_;refine Lh ?_;have hQ1:((r++pub)++text).length=(32+32)+text.length:=AP
 have hQ2:(HJ ((r++pub)++text)).length=64:=AP
 refine Jd ?_;refine FI ?_;refine FI ?_;refine AW ?_;refine Ur ?_;refine Hw (Ah (bs:=[4,1,2,0]) (qR r 32 32 pub 32 32 text text.length tcap AD AD AD AD AD AD) AFx K_ K_ rfl B4) AT rfl ?_;refine Hw (Ah (bs:=[5]) (ox ((r++pub)++text) ((32+32)+text.length) ((32+32)+text.length) AD AD) AFm K_ K_ rfl B4) AT rfl ?_;refine Hn (Ay yy AM) AT rfl ?_;refine BJ ?_;refine OQ ?_;refine AR ?_;have hQ3:(Yy (HJ ((r++pub)++text))).length=32:=AP
 refine Ab ?_;refine jr ?_;refine CQ (Ah (bs:=[6]) (ACx (HJ ((r++pub)++text)) 64 64 AD AD) AFq K_ K_ rfl B4) AT rfl ?_;refine GH ?_;rw [hP.out]
 exact Ec
attribute [irreducible] dL
theorem Wu(k:r)(h:Hid r→g:=by intro h;refine AI func96 rfl ntmps96 rfl AM ?_;exact h.out):g:=h ⟨k⟩
theorem I4(k:r)(h:Hid r→g:=by intro h;refine Ap (Ay IM AM) AT rfl ?_;refine Bs rfl rfl rfl rfl EI B7 B7 AT ?_;refine AR ?_;exact h.out):g:=h ⟨k⟩
theorem X0(h:g:=by exact k_2 (Hu rfl rfl ZG ag B7 D_) (Iu rfl) (by (kernel_rfl))):g:=h
theorem wT(b:AA 8)(hb:b.length=32)(AG:AA 64→AA 64→AA 64)(_CL:∀a b:AA 64,(AG a b).length=4)(_Ax:∀a b:AA 64,a.length=4→b.length=4→Ev prog (.call 86 [Aw a,Aw b] []) (.val (Aw (AG a b)) []))(Aq:AA 64→AA 64→AA 64)(_FE:∀a b:AA 64,(Aq a b).length=4)(_CV:∀a b:AA 64,a.length=4→b.length=4→Ev prog (.call 85 [Aw a,Aw b] []) (.val (Aw (Aq a b)) []))(Aj:AA 64→AA 64→AA 64)(_Fa:∀a b:AA 64,(Aj a b).length=4)(_Co:∀a b:AA 64,a.length=4→b.length=4→Ev prog (.call 84 [Aw a,Aw b] []) (.val (Aw (Aj a b)) []))(BT:AA 64→AA 64)(_Ef:∀a:AA 64,(BT a).length=4)(_C5:∀a:AA 64,a.length=4→Ev prog (.call 88 [Aw a] []) (.val (Aw (BT a)) []))(y:AA 64)(y_len:y.length=4)(Uk:Ev prog (.call 83 [BM (put b 31 ((nth b 31)&&&127#8))] []) (.val (Aw y) []))(dd:AA 64)(_dd_len:dd.length=4)(_dd_ev:Ev prog (.call 135 [] []) (.val (Aw dd) []))(rt:AA 64)(_rt_len:rt.length=4)(ri:Bool)(_rt_ev:Ev prog (.call 134 [Aw (AG (Aq (AG y y) (put (AC 4) 0 1#64)) (BT (Aj (AG dd (AG y y)) (put (AC 4) 0 1#64))))] []) (.val (.tup [Aw rt,.c (.val (.bool ri))]) []))(hL:(Bu y BU==1#64)=false):Ev prog (.call 96 [BM (b)] []) (.val (.tup [Aw (AC 16),.c (.val (.bool (false)))]) []):=by
 refine Wu ?_;refine BA ?_;refine Gu ?_;refine Ai ?_;refine Km ?_;refine AB (Xl (b:=128#8) rfl rfl) rfl ?_;refine Ai ?_;refine Iw ?_;refine Jp ?_;have hQ1:(y).length=4:=AP
 refine Bg ?_;refine Ae (Uk) Sj ?_;refine I4 ?_;have hQ3:(BU).length=4:=AP
 have hE2:(!((Bu y BU)==1#64))=true:=by rw [hL];rfl
 refine IL ?_;refine CO ?_;refine AO (I0) Ik ?_;refine AO (H5 y BU AD AD) Qb ?_;refine AH (C6 (Jq rfl) hE2) rfl ?_;refine BJ ?_;refine AZ ?_;refine AB (XX qJ) rfl ?_;refine Fo ?_;refine Al ?_;exact X0
theorem KQ(k:r)(h:Hid r→g:=by intro h;refine AH (Fd (l:=(put (AC 4) 0 (1#64))) Hx underlying128 Am rfl rfl) rfl ?_;exact h.out):g:=h ⟨k⟩
theorem bu(k:r)(h:Hid r→g:=by intro h;refine AH (MW rfl) rfl ?_;refine AH (Bj rfl rfl) rfl ?_;exact h.out):g:=h ⟨k⟩
theorem uG(b:AA 8)(hb:b.length=32)(AG:AA 64→AA 64→AA 64)(CL:∀a b:AA 64,(AG a b).length=4)(Ax:∀a b:AA 64,a.length=4→b.length=4→Ev prog (.call 86 [Aw a,Aw b] []) (.val (Aw (AG a b)) []))(Aq:AA 64→AA 64→AA 64)(FE:∀a b:AA 64,(Aq a b).length=4)(CV:∀a b:AA 64,a.length=4→b.length=4→Ev prog (.call 85 [Aw a,Aw b] []) (.val (Aw (Aq a b)) []))(Aj:AA 64→AA 64→AA 64)(Fa:∀a b:AA 64,(Aj a b).length=4)(Co:∀a b:AA 64,a.length=4→b.length=4→Ev prog (.call 84 [Aw a,Aw b] []) (.val (Aw (Aj a b)) []))(BT:AA 64→AA 64)(Ef:∀a:AA 64,(BT a).length=4)(C5:∀a:AA 64,a.length=4→Ev prog (.call 88 [Aw a] []) (.val (Aw (BT a)) []))(y:AA 64)(y_len:y.length=4)(Uk:Ev prog (.call 83 [BM (put b 31 ((nth b 31)&&&127#8))] []) (.val (Aw y) []))(dd:AA 64)(dd_len:dd.length=4)(dd_ev:Ev prog (.call 135 [] []) (.val (Aw dd) []))(rt:AA 64)(rt_len:rt.length=4)(ri:Bool)(rt_ev:Ev prog (.call 134 [Aw (AG (Aq (AG y y) (put (AC 4) 0 1#64)) (BT (Aj (AG dd (AG y y)) (put (AC 4) 0 1#64))))] []) (.val (.tup [Aw rt,.c (.val (.bool ri))]) []))(hL:(Bu y BU==1#64)=true)(hI:ri=false):Ev prog (.call 96 [BM (b)] []) (.val (.tup [Aw (AC 16),.c (.val (.bool (false)))]) []):=by
 refine Wu ?_;refine BA ?_;refine Gu ?_;refine Ai ?_;refine Km ?_;refine AB (Xl (b:=128#8) rfl rfl) rfl ?_;refine Ai ?_;refine Iw ?_;refine Jp ?_;have hQ1:(y).length=4:=AP
 refine Bg ?_;refine Ae (Uk) Sj ?_;refine I4 ?_;have hQ3:(BU).length=4:=AP
 have hE2:(!((Bu y BU)==1#64))=false:=by rw [hL];rfl
 refine IL ?_;refine CO ?_;refine AO (I0) Ik ?_;refine AO (H5 y BU AD AD) Qb ?_;refine AH (C6 (Jq rfl) hE2) rfl ?_;refine BJ ?_;refine AR ?_;have hQ4:(AG y y).length=4:=AP
 refine IK ?_;refine Ae (Ax y y AD AD) CA ?_;refine I4 ?_;have hQ6:(Aq (AG y y) (put (AC 4) 0 1#64)).length=4:=AP
 have hQ7:(dd).length=4:=AP
 have hQ8:(AG dd (AG y y)).length=4:=AP
 have hQ9:(Aj (AG dd (AG y y)) (put (AC 4) 0 1#64)).length=4:=AP
 have hQ10:(BT (Aj (AG dd (AG y y)) (put (AC 4) 0 1#64))).length=4:=AP
 have hQ11:(AG (Aq (AG y y) (put (AC 4) 0 1#64)) (BT (Aj (AG dd (AG y y)) (put (AC 4) 0 1#64)))).length=4:=AP
 have hQ12:(rt).length=4:=AP
 have hE5:(ri)=false:=hI
 refine S_ ?_;refine Q7 ?_;refine CO ?_;refine KQ ?_;refine AO (CV (AG y y) (put (AC 4) 0 1#64) AD AD) La ?_;refine AO (dd_ev) Um ?_;refine CO ?_;refine AO (Ax dd (AG y y) AD AD) CA ?_;refine KQ ?_;refine AO (Co (AG dd (AG y y)) (put (AC 4) 0 1#64) AD AD) Mo ?_;refine AO (C5 (Aj (AG dd (AG y y)) (put (AC 4) 0 1#64)) AD) V2 ?_;refine AO (Ax (Aq (AG y y) (put (AC 4) 0 1#64)) (BT (Aj (AG dd (AG y y)) (put (AC 4) 0 1#64))) AD AD) CA ?_;refine AO (rt_ev) aE ?_;refine bu ?_;refine AH (C6 (Bj rfl rfl) hE5) rfl ?_;refine Ji ?_;refine FQ ?_;refine BF ?_;refine FN ?_;refine AX ?_;refine SZ ?_;refine SZ ?_;refine SZ ?_;refine HZ ?_;refine AZ ?_;refine AB (XX qJ) rfl ?_;refine Fo ?_;refine Al ?_;exact X0
theorem te(b:AA 8)(hb:b.length=32)(AG:AA 64→AA 64→AA 64)(CL:∀a b:AA 64,(AG a b).length=4)(Ax:∀a b:AA 64,a.length=4→b.length=4→Ev prog (.call 86 [Aw a,Aw b] []) (.val (Aw (AG a b)) []))(Aq:AA 64→AA 64→AA 64)(FE:∀a b:AA 64,(Aq a b).length=4)(CV:∀a b:AA 64,a.length=4→b.length=4→Ev prog (.call 85 [Aw a,Aw b] []) (.val (Aw (Aq a b)) []))(Aj:AA 64→AA 64→AA 64)(Fa:∀a b:AA 64,(Aj a b).length=4)(Co:∀a b:AA 64,a.length=4→b.length=4→Ev prog (.call 84 [Aw a,Aw b] []) (.val (Aw (Aj a b)) []))(BT:AA 64→AA 64)(Ef:∀a:AA 64,(BT a).length=4)(C5:∀a:AA 64,a.length=4→Ev prog (.call 88 [Aw a] []) (.val (Aw (BT a)) []))(y:AA 64)(y_len:y.length=4)(Uk:Ev prog (.call 83 [BM (put b 31 ((nth b 31)&&&127#8))] []) (.val (Aw y) []))(dd:AA 64)(dd_len:dd.length=4)(dd_ev:Ev prog (.call 135 [] []) (.val (Aw dd) []))(rt:AA 64)(rt_len:rt.length=4)(ri:Bool)(rt_ev:Ev prog (.call 134 [Aw (AG (Aq (AG y y) (put (AC 4) 0 1#64)) (BT (Aj (AG dd (AG y y)) (put (AC 4) 0 1#64))))] []) (.val (.tup [Aw rt,.c (.val (.bool ri))]) []))(hL:(Bu y BU==1#64)=true)(hI:ri=true)(hO:decide ((128#8).toNat≤(nth b 31).toNat)=true)(hZ:decide (rt=AC 4)=true):Ev prog (.call 96 [BM (b)] []) (.val (.tup [Aw (AC 16),.c (.val (.bool (false)))]) []):=by
 refine Wu ?_;refine BA ?_;refine Gu ?_;refine BZ ?_;have hE1:(decide ((128#8).toNat≤(nth b 31).toNat))=true:=hO
 refine Ab ?_;refine Km ?_;refine AB (C6 (Xl (b:=128#8) rfl rfl) hE1) rfl ?_;refine Ai ?_;refine Iw ?_;refine Jp ?_;have hQ2:(y).length=4:=AP
 refine Bg ?_;refine Ae (Uk) Sj ?_;refine I4 ?_;have hQ4:(BU).length=4:=AP
 have hE3:(!((Bu y BU)==1#64))=false:=by rw [hL];rfl
 refine IL ?_;refine CO ?_;refine AO (I0) Ik ?_;refine AO (H5 y BU AD AD) Qb ?_;refine AH (C6 (Jq rfl) hE3) rfl ?_;refine BJ ?_;refine AR ?_;have hQ5:(AG y y).length=4:=AP
 refine IK ?_;refine Ae (Ax y y AD AD) CA ?_;refine I4 ?_;have hQ7:(Aq (AG y y) (put (AC 4) 0 1#64)).length=4:=AP
 have hQ8:(dd).length=4:=AP
 have hQ9:(AG dd (AG y y)).length=4:=AP
 have hQ10:(Aj (AG dd (AG y y)) (put (AC 4) 0 1#64)).length=4:=AP
 have hQ11:(BT (Aj (AG dd (AG y y)) (put (AC 4) 0 1#64))).length=4:=AP
 have hQ12:(AG (Aq (AG y y) (put (AC 4) 0 1#64)) (BT (Aj (AG dd (AG y y)) (put (AC 4) 0 1#64)))).length=4:=AP
 have hQ13:(rt).length=4:=AP
 have hE6:(ri)=true:=hI
 refine S_ ?_;refine Q7 ?_;refine CO ?_;refine KQ ?_;refine AO (CV (AG y y) (put (AC 4) 0 1#64) AD AD) La ?_;refine AO (dd_ev) Um ?_;refine CO ?_;refine AO (Ax dd (AG y y) AD AD) CA ?_;refine KQ ?_;refine AO (Co (AG dd (AG y y)) (put (AC 4) 0 1#64) AD AD) Mo ?_;refine AO (C5 (Aj (AG dd (AG y y)) (put (AC 4) 0 1#64)) AD) V2 ?_;refine AO (Ax (Aq (AG y y) (put (AC 4) 0 1#64)) (BT (Aj (AG dd (AG y y)) (put (AC 4) 0 1#64))) AD AD) CA ?_;refine AO (rt_ev) aE ?_;refine bu ?_;refine AH (C6 (Bj rfl rfl) hE6) rfl ?_;refine Ji ?_;refine FQ ?_;refine BZ ?_;have hE14:(decide (rt=AC 4))=true:=hZ
 refine A1 ?_;refine FN ?_;refine Lu ?_;refine IQ ?_;refine Ee KL ?_;refine M5 ?_;refine Ee KL ?_;refine AB (C6 (Vg rfl rfl underlying128 underlying70 Am B7 B7) hE14) rfl ?_;refine Ee KL ?_;refine Ip ?_;refine HZ ?_;refine Dm ?_;refine AZ ?_;refine AB (XX qJ) rfl ?_;refine Fo ?_;refine Al ?_;exact X0
theorem CN(k:r)(h:Hid r→g:=by intro h;refine AH (A9 rfl rfl Ei EI B7 D_) rfl ?_;refine AH (A9 rfl rfl Ei EI B7 D_) rfl ?_;exact h.out):g:=h ⟨k⟩
theorem iL(k:r)(h:Hid r→g:=by intro h;refine AH (gb rfl rfl rfl rfl (AA8 Iz Iz Iz Iz)) rfl ?_;exact h.out):g:=h ⟨k⟩
theorem vp(b:AA 8)(hb:b.length=32)(AG:AA 64→AA 64→AA 64)(CL:∀a b:AA 64,(AG a b).length=4)(Ax:∀a b:AA 64,a.length=4→b.length=4→Ev prog (.call 86 [Aw a,Aw b] []) (.val (Aw (AG a b)) []))(Aq:AA 64→AA 64→AA 64)(FE:∀a b:AA 64,(Aq a b).length=4)(CV:∀a b:AA 64,a.length=4→b.length=4→Ev prog (.call 85 [Aw a,Aw b] []) (.val (Aw (Aq a b)) []))(Aj:AA 64→AA 64→AA 64)(Fa:∀a b:AA 64,(Aj a b).length=4)(Co:∀a b:AA 64,a.length=4→b.length=4→Ev prog (.call 84 [Aw a,Aw b] []) (.val (Aw (Aj a b)) []))(BT:AA 64→AA 64)(Ef:∀a:AA 64,(BT a).length=4)(C5:∀a:AA 64,a.length=4→Ev prog (.call 88 [Aw a] []) (.val (Aw (BT a)) []))(y:AA 64)(y_len:y.length=4)(Uk:Ev prog (.call 83 [BM (put b 31 ((nth b 31)&&&127#8))] []) (.val (Aw y) []))(dd:AA 64)(dd_len:dd.length=4)(dd_ev:Ev prog (.call 135 [] []) (.val (Aw dd) []))(rt:AA 64)(rt_len:rt.length=4)(ri:Bool)(rt_ev:Ev prog (.call 134 [Aw (AG (Aq (AG y y) (put (AC 4) 0 1#64)) (BT (Aj (AG dd (AG y y)) (put (AC 4) 0 1#64))))] []) (.val (.tup [Aw rt,.c (.val (.bool ri))]) []))(hL:(Bu y BU==1#64)=true)(hI:ri=true)(hO:decide ((128#8).toNat≤(nth b 31).toNat)=false)(hZ:decide (rt=AC 4)=false):Ev prog (.call 96 [BM (b)] []) (.val (.tup [Aw (rt++y++(put (AC 4) 0 1#64)++(AG rt y)),.c (.val (.bool (true)))]) []):=by
 refine Wu ?_;refine BA ?_;refine Gu ?_;refine BZ ?_;have hE1:(decide ((128#8).toNat≤(nth b 31).toNat))=false:=hO
 refine Ab ?_;refine Km ?_;refine AB (C6 (Xl (b:=128#8) rfl rfl) hE1) rfl ?_;refine Ai ?_;refine Iw ?_;refine Jp ?_;have hQ2:(y).length=4:=AP
 refine Bg ?_;refine Ae (Uk) Sj ?_;refine I4 ?_;have hQ4:(BU).length=4:=AP
 have hE3:(!((Bu y BU)==1#64))=false:=by rw [hL];rfl
 refine IL ?_;refine CO ?_;refine AO (I0) Ik ?_;refine AO (H5 y BU AD AD) Qb ?_;refine AH (C6 (Jq rfl) hE3) rfl ?_;refine BJ ?_;refine AR ?_;have hQ5:(AG y y).length=4:=AP
 refine IK ?_;refine Ae (Ax y y AD AD) CA ?_;refine I4 ?_;have hQ7:(Aq (AG y y) (put (AC 4) 0 1#64)).length=4:=AP
 have hQ8:(dd).length=4:=AP
 have hQ9:(AG dd (AG y y)).length=4:=AP
 have hQ10:(Aj (AG dd (AG y y)) (put (AC 4) 0 1#64)).length=4:=AP
 have hQ11:(BT (Aj (AG dd (AG y y)) (put (AC 4) 0 1#64))).length=4:=AP
 have hQ12:(AG (Aq (AG y y) (put (AC 4) 0 1#64)) (BT (Aj (AG dd (AG y y)) (put (AC 4) 0 1#64)))).length=4:=AP
 have hQ13:(rt).length=4:=AP
 have hE6:(ri)=true:=hI
 refine S_ ?_;refine Q7 ?_;refine CO ?_;refine KQ ?_;refine AO (CV (AG y y) (put (AC 4) 0 1#64) AD AD) La ?_;refine AO (dd_ev) Um ?_;refine CO ?_;refine AO (Ax dd (AG y y) AD AD) CA ?_;refine KQ ?_;refine AO (Co (AG dd (AG y y)) (put (AC 4) 0 1#64) AD AD) Mo ?_;refine AO (C5 (Aj (AG dd (AG y y)) (put (AC 4) 0 1#64)) AD) V2 ?_;refine AO (Ax (Aq (AG y y) (put (AC 4) 0 1#64)) (BT (Aj (AG dd (AG y y)) (put (AC 4) 0 1#64))) AD AD) CA ?_;refine AO (rt_ev) aE ?_;refine bu ?_;refine AH (C6 (Bj rfl rfl) hE6) rfl ?_;refine Ji ?_;refine FQ ?_;refine BZ ?_;have hE14:(decide (rt=AC 4))=false:=hZ
 refine A1 ?_;refine FN ?_;refine Lu ?_;refine IQ ?_;refine Ee KL ?_;refine M5 ?_;refine Ee KL ?_;refine AB (C6 (Vg rfl rfl underlying128 underlying70 Am B7 B7) hE14) rfl ?_;refine Ee KL ?_;refine AX ?_;refine bB KL rfl ?_;refine Ee KL ?_;refine Dm ?_;refine Dm ?_;refine Ak ?_;refine AR ?_;have hQ15:(AG rt y).length=4:=AP
 refine Jd ?_;refine CN ?_;refine KQ ?_;refine CN ?_;refine AO (Ax rt y AD AD) CA ?_;refine iL ?_;refine BJ ?_;refine Fo ?_;refine Al ?_;exact X0
theorem uy(b:AA 8)(hb:b.length=32)(AG:AA 64→AA 64→AA 64)(CL:∀a b:AA 64,(AG a b).length=4)(Ax:∀a b:AA 64,a.length=4→b.length=4→Ev prog (.call 86 [Aw a,Aw b] []) (.val (Aw (AG a b)) []))(Aq:AA 64→AA 64→AA 64)(FE:∀a b:AA 64,(Aq a b).length=4)(CV:∀a b:AA 64,a.length=4→b.length=4→Ev prog (.call 85 [Aw a,Aw b] []) (.val (Aw (Aq a b)) []))(Aj:AA 64→AA 64→AA 64)(Fa:∀a b:AA 64,(Aj a b).length=4)(Co:∀a b:AA 64,a.length=4→b.length=4→Ev prog (.call 84 [Aw a,Aw b] []) (.val (Aw (Aj a b)) []))(BT:AA 64→AA 64)(Ef:∀a:AA 64,(BT a).length=4)(C5:∀a:AA 64,a.length=4→Ev prog (.call 88 [Aw a] []) (.val (Aw (BT a)) []))(y:AA 64)(y_len:y.length=4)(Uk:Ev prog (.call 83 [BM (put b 31 ((nth b 31)&&&127#8))] []) (.val (Aw y) []))(dd:AA 64)(dd_len:dd.length=4)(dd_ev:Ev prog (.call 135 [] []) (.val (Aw dd) []))(rt:AA 64)(rt_len:rt.length=4)(ri:Bool)(rt_ev:Ev prog (.call 134 [Aw (AG (Aq (AG y y) (put (AC 4) 0 1#64)) (BT (Aj (AG dd (AG y y)) (put (AC 4) 0 1#64))))] []) (.val (.tup [Aw rt,.c (.val (.bool ri))]) []))(hL:(Bu y BU==1#64)=true)(hI:ri=true)(hO:decide ((128#8).toNat≤(nth b 31).toNat)=false)(hZ:decide (rt=AC 4)=true):Ev prog (.call 96 [BM (b)] []) (.val (.tup [Aw (rt++y++(put (AC 4) 0 1#64)++(AG rt y)),.c (.val (.bool (true)))]) []):=by
 refine Wu ?_;refine BA ?_;refine Gu ?_;refine BZ ?_;have hE1:(decide ((128#8).toNat≤(nth b 31).toNat))=false:=hO
 refine Ab ?_;refine Km ?_;refine AB (C6 (Xl (b:=128#8) rfl rfl) hE1) rfl ?_;refine Ai ?_;refine Iw ?_;refine Jp ?_;have hQ2:(y).length=4:=AP
 refine Bg ?_;refine Ae (Uk) Sj ?_;refine I4 ?_;have hQ4:(BU).length=4:=AP
 have hE3:(!((Bu y BU)==1#64))=false:=by rw [hL];rfl
 refine IL ?_;refine CO ?_;refine AO (I0) Ik ?_;refine AO (H5 y BU AD AD) Qb ?_;refine AH (C6 (Jq rfl) hE3) rfl ?_;refine BJ ?_;refine AR ?_;have hQ5:(AG y y).length=4:=AP
 refine IK ?_;refine Ae (Ax y y AD AD) CA ?_;refine I4 ?_;have hQ7:(Aq (AG y y) (put (AC 4) 0 1#64)).length=4:=AP
 have hQ8:(dd).length=4:=AP
 have hQ9:(AG dd (AG y y)).length=4:=AP
 have hQ10:(Aj (AG dd (AG y y)) (put (AC 4) 0 1#64)).length=4:=AP
 have hQ11:(BT (Aj (AG dd (AG y y)) (put (AC 4) 0 1#64))).length=4:=AP
 have hQ12:(AG (Aq (AG y y) (put (AC 4) 0 1#64)) (BT (Aj (AG dd (AG y y)) (put (AC 4) 0 1#64)))).length=4:=AP
 have hQ13:(rt).length=4:=AP
 have hE6:(ri)=true:=hI
 refine S_ ?_;refine Q7 ?_;refine CO ?_;refine KQ ?_;refine AO (CV (AG y y) (put (AC 4) 0 1#64) AD AD) La ?_;refine AO (dd_ev) Um ?_;refine CO ?_;refine AO (Ax dd (AG y y) AD AD) CA ?_;refine KQ ?_;refine AO (Co (AG dd (AG y y)) (put (AC 4) 0 1#64) AD AD) Mo ?_;refine AO (C5 (Aj (AG dd (AG y y)) (put (AC 4) 0 1#64)) AD) V2 ?_;refine AO (Ax (Aq (AG y y) (put (AC 4) 0 1#64)) (BT (Aj (AG dd (AG y y)) (put (AC 4) 0 1#64))) AD AD) CA ?_;refine AO (rt_ev) aE ?_;refine bu ?_;refine AH (C6 (Bj rfl rfl) hE6) rfl ?_;refine Ji ?_;refine FQ ?_;refine BZ ?_;have hE14:(decide (rt=AC 4))=true:=hZ
 refine A1 ?_;refine FN ?_;refine Lu ?_;refine IQ ?_;refine Ee KL ?_;refine M5 ?_;refine Ee KL ?_;refine AB (C6 (Vg rfl rfl underlying128 underlying70 Am B7 B7) hE14) rfl ?_;refine Ee KL ?_;refine Ip ?_;refine HZ ?_;refine Dm ?_;refine Ak ?_;refine AR ?_;have hQ15:(AG rt y).length=4:=AP
 refine Jd ?_;refine CN ?_;refine KQ ?_;refine CN ?_;refine AO (Ax rt y AD AD) CA ?_;refine iL ?_;refine BJ ?_;refine Fo ?_;refine Al ?_;exact X0
theorem ED(k:r)(h:Hid r→g:=by intro h;refine Bs rfl rfl rfl rfl EI B7 B7 AT ?_;refine AR ?_;exact h.out):g:=h ⟨k⟩
theorem uz(b:AA 8)(hb:b.length=32)(AG:AA 64→AA 64→AA 64)(CL:∀a b:AA 64,(AG a b).length=4)(Ax:∀a b:AA 64,a.length=4→b.length=4→Ev prog (.call 86 [Aw a,Aw b] []) (.val (Aw (AG a b)) []))(Aq:AA 64→AA 64→AA 64)(FE:∀a b:AA 64,(Aq a b).length=4)(CV:∀a b:AA 64,a.length=4→b.length=4→Ev prog (.call 85 [Aw a,Aw b] []) (.val (Aw (Aq a b)) []))(Aj:AA 64→AA 64→AA 64)(Fa:∀a b:AA 64,(Aj a b).length=4)(Co:∀a b:AA 64,a.length=4→b.length=4→Ev prog (.call 84 [Aw a,Aw b] []) (.val (Aw (Aj a b)) []))(BT:AA 64→AA 64)(Ef:∀a:AA 64,(BT a).length=4)(C5:∀a:AA 64,a.length=4→Ev prog (.call 88 [Aw a] []) (.val (Aw (BT a)) []))(y:AA 64)(y_len:y.length=4)(Uk:Ev prog (.call 83 [BM (put b 31 ((nth b 31)&&&127#8))] []) (.val (Aw y) []))(dd:AA 64)(dd_len:dd.length=4)(dd_ev:Ev prog (.call 135 [] []) (.val (Aw dd) []))(rt:AA 64)(rt_len:rt.length=4)(ri:Bool)(rt_ev:Ev prog (.call 134 [Aw (AG (Aq (AG y y) (put (AC 4) 0 1#64)) (BT (Aj (AG dd (AG y y)) (put (AC 4) 0 1#64))))] []) (.val (.tup [Aw rt,.c (.val (.bool ri))]) []))(hL:(Bu y BU==1#64)=true)(hI:ri=true)(hO:decide ((128#8).toNat≤(nth b 31).toNat)=true)(hZ:decide (rt=AC 4)=false):Ev prog (.call 96 [BM (b)] []) (.val (.tup [Aw ((Aq (AC 4) rt)++y++(put (AC 4) 0 1#64)++(AG (Aq (AC 4) rt) y)),.c (.val (.bool (true)))]) []):=by
 refine Wu ?_;refine BA ?_;refine Gu ?_;refine BZ ?_;have hE1:(decide ((128#8).toNat≤(nth b 31).toNat))=true:=hO
 refine Ab ?_;refine Km ?_;refine AB (C6 (Xl (b:=128#8) rfl rfl) hE1) rfl ?_;refine Ai ?_;refine Iw ?_;refine Jp ?_;have hQ2:(y).length=4:=AP
 refine Bg ?_;refine Ae (Uk) Sj ?_;refine I4 ?_;have hQ4:(BU).length=4:=AP
 have hE3:(!((Bu y BU)==1#64))=false:=by rw [hL];rfl
 refine IL ?_;refine CO ?_;refine AO (I0) Ik ?_;refine AO (H5 y BU AD AD) Qb ?_;refine AH (C6 (Jq rfl) hE3) rfl ?_;refine BJ ?_;refine AR ?_;have hQ5:(AG y y).length=4:=AP
 refine IK ?_;refine Ae (Ax y y AD AD) CA ?_;refine I4 ?_;have hQ7:(Aq (AG y y) (put (AC 4) 0 1#64)).length=4:=AP
 have hQ8:(dd).length=4:=AP
 have hQ9:(AG dd (AG y y)).length=4:=AP
 have hQ10:(Aj (AG dd (AG y y)) (put (AC 4) 0 1#64)).length=4:=AP
 have hQ11:(BT (Aj (AG dd (AG y y)) (put (AC 4) 0 1#64))).length=4:=AP
 have hQ12:(AG (Aq (AG y y) (put (AC 4) 0 1#64)) (BT (Aj (AG dd (AG y y)) (put (AC 4) 0 1#64)))).length=4:=AP
 have hQ13:(rt).length=4:=AP
 have hE6:(ri)=true:=hI
 refine S_ ?_;refine Q7 ?_;refine CO ?_;refine KQ ?_;refine AO (CV (AG y y) (put (AC 4) 0 1#64) AD AD) La ?_;refine AO (dd_ev) Um ?_;refine CO ?_;refine AO (Ax dd (AG y y) AD AD) CA ?_;refine KQ ?_;refine AO (Co (AG dd (AG y y)) (put (AC 4) 0 1#64) AD AD) Mo ?_;refine AO (C5 (Aj (AG dd (AG y y)) (put (AC 4) 0 1#64)) AD) V2 ?_;refine AO (Ax (Aq (AG y y) (put (AC 4) 0 1#64)) (BT (Aj (AG dd (AG y y)) (put (AC 4) 0 1#64))) AD AD) CA ?_;refine AO (rt_ev) aE ?_;refine bu ?_;refine AH (C6 (Bj rfl rfl) hE6) rfl ?_;refine Ji ?_;refine FQ ?_;refine BZ ?_;have hE14:(decide (rt=AC 4))=false:=hZ
 refine A1 ?_;refine FN ?_;refine Lu ?_;refine IQ ?_;refine Ee KL ?_;refine M5 ?_;refine Ee KL ?_;refine AB (C6 (Vg rfl rfl underlying128 underlying70 Am B7 B7) hE14) rfl ?_;refine Ee KL ?_;refine AX ?_;refine bB KL rfl ?_;refine Ee KL ?_;refine Dm ?_;refine Dm ?_;refine Ak ?_;refine AR ?_;have hQ15:(Aq (AC 4) rt).length=4:=AP
 refine Ab ?_;refine M5 ?_;refine IQ ?_;refine Ae (CV (AC 4) rt AD AD) La ?_;refine ED ?_;have hQ16:(AG (Aq (AC 4) rt) y).length=4:=AP
 refine Jd ?_;refine CN ?_;refine KQ ?_;refine CN ?_;refine AO (Ax (Aq (AC 4) rt) y AD AD) CA ?_;refine iL ?_;refine BJ ?_;refine Fo ?_;refine Al ?_;exact X0
theorem nV(k:r)(h:Hid r→g:=by intro h;refine AB (Tc rfl rfl Ei EI Wg D_) rfl ?_;exact h.out):g:=h ⟨k⟩
theorem cr(k:r)(h:Hid r→g:=by intro h;refine AH (A7 rfl (xD _ _)) rfl ?_;exact h.out):g:=h ⟨k⟩
theorem L1(k:r)(h:Hid r→g:=by intro h;refine AH (Tc rfl rfl Ei EI Wg D_) rfl ?_;exact h.out):g:=h ⟨k⟩
theorem av(k:r)(h:Hid r→g:=by intro h;refine AH (A7 rfl (zN _ _)) rfl ?_;exact h.out):g:=h ⟨k⟩
theorem vA(p:AA 64)(hp:p.length=16)(AG:AA 64→AA 64→AA 64)(CL:∀a b:AA 64,(AG a b).length=4)(Ax:∀a b:AA 64,a.length=4→b.length=4→Ev prog (.call 86 [Aw a,Aw b] []) (.val (Aw (AG a b)) []))(BT:AA 64→AA 64)(Ef:∀a:AA 64,(BT a).length=4)(C5:∀a:AA 64,a.length=4→Ev prog (.call 88 [Aw a] []) (.val (Aw (BT a)) [])):Ev prog (.call 136 [Aw (p)] []) (.val (BM ((if (((nth (AG (cut p 0 4) (BT (cut p 8 4))) 0)&&&1#64)==1#64)=true then put (rB (AG (cut p 4 4) (BT (cut p 8 4)))) 31 ((nth (rB (AG (cut p 4 4) (BT (cut p 8 4)))) 31) ||| 128#8) else rB (AG (cut p 4 4) (BT (cut p 8 4)))))) []):=by
 refine AI func136 rfl ntmps136 rfl AM ?_;refine BA ?_;refine Lh ?_;have hQ1:(cut p 8 4).length=4:=AP
 have hQ2:(BT (cut p 8 4)).length=4:=AP
 refine Ab ?_;refine AB (A7 rfl (bQ _ _)) rfl ?_;refine nV ?_;refine Ae (C5 (cut p 8 4) AD) V2 ?_;refine I4 ?_;have hQ3:(cut p 0 4).length=4:=AP
 have hQ4:(AG (cut p 0 4) (BT (cut p 8 4))).length=4:=AP
 have hQ5:(cut p 4 4).length=4:=AP
 have hQ6:(AG (cut p 4 4) (BT (cut p 8 4))).length=4:=AP
 refine S_ ?_;refine B5 10 mixed K_ rfl rfl rfl ?_;refine cr ?_;refine L1 ?_;refine CO ?_;refine AO (Ax (cut p 0 4) (BT (cut p 8 4)) AD AD) CA ?_;refine av ?_;refine L1 ?_;refine CO ?_;refine AO (Ax (cut p 4 4) (BT (cut p 8 4)) AD AD) CA ?_;refine Hn (Ay IM AM) AT rfl ?_;refine Ji ?_;refine FQ ?_;refine ED ?_;have hQ7:(rB (AG (cut p 4 4) (BT (cut p 8 4)))).length=32:=AP
 refine Kc ?_;refine Ae (tM (AG (cut p 4 4) (BT (cut p 8 4))) AD) sf ?_;refine Gf ?_;refine AZ ?_;refine jW ?_;refine A3 ?_;refine XU ?_;refine SM ?_;refine EA ?_;refine Eb [2,6] (fun (zz:AA 8)=>⟨29,AU [2,6] [AY 0,AY 1],[BP (Ac 32),BP (zz)]⟩) (if (((nth (AG (cut p 0 4) (BT (cut p 8 4))) 0)&&&1#64)==1#64)=true then put (rB (AG (cut p 4 4) (BT (cut p 8 4)))) 31 ((nth (rB (AG (cut p 4 4) (BT (cut p 8 4)))) 31) ||| 128#8) else rB (AG (cut p 4 4) (BT (cut p 8 4)))) rfl (fun hb=>?_) (fun hb=>?_) ?_
 ·refine S_ ?_
  refine A2 ?_;refine Km ?_;refine AB (cG (b:=128#8) rfl rfl) rfl ?_;refine qO ?_;refine Ct ?_;refine Ar ?_;refine ⟨(put (rB (AG (cut p 4 4) (BT (cut p 8 4)))) 31 ((nth (rB (AG (cut p 4 4) (BT (cut p 8 4)))) 31) ||| 128#8)),K_,?_⟩
  rw [if_pos (hb)]
 ·refine S_ ?_
  refine ⟨(rB (AG (cut p 4 4) (BT (cut p 8 4)))),K_,?_⟩
  rw [if_neg (by (rw [hb];decide))]
 have hJ8:(if (((nth (AG (cut p 0 4) (BT (cut p 8 4))) 0)&&&1#64)==1#64)=true then put (rB (AG (cut p 4 4) (BT (cut p 8 4)))) 31 ((nth (rB (AG (cut p 4 4) (BT (cut p 8 4)))) 31) ||| 128#8) else rB (AG (cut p 4 4) (BT (cut p 8 4)))).length=32:=by split<;>simp [*]
 generalize (if (((nth (AG (cut p 0 4) (BT (cut p 8 4))) 0)&&&1#64)==1#64)=true then put (rB (AG (cut p 4 4) (BT (cut p 8 4)))) 31 ((nth (rB (AG (cut p 4 4) (BT (cut p 8 4)))) 31) ||| 128#8) else rB (AG (cut p 4 4) (BT (cut p 8 4))))=J8 at*
 refine Bg ?_;refine GH ?_;exact Ec
def M7(p:AA 64):AA 8:=(if (((nth (AG (cut p 0 4) (BT (cut p 8 4))) 0)&&&1#64)==1#64)=true then put (rB (AG (cut p 4 4) (BT (cut p 8 4)))) 31 ((nth (rB (AG (cut p 4 4) (BT (cut p 8 4)))) 31) ||| 128#8) else rB (AG (cut p 4 4) (BT (cut p 8 4))))
theorem aC(p:AA 64)(hp:p.length=16):Ev prog (.call 136 [Aw (p)] []) (.val (BM (M7 p)) []):=by
 unfold M7
 exact vA p hp AG CL Ax BT Ef C5
@[simp] theorem AH0(p:AA 64)(_hp:p.length=16):(M7 p).length=32:=by
 unfold M7
 (split<;>simp [*])
attribute [irreducible] M7
theorem oC(p q k:AA 64)(hp:p.length=16)(hq:q.length=16)(hk:k.length=4)(AG:AA 64→AA 64→AA 64)(CL:∀a b:AA 64,(AG a b).length=4)(Ax:∀a b:AA 64,a.length=4→b.length=4→Ev prog (.call 86 [Aw a,Aw b] []) (.val (Aw (AG a b)) []))(Aq:AA 64→AA 64→AA 64)(FE:∀a b:AA 64,(Aq a b).length=4)(CV:∀a b:AA 64,a.length=4→b.length=4→Ev prog (.call 85 [Aw a,Aw b] []) (.val (Aw (Aq a b)) []))(Aj:AA 64→AA 64→AA 64)(Fa:∀a b:AA 64,(Aj a b).length=4)(Co:∀a b:AA 64,a.length=4→b.length=4→Ev prog (.call 84 [Aw a,Aw b] []) (.val (Aw (Aj a b)) [])):Ev prog (.call 141 [Aw (p),Aw (q),Aw (k)] []) (.val (Aw ((AG (Aq (AG (Aj (cut p 4 4) (cut p 0 4)) (Aj (cut q 4 4) (cut q 0 4))) (AG (Aq (cut p 4 4) (cut p 0 4)) (Aq (cut q 4 4) (cut q 0 4)))) (Aq (Aj (AG (cut p 8 4) (cut q 8 4)) (AG (cut p 8 4) (cut q 8 4))) (Aj (AG (AG (cut p 12 4) k) (cut q 12 4)) (AG (AG (cut p 12 4) k) (cut q 12 4)))))++(AG (Aj (Aj (AG (cut p 8 4) (cut q 8 4)) (AG (cut p 8 4) (cut q 8 4))) (Aj (AG (AG (cut p 12 4) k) (cut q 12 4)) (AG (AG (cut p 12 4) k) (cut q 12 4)))) (Aj (AG (Aj (cut p 4 4) (cut p 0 4)) (Aj (cut q 4 4) (cut q 0 4))) (AG (Aq (cut p 4 4) (cut p 0 4)) (Aq (cut q 4 4) (cut q 0 4)))))++(AG (Aq (Aj (AG (cut p 8 4) (cut q 8 4)) (AG (cut p 8 4) (cut q 8 4))) (Aj (AG (AG (cut p 12 4) k) (cut q 12 4)) (AG (AG (cut p 12 4) k) (cut q 12 4)))) (Aj (Aj (AG (cut p 8 4) (cut q 8 4)) (AG (cut p 8 4) (cut q 8 4))) (Aj (AG (AG (cut p 12 4) k) (cut q 12 4)) (AG (AG (cut p 12 4) k) (cut q 12 4)))))++(AG (Aq (AG (Aj (cut p 4 4) (cut p 0 4)) (Aj (cut q 4 4) (cut q 0 4))) (AG (Aq (cut p 4 4) (cut p 0 4)) (Aq (cut q 4 4) (cut q 0 4)))) (Aj (AG (Aj (cut p 4 4) (cut p 0 4)) (Aj (cut q 4 4) (cut q 0 4))) (AG (Aq (cut p 4 4) (cut p 0 4)) (Aq (cut q 4 4) (cut q 0 4))))))) []):=by
 refine AI func141 rfl ntmps141 rfl AM ?_;refine BO ?_;refine Ap (Sw yp AM) AT rfl ?_;refine Gu ?_;refine AR ?_;have hQ1:(cut p 4 4).length=4:=AP
 have hQ2:(cut p 0 4).length=4:=AP
 have hQ3:(Aq (cut p 4 4) (cut p 0 4)).length=4:=AP
 have hQ4:(cut q 4 4).length=4:=AP
 have hQ5:(cut q 0 4).length=4:=AP
 have hQ6:(Aq (cut q 4 4) (cut q 0 4)).length=4:=AP
 have hQ7:(AG (Aq (cut p 4 4) (cut p 0 4)) (Aq (cut q 4 4) (cut q 0 4))).length=4:=AP
 refine S_ ?_;refine Hk ?_;refine av ?_;refine L1 ?_;refine cr ?_;refine L1 ?_;refine AO (CV (cut p 4 4) (cut p 0 4) AD AD) La ?_;refine av ?_;refine L1 ?_;refine cr ?_;refine L1 ?_;refine AO (CV (cut q 4 4) (cut q 0 4) AD AD) La ?_;refine AO (Ax (Aq (cut p 4 4) (cut p 0 4)) (Aq (cut q 4 4) (cut q 0 4)) AD AD) CA ?_;refine Ji ?_;refine ED ?_;have hQ8:(cut p 4 4).length=4:=AP
 have hQ9:(cut p 0 4).length=4:=AP
 have hQ10:(Aj (cut p 4 4) (cut p 0 4)).length=4:=AP
 have hQ11:(cut q 4 4).length=4:=AP
 have hQ12:(cut q 0 4).length=4:=AP
 have hQ13:(Aj (cut q 4 4) (cut q 0 4)).length=4:=AP
 have hQ14:(AG (Aj (cut p 4 4) (cut p 0 4)) (Aj (cut q 4 4) (cut q 0 4))).length=4:=AP
 refine S_ ?_;refine Hk ?_;refine av ?_;refine L1 ?_;refine cr ?_;refine L1 ?_;refine AO (Co (cut p 4 4) (cut p 0 4) AD AD) Mo ?_;refine av ?_;refine L1 ?_;refine cr ?_;refine L1 ?_;refine AO (Co (cut q 4 4) (cut q 0 4) AD AD) Mo ?_;refine AO (Ax (Aj (cut p 4 4) (cut p 0 4)) (Aj (cut q 4 4) (cut q 0 4)) AD AD) CA ?_;refine Ji ?_;refine ED ?_;have hQ15:(cut p 12 4).length=4:=AP
 have hQ16:(AG (cut p 12 4) k).length=4:=AP
 have hQ17:(cut q 12 4).length=4:=AP
 have hQ18:(AG (AG (cut p 12 4) k) (cut q 12 4)).length=4:=AP
 refine Iv ?_;refine AH (A7 rfl (mq _ _)) rfl ?_;refine L1 ?_;refine CO ?_;refine AO (Ax (cut p 12 4) k AD AD) CA ?_;refine AH (A7 rfl (mq _ _)) rfl ?_;refine L1 ?_;refine AO (Ax (AG (cut p 12 4) k) (cut q 12 4) AD AD) CA ?_;refine Ji ?_;refine ED ?_;have hQ19:(Aj (AG (AG (cut p 12 4) k) (cut q 12 4)) (AG (AG (cut p 12 4) k) (cut q 12 4))).length=4:=AP
 refine IK ?_;refine Ae (Co (AG (AG (cut p 12 4) k) (cut q 12 4)) (AG (AG (cut p 12 4) k) (cut q 12 4)) AD AD) Mo ?_;refine ED ?_;have hQ20:(cut p 8 4).length=4:=AP
 have hQ21:(cut q 8 4).length=4:=AP
 have hQ22:(AG (cut p 8 4) (cut q 8 4)).length=4:=AP
 refine Ab ?_;refine AB (A7 rfl (bQ _ _)) rfl ?_;refine nV ?_;refine AB (A7 rfl (bQ _ _)) rfl ?_;refine nV ?_;refine Ae (Ax (cut p 8 4) (cut q 8 4) AD AD) CA ?_;refine I4 ?_;have hQ23:(Aj (AG (cut p 8 4) (cut q 8 4)) (AG (cut p 8 4) (cut q 8 4))).length=4:=AP
 refine IK ?_;refine Ae (Co (AG (cut p 8 4) (cut q 8 4)) (AG (cut p 8 4) (cut q 8 4)) AD AD) Mo ?_;refine ED ?_;have hQ24:(Aq (AG (Aj (cut p 4 4) (cut p 0 4)) (Aj (cut q 4 4) (cut q 0 4))) (AG (Aq (cut p 4 4) (cut p 0 4)) (Aq (cut q 4 4) (cut q 0 4)))).length=4:=AP
 have hQ25:(Aq (Aj (AG (cut p 8 4) (cut q 8 4)) (AG (cut p 8 4) (cut q 8 4))) (Aj (AG (AG (cut p 12 4) k) (cut q 12 4)) (AG (AG (cut p 12 4) k) (cut q 12 4)))).length=4:=AP
 have hQ26:(Aj (Aj (AG (cut p 8 4) (cut q 8 4)) (AG (cut p 8 4) (cut q 8 4))) (Aj (AG (AG (cut p 12 4) k) (cut q 12 4)) (AG (AG (cut p 12 4) k) (cut q 12 4)))).length=4:=AP
 have hQ27:(Aj (AG (Aj (cut p 4 4) (cut p 0 4)) (Aj (cut q 4 4) (cut q 0 4))) (AG (Aq (cut p 4 4) (cut p 0 4)) (Aq (cut q 4 4) (cut q 0 4)))).length=4:=AP
 refine L2 ?_;refine CN ?_;refine AO (CV (AG (Aj (cut p 4 4) (cut p 0 4)) (Aj (cut q 4 4) (cut q 0 4))) (AG (Aq (cut p 4 4) (cut p 0 4)) (Aq (cut q 4 4) (cut q 0 4))) AD AD) La ?_;refine CN ?_;refine AO (CV (Aj (AG (cut p 8 4) (cut q 8 4)) (AG (cut p 8 4) (cut q 8 4))) (Aj (AG (AG (cut p 12 4) k) (cut q 12 4)) (AG (AG (cut p 12 4) k) (cut q 12 4))) AD AD) La ?_;refine CN ?_;refine AO (Co (Aj (AG (cut p 8 4) (cut q 8 4)) (AG (cut p 8 4) (cut q 8 4))) (Aj (AG (AG (cut p 12 4) k) (cut q 12 4)) (AG (AG (cut p 12 4) k) (cut q 12 4))) AD AD) Mo ?_;refine CN ?_;refine AO (Co (AG (Aj (cut p 4 4) (cut p 0 4)) (Aj (cut q 4 4) (cut q 0 4))) (AG (Aq (cut p 4 4) (cut p 0 4)) (Aq (cut q 4 4) (cut q 0 4))) AD AD) Mo ?_;refine Hn (Ay IM AM) AT rfl ?_;refine Hn (Ay IM AM) AT rfl ?_;refine Hn (Ay IM AM) AT rfl ?_;refine Ji ?_;refine FQ ?_;refine FQ ?_;refine FQ ?_;refine ED ?_;have hQ28:(AG (Aq (AG (Aj (cut p 4 4) (cut p 0 4)) (Aj (cut q 4 4) (cut q 0 4))) (AG (Aq (cut p 4 4) (cut p 0 4)) (Aq (cut q 4 4) (cut q 0 4)))) (Aq (Aj (AG (cut p 8 4) (cut q 8 4)) (AG (cut p 8 4) (cut q 8 4))) (Aj (AG (AG (cut p 12 4) k) (cut q 12 4)) (AG (AG (cut p 12 4) k) (cut q 12 4))))).length=4:=AP
 have hQ29:(AG (Aj (Aj (AG (cut p 8 4) (cut q 8 4)) (AG (cut p 8 4) (cut q 8 4))) (Aj (AG (AG (cut p 12 4) k) (cut q 12 4)) (AG (AG (cut p 12 4) k) (cut q 12 4)))) (Aj (AG (Aj (cut p 4 4) (cut p 0 4)) (Aj (cut q 4 4) (cut q 0 4))) (AG (Aq (cut p 4 4) (cut p 0 4)) (Aq (cut q 4 4) (cut q 0 4))))).length=4:=AP
 have hQ30:(AG (Aq (Aj (AG (cut p 8 4) (cut q 8 4)) (AG (cut p 8 4) (cut q 8 4))) (Aj (AG (AG (cut p 12 4) k) (cut q 12 4)) (AG (AG (cut p 12 4) k) (cut q 12 4)))) (Aj (Aj (AG (cut p 8 4) (cut q 8 4)) (AG (cut p 8 4) (cut q 8 4))) (Aj (AG (AG (cut p 12 4) k) (cut q 12 4)) (AG (AG (cut p 12 4) k) (cut q 12 4))))).length=4:=AP
 have hQ31:(AG (Aq (AG (Aj (cut p 4 4) (cut p 0 4)) (Aj (cut q 4 4) (cut q 0 4))) (AG (Aq (cut p 4 4) (cut p 0 4)) (Aq (cut q 4 4) (cut q 0 4)))) (Aj (AG (Aj (cut p 4 4) (cut p 0 4)) (Aj (cut q 4 4) (cut q 0 4))) (AG (Aq (cut p 4 4) (cut p 0 4)) (Aq (cut q 4 4) (cut q 0 4))))).length=4:=AP
 refine UJ ?_;refine CN ?_;refine AO (Ax (Aq (AG (Aj (cut p 4 4) (cut p 0 4)) (Aj (cut q 4 4) (cut q 0 4))) (AG (Aq (cut p 4 4) (cut p 0 4)) (Aq (cut q 4 4) (cut q 0 4)))) (Aq (Aj (AG (cut p 8 4) (cut q 8 4)) (AG (cut p 8 4) (cut q 8 4))) (Aj (AG (AG (cut p 12 4) k) (cut q 12 4)) (AG (AG (cut p 12 4) k) (cut q 12 4)))) AD AD) CA ?_;refine CN ?_;refine AO (Ax (Aj (Aj (AG (cut p 8 4) (cut q 8 4)) (AG (cut p 8 4) (cut q 8 4))) (Aj (AG (AG (cut p 12 4) k) (cut q 12 4)) (AG (AG (cut p 12 4) k) (cut q 12 4)))) (Aj (AG (Aj (cut p 4 4) (cut p 0 4)) (Aj (cut q 4 4) (cut q 0 4))) (AG (Aq (cut p 4 4) (cut p 0 4)) (Aq (cut q 4 4) (cut q 0 4)))) AD AD) CA ?_;refine CN ?_;refine AO (Ax (Aq (Aj (AG (cut p 8 4) (cut q 8 4)) (AG (cut p 8 4) (cut q 8 4))) (Aj (AG (AG (cut p 12 4) k) (cut q 12 4)) (AG (AG (cut p 12 4) k) (cut q 12 4)))) (Aj (Aj (AG (cut p 8 4) (cut q 8 4)) (AG (cut p 8 4) (cut q 8 4))) (Aj (AG (AG (cut p 12 4) k) (cut q 12 4)) (AG (AG (cut p 12 4) k) (cut q 12 4)))) AD AD) CA ?_;refine CN ?_;refine AO (Ax (Aq (AG (Aj (cut p 4 4) (cut p 0 4)) (Aj (cut q 4 4) (cut q 0 4))) (AG (Aq (cut p 4 4) (cut p 0 4)) (Aq (cut q 4 4) (cut q 0 4)))) (Aj (AG (Aj (cut p 4 4) (cut p 0 4)) (Aj (cut q 4 4) (cut q 0 4))) (AG (Aq (cut p 4 4) (cut p 0 4)) (Aq (cut q 4 4) (cut q 0 4)))) AD AD) CA ?_;refine iL ?_;refine BJ ?_;refine Fo ?_;refine Ar ?_;exact ia
def Cw(p q k:AA 64):AA 64:=(AG (Aq (AG (Aj (cut p 4 4) (cut p 0 4)) (Aj (cut q 4 4) (cut q 0 4))) (AG (Aq (cut p 4 4) (cut p 0 4)) (Aq (cut q 4 4) (cut q 0 4)))) (Aq (Aj (AG (cut p 8 4) (cut q 8 4)) (AG (cut p 8 4) (cut q 8 4))) (Aj (AG (AG (cut p 12 4) k) (cut q 12 4)) (AG (AG (cut p 12 4) k) (cut q 12 4)))))++(AG (Aj (Aj (AG (cut p 8 4) (cut q 8 4)) (AG (cut p 8 4) (cut q 8 4))) (Aj (AG (AG (cut p 12 4) k) (cut q 12 4)) (AG (AG (cut p 12 4) k) (cut q 12 4)))) (Aj (AG (Aj (cut p 4 4) (cut p 0 4)) (Aj (cut q 4 4) (cut q 0 4))) (AG (Aq (cut p 4 4) (cut p 0 4)) (Aq (cut q 4 4) (cut q 0 4)))))++(AG (Aq (Aj (AG (cut p 8 4) (cut q 8 4)) (AG (cut p 8 4) (cut q 8 4))) (Aj (AG (AG (cut p 12 4) k) (cut q 12 4)) (AG (AG (cut p 12 4) k) (cut q 12 4)))) (Aj (Aj (AG (cut p 8 4) (cut q 8 4)) (AG (cut p 8 4) (cut q 8 4))) (Aj (AG (AG (cut p 12 4) k) (cut q 12 4)) (AG (AG (cut p 12 4) k) (cut q 12 4)))))++(AG (Aq (AG (Aj (cut p 4 4) (cut p 0 4)) (Aj (cut q 4 4) (cut q 0 4))) (AG (Aq (cut p 4 4) (cut p 0 4)) (Aq (cut q 4 4) (cut q 0 4)))) (Aj (AG (Aj (cut p 4 4) (cut p 0 4)) (Aj (cut q 4 4) (cut q 0 4))) (AG (Aq (cut p 4 4) (cut p 0 4)) (Aq (cut q 4 4) (cut q 0 4)))))
theorem Xb(p q k:AA 64)(hp:p.length=16)(hq:q.length=16)(hk:k.length=4):Ev prog (.call 141 [Aw (p),Aw (q),Aw (k)] []) (.val (Aw (Cw p q k)) []):=by
 unfold Cw
 exact oC p q k hp hq hk AG CL Ax Aq FE CV Aj Fa Co
@[simp] theorem AGh(p q k:AA 64)(_hp:p.length=16)(_hq:q.length=16)(_hk:k.length=4):(Cw p q k).length=16:=by
 unfold Cw
 (simp [*];done)
attribute [irreducible] Cw
def Q0(n p X3:AA 64)(j4:Nat):AA 64:=(if ((((nth n ((255-j4)/64))>>>(BitVec.ofNat 64 ((255-j4)%64)).toNat)&&&1#64)==1#64)=true then Cw (Cw X3 X3 MF) p MF else Cw X3 X3 MF)
def Fb(n p:AA 64):Nat→AA 64
 |0=>QP
 |j4+1=>Q0 n p (Fb n p j4) j4
theorem QG(n p:AA 64)(_hn:n.length=4)(hp:p.length=16)(j4:Nat):(Fb n p j4).length=16:=by
 induction j4 with
 |zero=>(simp (maxDischargeDepth:=9) [Fb, *];done)
 |succ j4 ih=>rw [Fb.eq_2,Q0];(split<;>first | (simp (maxDischargeDepth:=9) [ih];done) | (simp (maxDischargeDepth:=9) [ih];omega) | (simp (maxDischargeDepth:=9) [*];done))
def L6(n p:AA 64):AA 64:=(Fb n p 256)
theorem XF(k:r)(h:Hid r→g:=by intro h;refine AB (A9 rfl rfl ZG ag B7 D_) rfl ?_;exact h.out):g:=h ⟨k⟩
theorem lO(n p:AA 64)(hn:n.length=4)(hp:p.length=16):Ev prog (.call 137 [Aw (n),Aw (p)] []) (.val (Aw (L6 n p)) []):=by
 have hP:=Hid.mk (L6.eq_1 n p)
 refine AI func137 rfl ntmps137 rfl AM ?_;refine BO ?_;refine Gu ?_;refine AR ?_;have hQ1:(MF).length=4:=AP
 refine Ab ?_;refine Ae (TI) Um ?_;refine I4 ?_;have hQ2:(QP).length=16:=AP
 refine Ab ?_;refine Ae (vQ) AF9 ?_;refine Gu ?_;refine Fo ?_;refine B0 ?_;refine AK [2,3,4,5,6,7] (fun (zz:Nat×AA 64)=>⟨33,AU [2,3,4,5,6,7] [AY 0,AY 1,AY 2,AY 3,AY 4,At (((255:Nat):Int)-((zz.1:Nat):Int))],[Bb (n),Bb (p),Bb (AC 16),Bb (MF),Bb (zz.2)]⟩) (fun j4=>(j4,Fb n p j4)) (256) K_ ?_ ?_
 ·intro j4 hj4
  try dsimp only
  have hX3:(Fb n p j4).length=16:=by rw [QG n p hn hp _];try omega
  rw [Fb.eq_2,Q0]
  generalize Fb n p j4=X3 at*
  rw [show ((255:Nat):Int)-((j4:Nat):Int)=((255-j4:Nat):Int) from by omega]
  refine PH ?_;refine AR ?_;have hQ4:(Cw X3 X3 MF).length=16:=AP
  refine Ab ?_;refine XF ?_;refine XF ?_;refine IQ ?_;refine Ae (Xb X3 X3 MF AD AD AD) oZ ?_;refine Fo ?_;refine Ak ?_;refine gF ?_;refine Xm ?_;refine Ed ?_;refine U6 ?_;refine QE ?_;refine Vv ?_;refine XU ?_;refine SM ?_;refine EA ?_;refine Eb [2,3,4,5,6,7] (fun (zz:AA 64)=>⟨33,AU [2,3,4,5,6,7] [AY 0,AY 1,AY 2,AY 3,AY 4,At (((255-j4:Nat):Int))],[Bb (n),Bb (p),Bb (AC 16),Bb (MF),Bb (zz)]⟩) (if ((((nth n ((255-j4)/64))>>>(BitVec.ofNat 64 ((255-j4)%64)).toNat)&&&1#64)==1#64)=true then Cw (Cw X3 X3 MF) p MF else Cw X3 X3 MF) rfl (fun hb=>?_) (fun hb=>?_) ?_
  ·have hQ6:(Cw (Cw X3 X3 MF) p MF).length=16:=AP
   refine Ab ?_;refine XF ?_;refine XF ?_;refine IQ ?_;refine Ae (Xb (Cw X3 X3 MF) p MF AD AD AD) oZ ?_;refine Fo ?_;refine Ar ?_;refine ⟨(Cw (Cw X3 X3 MF) p MF),K_,?_⟩
   rw [if_pos (hb)]
  ·refine S_ ?_
   refine ⟨(Cw X3 X3 MF),K_,?_⟩
   rw [if_neg (by (rw [hb];decide))]
  have hJ5:(if ((((nth n ((255-j4)/64))>>>(BitVec.ofNat 64 ((255-j4)%64)).toNat)&&&1#64)==1#64)=true then Cw (Cw X3 X3 MF) p MF else Cw X3 X3 MF).length=16:=by split<;>simp [*]
  generalize (if ((((nth n ((255-j4)/64))>>>(BitVec.ofNat 64 ((255-j4)%64)).toNat)&&&1#64)==1#64)=true then Cw (Cw X3 X3 MF) p MF else Cw X3 X3 MF)=J5 at*
  refine A1 ?_;refine PE ?_;refine ⟨(j4+1,_),(by
   dsimp only
   rw [show ((255:Nat):Int)-((j4+1:Nat):Int)=((255-j4:Nat):Int)-1 from by omega]
   kernel_rfl),rfl⟩
 ·try dsimp only
  have hY7:(Fb n p 256).length=16:=by rw [QG n p hn hp _];try omega
  generalize Fb n p 256=Y7 at*
  refine RU ?_;refine AZ ?_;refine XF ?_;refine Fo ?_;refine Ar ?_;rw [hP.out]
  exact ia
@[simp] theorem AHo(n p:AA 64)(hn:n.length=4)(hp:p.length=16):(L6 n p).length=16:=by
 unfold L6
 (simp (maxDischargeDepth:=9) [QG, *];done)
attribute [irreducible] L6
end Go.Proofs.YtmbepikkgkcgkaaGreatDoor
