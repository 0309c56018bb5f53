/- Merged and shortened by a program: part 8. -/
import Derived.Test.YtmbepikkgkcgkaaGreatDoorUB7
set_option maxRecDepth 100000
set_option maxHeartbeats 8000000
namespace Go.Proofs.YtmbepikkgkcgkaaGreatDoor
open Go.RowKit
variable {g r : Prop}
open Go.Proofs.Tryz
def NS(a b:AB 64)(j3:Nat)(X3 X4:AB 64)(j6:Nat):AB 64×AB 64:=(put X3 ((j3+j6)%5) ((nth X3 ((j3+j6)%5))+((EA (nth a j3) (if 5≤j3+j6 then (nth b j6)*19#64 else nth b j6))+(Cw (nth X4 ((j3+j6)%5)) (A3 (nth a j3) (if 5≤j3+j6 then (nth b j6)*19#64 else nth b j6)) 0#64))),put X4 ((j3+j6)%5) ((nth X4 ((j3+j6)%5))+(A3 (nth a j3) (if 5≤j3+j6 then (nth b j6)*19#64 else nth b j6))+0#64))
def CJ(a b X1 X2:AB 64)(j3:Nat):Nat→AB 64×AB 64
 |0=>(X1,X2)
 |j6+1=>NS a b j3 (CJ a b X1 X2 j3 j6).1 (CJ a b X1 X2 j3 j6).2 j6
theorem LM(a b X1 X2:AB 64)(j3:Nat)(_ha:a.length=5)(_hb:b.length=5)(hX1:X1.length=5)(hX2:X2.length=5)(j6:Nat):(CJ a b X1 X2 j3 j6).1.length=5∧(CJ a b X1 X2 j3 j6).2.length=5:=by
 induction j6 with
 |zero=>refine ⟨?_,?_⟩<;>(simp (maxDischargeDepth:=9) [CJ, *];done)
 |succ j6 ih=>
  obtain ⟨ih0,ih1⟩:=ih
  rw [CJ.eq_2,NS]
  refine ⟨?_,?_⟩<;>(simp (maxDischargeDepth:=9) [*];done)
theorem Ia(a b X1 X2:AB 64)(j3:Nat)(ha:a.length=5)(hb:b.length=5)(hX1:X1.length=5)(hX2:X2.length=5)(j6:Nat):(CJ a b X1 X2 j3 j6).1.length=5:=(LM a b X1 X2 j3 ha hb hX1 hX2 j6).1
theorem IY(a b X1 X2:AB 64)(j3:Nat)(ha:a.length=5)(hb:b.length=5)(hX1:X1.length=5)(hX2:X2.length=5)(j6:Nat):(CJ a b X1 X2 j3 j6).2.length=5:=(LM a b X1 X2 j3 ha hb hX1 hX2 j6).2
def NO(a b X1 X2:AB 64)(j3:Nat):AB 64×AB 64:=(((CJ a b X1 X2 j3 5).1),((CJ a b X1 X2 j3 5).2))
def At(a b:AB 64):Nat→AB 64×AB 64
 |0=>(Aj 5,Aj 5)
 |j3+1=>NO a b (At a b j3).1 (At a b j3).2 j3
theorem IV(a b:AB 64)(ha:a.length=5)(hb:b.length=5)(j3:Nat):(At a b j3).1.length=5∧(At a b j3).2.length=5:=by
 induction j3 with
 |zero=>refine ⟨?_,?_⟩<;>(simp (maxDischargeDepth:=9) [At, *];done)
 |succ j3 ih=>
  obtain ⟨ih0,ih1⟩:=ih
  rw [At.eq_2,NO]
  refine ⟨?_,?_⟩<;>(simp (maxDischargeDepth:=9) [Ia,IY, *];done)
theorem LW(a b:AB 64)(ha:a.length=5)(hb:b.length=5)(j3:Nat):(At a b j3).1.length=5:=(IV a b ha hb j3).1
theorem LU(a b:AB 64)(ha:a.length=5)(hb:b.length=5)(j3:Nat):(At a b j3).2.length=5:=(IV a b ha hb j3).2
def O1(Y11 Y12:AB 64)(X14:BitVec 64)(X15:AB 64)(j21:Nat):BitVec 64×AB 64:=((((nth Y11 j21)+(Cw (nth Y12 j21) X14 0#64))<<<13) ||| (((nth Y12 j21)+X14+0#64)>>>51),put X15 j21 (((nth Y12 j21)+X14+0#64)&&&2251799813685247#64))
def Be(Y11 Y12:AB 64):Nat→BitVec 64×AB 64
 |0=>(0#64,Aj 5)
 |j21+1=>O1 Y11 Y12 (Be Y11 Y12 j21).1 (Be Y11 Y12 j21).2 j21
theorem KU(Y11 Y12:AB 64)(_hY11:Y11.length=5)(_hY12:Y12.length=5)(j21:Nat):(Be Y11 Y12 j21).2.length=5:=by
 induction j21 with
 |zero=>(simp (maxDischargeDepth:=9) [Be, *];done)
 |succ j21 ih=>rw [Be.eq_2,O1];(simp (maxDischargeDepth:=9) [ih];done)
def AF(a b:AB 64):AB 64:=BD (put (put ((Be ((At a b 5).1) ((At a b 5).2) 5).2) 0 (((A3 ((Be ((At a b 5).1) ((At a b 5).2) 5).1) 19#64)+(nth ((Be ((At a b 5).1) ((At a b 5).2) 5).2) 0)+0#64)&&&2251799813685247#64)) 1 ((nth (put ((Be ((At a b 5).1) ((At a b 5).2) 5).2) 0 (((A3 ((Be ((At a b 5).1) ((At a b 5).2) 5).1) 19#64)+(nth ((Be ((At a b 5).1) ((At a b 5).2) 5).2) 0)+0#64)&&&2251799813685247#64)) 1)+((((EA ((Be ((At a b 5).1) ((At a b 5).2) 5).1) 19#64)+(Cw (A3 ((Be ((At a b 5).1) ((At a b 5).2) 5).1) 19#64) (nth ((Be ((At a b 5).1) ((At a b 5).2) 5).2) 0) 0#64))<<<13) ||| (((A3 ((Be ((At a b 5).1) ((At a b 5).2) 5).1) 19#64)+(nth ((Be ((At a b 5).1) ((At a b 5).2) 5).2) 0)+0#64)>>>51))))
theorem T0(k:r)(h:Hid r→g:=by intro h;refine AA (AT rfl rfl underlying159 BX O_) rfl ?_;exact h.out):g:=h ⟨k⟩
theorem Vr(k:r)(h:Hid r→g:=by intro h;refine Bh (jG U2 rfl rfl rfl (rfl:_=BW (0#64)) D_) AM rfl ?_;exact h.out):g:=h ⟨k⟩
theorem Zq(k:r)(h:Hid r→g:=by intro h;refine AA (AT (j:=1) rfl rfl underlying160 BX O_) rfl ?_;exact h.out):g:=h ⟨k⟩
theorem JF(k:r)(h:Hid r→g:=by intro h;refine S_ ?_;refine Aq ?_;refine AA (Bj rfl rfl GM Fe C1 D_) rfl ?_;exact h.out):g:=h ⟨k⟩
theorem Bp(a b:AB 64)(ha:a.length=5)(hb:b.length=5):Ev prog (.call 158 [EQ (a),EQ (b)] []) (.val (EQ (AF a b)) []):=by
 have hP:=Hid.mk (AF.eq_1 a b)
 refine AG func158 rfl ntmps158 rfl AH ?_;refine BY ?_;refine C8 ?_;refine AQ ?_;refine BE (BO rT AH) AM rfl ?_;refine BE (BO rT AH) AM rfl ?_;refine Dd ?_;refine AU [2,3,4,5,6,22] (fun (zz:Nat×AB 64×AB 64)=>⟨122,AS [2,3,4,5,6,22] [Al 0,Al 1,Al 2,Al 3,Al 4,Ae (((zz.1:Nat):Int))],[CH (a),CH (b),CH (Aj 5),CH (zz.2.1),CH (zz.2.2)]⟩) (fun j3=>(j3,At a b j3)) (5) K_ ?_ ?_
 ·intro j3 hj3
  try dsimp only
  have hX1:(At a b j3).1.length=5:=by rw [LW a b ha hb _];try omega
  have hX2:(At a b j3).2.length=5:=by rw [LU a b ha hb _];try omega
  rw [At.eq_2,NO]
  generalize At a b j3=Z3 at*
  obtain ⟨X1,X2⟩:=Z3
  try dsimp only at*
  refine FD ?_;refine AZ ?_;refine Ab ?_;refine A6 ?_;refine AU [2,3,4,5,6,7,22,25] (fun (zz:Nat×AB 64×AB 64)=>⟨122,AS [2,3,4,5,6,7,22,25] [Al 0,Al 1,Al 2,Al 3,Al 4,Ae (((j3:Nat):Int)),Ae (((j3:Nat):Int)),Ae (((zz.1:Nat):Int))],[CH (a),CH (b),CH (Aj 5),CH (zz.2.1),CH (zz.2.2)]⟩) (fun j6=>(j6,CJ a b X1 X2 j3 j6)) (5) K_ ?_ ?_
  ·intro j6 hj6
   try dsimp only
   have hX4:(CJ a b X1 X2 j3 j6).1.length=5:=by rw [Ia a b X1 X2 j3 ha hb hX1 hX2 _];try omega
   have hX5:(CJ a b X1 X2 j3 j6).2.length=5:=by rw [IY a b X1 X2 j3 ha hb hX1 hX2 _];try omega
   rw [CJ.eq_2,NS]
   generalize CJ a b X1 X2 j3 j6=Z6 at*
   obtain ⟨X4,X5⟩:=Z6
   try dsimp only at*
   refine FD ?_;refine AZ ?_;refine Ab ?_;refine H8 ?_;refine BV ?_;refine BH ?_;refine I5 ?_;refine AA (Mn (b:=5) rfl rfl) rfl ?_;refine FA ?_;refine I1 [2,3,4,5,6,7,8,9,22,25] (fun (zz:BitVec 64)=>⟨122,AS [2,3,4,5,6,7,8,9,22,25] [Al 0,Al 1,Al 2,Al 3,Al 4,Ae (((j3:Nat):Int)),Ae (((j6:Nat):Int)),.c (.val (BW (zz))),Ae (((j3:Nat):Int)),Ae (((j6:Nat):Int))],[CH (a),CH (b),CH (Aj 5),CH (X4),CH (X5)]⟩) (if 5≤j3+j6 then (nth b j6)*19#64 else nth b j6) rfl (fun hb=>?_) (fun hb=>?_) ?_
   ·have hb_:=of_decide_eq_true hb
    refine A9 ?_;refine AA (HU (b:=19#64) rfl rfl) rfl ?_;refine Ay ?_;refine ⟨((nth b j6)*19#64),K_,?_⟩
    rw [if_pos (of_decide_eq_true hb)]
   ·have hb_:=of_decide_eq_false hb
    refine S_ ?_;refine ⟨(nth b j6),K_,?_⟩
    rw [if_neg (of_decide_eq_false hb)]
   generalize (if 5≤j3+j6 then (nth b j6)*19#64 else nth b j6)=J7 at*
   refine A9 ?_;refine H8 ?_;refine D2 ?_;refine A7 (VJ (nth a j3) J7) dm ?_;refine Cx ?_;refine G4 ?_;refine BH ?_;refine I5 ?_;refine fO ?_;refine Ad ?_;refine BH ?_;refine T0 ?_;refine D2 ?_;refine Vr ?_;refine Cx ?_;refine T0 ?_;refine Fw ?_;refine Ab ?_;refine T0 ?_;refine D2 ?_;refine AR ?_;refine D0 ?_;refine D0 ?_;refine T0 ?_;refine Fz ?_;exact ⟨(j6+1,_),K_,rfl⟩
  ·try dsimp only
   have hY8:(CJ a b X1 X2 j3 5).1.length=5:=by rw [Ia a b X1 X2 j3 ha hb hX1 hX2 _];try omega
   have hY9:(CJ a b X1 X2 j3 5).2.length=5:=by rw [IY a b X1 X2 j3 ha hb hX1 hX2 _];try omega
   generalize CJ a b X1 X2 j3 5=Z10 at*
   obtain ⟨Y8,Y9⟩:=Z10
   try dsimp only at*
   refine AK ?_;refine Qg ?_;refine D7 ?_;exact ⟨(j3+1,_),K_,rfl⟩
 ·try dsimp only
  have hY11:(At a b 5).1.length=5:=by rw [LW a b ha hb _];try omega
  have hY12:(At a b 5).2.length=5:=by rw [LU a b ha hb _];try omega
  generalize At a b 5=Z13 at*
  obtain ⟨Y11,Y12⟩:=Z13
  try dsimp only at*
  refine AK ?_;refine Qg ?_;refine AQ ?_;refine C8 ?_;refine AQ ?_;refine Ab ?_;refine A6 ?_;refine AU [4,5,6,14,15,69] (fun (zz:Nat×BitVec 64×AB 64)=>⟨122,AS [4,5,6,14,15,69] [Al 0,Al 1,Al 2,Al 3,.c (.val (BW (zz.2.1))),Ae (((zz.1:Nat):Int))],[CH (Aj 5),CH (Y11),CH (Y12),CH (zz.2.2)]⟩) (fun j21=>(j21,Be Y11 Y12 j21)) (5) K_ ?_ ?_
  ·intro j21 hj21
   try dsimp only
   have hX15:(Be Y11 Y12 j21).2.length=5:=by rw [KU Y11 Y12 hY11 hY12 _];try omega
   rw [Be.eq_2,O1]
   generalize Be Y11 Y12 j21=Z16 at*
   obtain ⟨X14,X15⟩:=Z16
   try dsimp only at*
   refine FD ?_;refine AZ ?_;refine Ab ?_;refine T0 ?_;refine D2 ?_;refine Vr ?_;refine Cx ?_;refine G4 ?_;refine BH ?_;refine NJ ?_;refine H8 ?_;refine Fw ?_;refine AZ ?_;refine T0 ?_;refine D2 ?_;refine D0 ?_;refine AA (CA (j:=13) rfl rfl) rfl ?_;refine AR ?_;refine WD ?_;refine Fx ?_;refine Ad ?_;refine F9 ?_;exact ⟨(j21+1,_),K_,rfl⟩
  ·try dsimp only
   have hY18:(Be Y11 Y12 5).2.length=5:=by rw [KU Y11 Y12 hY11 hY12 _];try omega
   generalize Be Y11 Y12 5=Z19 at*
   obtain ⟨Y17,Y18⟩:=Z19
   try dsimp only at*
   refine AK ?_;refine Qg ?_;refine AZ ?_;refine A7 (VJ Y17 19#64) dm ?_;refine GQ ?_;refine NH ?_;refine BV ?_;refine Vr ?_;refine GQ ?_;refine NJ ?_;refine NH ?_;refine Fw ?_;refine AQ ?_;refine Zq ?_;refine D2 ?_;refine AR ?_;refine D0 ?_;refine AA (CA (j:=13) rfl rfl) rfl ?_;refine AR ?_;refine WD ?_;refine Fx ?_;refine D0 ?_;refine Zq ?_;refine Fw ?_;refine AN ?_;have hQ20:(BD (put (put Y18 0 (((A3 Y17 19#64)+(nth Y18 0)+0#64)&&&2251799813685247#64)) 1 ((nth (put Y18 0 (((A3 Y17 19#64)+(nth Y18 0)+0#64)&&&2251799813685247#64)) 1)+((((EA Y17 19#64)+(Cw (A3 Y17 19#64) (nth Y18 0) 0#64))<<<13) ||| (((A3 Y17 19#64)+(nth Y18 0)+0#64)>>>51))))).length=5:=An
   refine JF ?_;refine A7 (Ln (put (put Y18 0 (((A3 Y17 19#64)+(nth Y18 0)+0#64)&&&2251799813685247#64)) 1 ((nth (put Y18 0 (((A3 Y17 19#64)+(nth Y18 0)+0#64)&&&2251799813685247#64)) 1)+((((EA Y17 19#64)+(Cw (A3 Y17 19#64) (nth Y18 0) 0#64))<<<13) ||| (((A3 Y17 19#64)+(nth Y18 0)+0#64)>>>51)))) AD) Ty ?_
   refine La ?_;rw [hP.out]
   exact MV
@[simp] theorem zK(a b:AB 64)(ha:a.length=5)(hb:b.length=5):(AF a b).length=5:=by
 unfold AF
 (simp (maxDischargeDepth:=9) [LW,LU,KU, *];done)
attribute [irreducible] AF
def AI(x:BitVec 64):AB 64:=put (Aj 5) 0 x
theorem DN(x:BitVec 64):Ev prog (.call 155 [.c (.val (BW x))] []) (.val (EQ (AI x)) []):=by
 have hP:=Hid.mk (AI.eq_1 x)
 refine AG func155 rfl ntmps155 rfl AH ?_;refine AK ?_;refine C8 ?_;refine AZ ?_;refine AA (sZ wE underlying160 BX rfl rfl rfl) rfl ?_;refine La ?_;rw [hP.out]
 exact MV
@[simp] theorem uv(x:BitVec 64):(AI x).length=5:=by
 unfold AI
 (simp [*];done)
attribute [irreducible] AI
def RG(b X1:AB 64)(j2:Nat):AB 64:=put X1 j2 ((nth X1 j2)+(nth b j2))
def FN(a b:AB 64):Nat→AB 64
 |0=>a
 |j2+1=>RG b (FN a b j2) j2
theorem Mu(a b:AB 64)(ha:a.length=5)(j2:Nat):(FN a b j2).length=5:=by
 induction j2 with
 |zero=>(simp [FN, *];done)
 |succ j2 ih=>rw [FN.eq_2,RG];(simp [ih];done)
def AW(a b:AB 64):AB 64:=BD (FN a b 5)
theorem RV(k:r)(h:Hid r→g:=by intro h;refine AE (AT rfl rfl underlying160 BX O_) rfl ?_;exact h.out):g:=h ⟨k⟩
theorem FV(a b:AB 64)(ha:a.length=5)(hb:b.length=5):Ev prog (.call 156 [EQ (a),EQ (b)] []) (.val (EQ (AW a b)) []):=by
 have hP:=Hid.mk (AW.eq_1 a b)
 refine AG func156 rfl ntmps156 rfl AH ?_;refine BY ?_;refine C8 ?_;refine Dd ?_;refine AU [2,3,4,6] (fun (zz:Nat×AB 64)=>⟨20,AS [2,3,4,6] [Al 0,Al 1,Al 2,Ae (((zz.1:Nat):Int))],[CH (zz.2),CH (b),CH (Aj 5)]⟩) (fun j2=>(j2,FN a b j2)) (5) K_ ?_ ?_
 ·intro j2 hj2
  try dsimp only
  have hX1:(FN a b j2).length=5:=by rw [Mu a b ha _];try omega
  rw [FN.eq_2,RG]
  generalize FN a b j2=X1 at*
  refine FD ?_;refine CT ?_;refine I7 ?_;refine Ah ?_;refine RV ?_;refine IL ?_;refine RV ?_;refine Hl ?_;refine Kd ?_;refine RV ?_;refine Bn ?_;refine Fz ?_;exact ⟨(j2+1,_),K_,rfl⟩
 ·try dsimp only
  have hY2:(FN a b 5).length=5:=by rw [Mu a b ha _];try omega
  generalize FN a b 5=Y2 at*
  refine AK ?_;refine Qg ?_;refine AN ?_;have hQ3:(BD Y2).length=5:=An
  refine JF ?_;refine A7 (Ln Y2 AD) Ty ?_;refine La ?_;rw [hP.out]
  exact MV
@[simp] theorem yx(a b:AB 64)(ha:a.length=5)(_hb:b.length=5):(AW a b).length=5:=by
 unfold AW
 (simp [Mu, *];done)
attribute [irreducible] AW
def RB(b X1:AB 64)(j3:Nat):AB 64:=put X1 j3 ((nth X1 j3)+((nth [9007199254740916#64,9007199254740988#64,9007199254740988#64,9007199254740988#64,9007199254740988#64] j3)-(nth b j3)))
def FQ(a b:AB 64):Nat→AB 64
 |0=>a
 |j3+1=>RB b (FQ a b j3) j3
theorem Mt(a b:AB 64)(ha:a.length=5)(j3:Nat):(FQ a b j3).length=5:=by
 induction j3 with
 |zero=>(simp [FQ, *];done)
 |succ j3 ih=>rw [FQ.eq_2,RB];(simp [ih];done)
def Ao(a b:AB 64):AB 64:=BD (FQ a b 5)
theorem Hy(k:r)(h:Hid r→g:=by intro h;refine Bm rfl rfl rfl rfl Fe C1 C1 AM ?_;exact h.out):g:=h ⟨k⟩
theorem Fv(a b:AB 64)(ha:a.length=5)(hb:b.length=5):Ev prog (.call 157 [EQ (a),EQ (b)] []) (.val (EQ (Ao a b)) []):=by
 have hP:=Hid.mk (Ao.eq_1 a b)
 refine AG func157 rfl ntmps157 rfl AH ?_;refine BY ?_;refine C8 ?_;refine AQ ?_;refine AA (P8 (l:=[9007199254740916#64,9007199254740988#64,9007199254740988#64,9007199254740988#64,9007199254740988#64]) nM underlying160 BX rfl rfl D_) rfl ?_;refine C8 ?_;refine Hy ?_;refine Dd ?_;refine AU [2,3,4,5,8] (fun (zz:Nat×AB 64)=>⟨26,AS [2,3,4,5,8] [Al 0,Al 1,Al 2,Al 3,Ae (((zz.1:Nat):Int))],[CH (zz.2),CH (b),CH (Aj 5),CH ([9007199254740916#64,9007199254740988#64,9007199254740988#64,9007199254740988#64,9007199254740988#64])]⟩) (fun j3=>(j3,FQ a b j3)) (5) K_ ?_ ?_
 ·intro j3 hj3
  try dsimp only
  have hX1:(FQ a b j3).length=5:=by rw [Mt a b ha _];try omega
  rw [FQ.eq_2,RB]
  generalize FQ a b j3=X1 at*
  refine FD ?_;refine CT ?_;refine KL ?_;refine Ah ?_;refine RV ?_;refine IL ?_;refine RV ?_;refine IL ?_;refine RV ?_;refine Hl ?_;refine AE (aF rfl rfl) rfl ?_;refine Kd ?_;refine RV ?_;refine Bn ?_;refine Fz ?_;exact ⟨(j3+1,_),K_,rfl⟩
 ·try dsimp only
  have hY2:(FQ a b 5).length=5:=by rw [Mt a b ha _];try omega
  generalize FQ a b 5=Y2 at*
  refine AK ?_;refine Qg ?_;refine AN ?_;have hQ3:(BD Y2).length=5:=An
  refine JF ?_;refine A7 (Ln Y2 AD) Ty ?_;refine La ?_;rw [hP.out]
  exact MV
@[simp] theorem zD(a b:AB 64)(ha:a.length=5)(_hb:b.length=5):(Ao a b).length=5:=by
 unfold Ao
 (simp [Mt, *];done)
attribute [irreducible] Ao
def My(a:AB 64)(e:AB 8)(X2:AB 64)(j3:Nat):AB 64:=(if ((((nth e ((255-j3)/8))>>>((255-j3)%8))&&&1#8)==1#8)=true then AF (AF X2 X2) a else AF X2 X2)
def DE(a:AB 64)(e:AB 8):Nat→AB 64
 |0=>AI 1#64
 |j3+1=>My a e (DE a e j3) j3
theorem Mp(a:AB 64)(e:AB 8)(ha:a.length=5)(_he:e.length=32)(j3:Nat):(DE a e j3).length=5:=by
 induction j3 with
 |zero=>(simp [DE, *];done)
 |succ j3 ih=>rw [DE.eq_2,My];(split<;>first | (simp [ih];done) | (simp [ih];omega) | (simp [*];done))
def BB(a:AB 64)(e:AB 8):AB 64:=(DE a e 256)
theorem TN(k:r)(h:Hid r→g:=by intro h;refine AA (aK (b:=1#8) rfl rfl) rfl ?_;exact h.out):g:=h ⟨k⟩
theorem VP(a:AB 64)(e:AB 8)(ha:a.length=5)(he:e.length=32):Ev prog (.call 188 [EQ (a),B4 (e)] []) (.val (EQ (BB a e)) []):=by
 have hP:=Hid.mk (BB.eq_1 a e)
 refine AG func188 rfl ntmps188 rfl AH ?_;refine BY ?_;refine C8 ?_;refine AN ?_;have hQ1:(AI 1#64).length=5:=An
 refine AK ?_;refine A7 (DN 1#64) Hs ?_;refine C8 ?_;refine Hy ?_;refine AQ ?_;refine Ay ?_;refine AU [2,3,4,5,6] (fun (zz:Nat×AB 64)=>⟨28,AS [2,3,4,5,6] [Al 0,Al 1,Al 2,Al 3,Ae (((255:Nat):Int)-((zz.1:Nat):Int))],[CH (a),CM (e),CH (Aj 5),CH (zz.2)]⟩) (fun j3=>(j3,DE a e j3)) (256) K_ ?_ ?_
 ·intro j3 hj3
  try dsimp only
  have hX2:(DE a e j3).length=5:=by rw [Mp a e ha he _];try omega
  rw [DE.eq_2,My]
  generalize DE a e j3=X2 at*
  rw [show ((255:Nat):Int)-((j3:Nat):Int)=((255-j3:Nat):Int) from by omega]
  refine A9 ?_;refine R1 ?_;refine AN ?_;have hQ3:(AF X2 X2).length=5:=An
  refine JF ?_;refine GU ?_;refine A7 (Bp X2 X2 AD AD) Bb ?_;refine Hy ?_;refine AZ ?_;refine Nh ?_;refine Q5 ?_;refine GZ ?_;refine AR ?_;refine Oe ?_;refine AA (RX rfl rfl) rfl ?_;refine AA (Ng (b:=1#8) rfl rfl) rfl ?_;refine TN ?_;refine FA ?_;refine I1 [2,3,4,5,6] (fun (zz:AB 64)=>⟨28,AS [2,3,4,5,6] [Al 0,Al 1,Al 2,Al 3,Ae (((255-j3:Nat):Int))],[CH (a),CM (e),CH (Aj 5),CH (zz)]⟩) (if ((((nth e ((255-j3)/8))>>>((255-j3)%8))&&&1#8)==1#8)=true then AF (AF X2 X2) a else AF X2 X2) rfl (fun hb=>?_) (fun hb=>?_) ?_
  ·have hQ5:(AF (AF X2 X2) a).length=5:=An
   refine JF ?_;refine GU ?_;refine A7 (Bp (AF X2 X2) a AD AD) Bb ?_;refine La ?_;refine ⟨(AF (AF X2 X2) a),K_,?_⟩
   rw [if_pos (hb)]
  ·refine S_ ?_
   refine ⟨(AF X2 X2),K_,?_⟩
   rw [if_neg (by (rw [hb];decide))]
  have hJ4:(if ((((nth e ((255-j3)/8))>>>((255-j3)%8))&&&1#8)==1#8)=true then AF (AF X2 X2) a else AF X2 X2).length=5:=by split<;>simp [*]
  generalize (if ((((nth e ((255-j3)/8))>>>((255-j3)%8))&&&1#8)==1#8)=true then AF (AF X2 X2) a else AF X2 X2)=J4 at*
  refine A9 ?_;refine Nv ?_;refine Bc ?_;refine ⟨(j3+1,_),(by
   dsimp only
   rw [show ((255:Nat):Int)-((j3+1:Nat):Int)=((255-j3:Nat):Int)-1 from by omega]
   kernel_rfl),rfl⟩
 ·try dsimp only
  have hY6:(DE a e 256).length=5:=by rw [Mp a e ha he _];try omega
  generalize DE a e 256=Y6 at*
  refine A9 ?_;refine QP ?_;refine AQ ?_;refine GU ?_;refine La ?_;rw [hP.out]
  exact MV
@[simp] theorem zM(a:AB 64)(e:AB 8)(ha:a.length=5)(he:e.length=32):(BB a e).length=5:=by
 unfold BB
 (simp [Mp, *];done)
attribute [irreducible] BB
def PE(X1:AB 8)(j3:Nat):AB 8:=put X1 (j3/8) ((nth X1 (j3/8)) ||| (1#8<<<(j3%8)))
def EN:Nat→AB 8
 |0=>Ag 32
 |j3+1=>PE (EN j3) j3
@[simp] theorem LS  (j3:Nat):(EN j3).length=32:=by
 induction j3 with
 |zero=>(simp [EN, *];done)
 |succ j3 ih=>rw [EN.eq_2,PE];(simp [ih];done)
def KX(k:BitVec 8):AB 8:=put (EN 255) 0 ((nth (EN 255) 0)-(k-1#8))
theorem Tf(k:r)(h:Hid r→g:=by intro h;refine AE (Sq (b:=8) rfl rfl O_ O_) rfl ?_;exact h.out):g:=h ⟨k⟩
theorem Oq(k:r)(h:Hid r→g:=by intro h;refine AE (AT rfl rfl underlying37 Bz O_) rfl ?_;exact h.out):g:=h ⟨k⟩
theorem TK(k:r)(h:Hid r→g:=by intro h;refine AE (HM (b:=8) rfl rfl O_ O_) rfl ?_;exact h.out):g:=h ⟨k⟩
theorem Ok(k:r)(h:Hid r→g:=by intro h;refine AA (AT (j:=0) rfl rfl underlying37 Bz O_) rfl ?_;exact h.out):g:=h ⟨k⟩
theorem mJ(k:BitVec 8):Ev prog (.call 189 [Ae ((255:Nat):Int),.c (.val (U8 k))] []) (.val (B4 (KX k)) []):=by
 have hP:=Hid.mk (KX.eq_1 k)
 refine AG func189 rfl ntmps189 rfl AH ?_;refine KP ?_;refine AQ ?_;refine EB ?_;refine Df ?_;refine A6 ?_;refine AU [1,4,5,7,8] (fun (zz:Nat×AB 8)=>⟨28,AS [1,4,5,7,8] [.c (.val (U8 (k))),Al 0,Al 1,Ae (((255:Nat):Int)),Ae (((zz.1:Nat):Int))],[CM (Ag 32),CM (zz.2)]⟩) (fun j3=>(j3,EN j3)) (255) K_ ?_ ?_
 ·intro j3 hj3
  try dsimp only
  have hX1:(EN j3).length=32:=by rw [LS _];try omega
  rw [EN.eq_2,PE]
  generalize EN j3=X1 at*
  refine AK ?_;refine AA (BA (b:=255) rfl rfl) rfl ?_;refine CT ?_;refine II ?_;refine Ah ?_;refine Tf ?_;refine Oq ?_;refine LD ?_;refine Ah ?_;refine TK ?_;refine AE (aD (a:=1#8) rfl rfl) rfl ?_;refine AE (bO rfl rfl) rfl ?_;refine Oq ?_;refine Bn ?_;refine C3 ?_;refine D7 ?_;exact ⟨(j3+1,_),K_,rfl⟩
 ·try dsimp only
  have hY2:(EN 255).length=32:=by rw [LS _];try omega
  generalize EN 255=Y2 at*
  refine AK ?_;refine AA (BA (a:=255) (b:=255) rfl rfl) rfl ?_;refine AQ ?_;refine Ok ?_;refine GZ ?_;refine AR ?_;refine AA (Sv (b:=1#8) rfl rfl) rfl ?_;refine AA (Sv rfl rfl) rfl ?_;refine Ok ?_;refine C3 ?_;refine H5 ?_;refine Em ?_;rw [hP.out]
  exact FC
@[simp] theorem wz(k:BitVec 8):(KX k).length=32:=by
 unfold KX
 (simp [LS, *];done)
attribute [irreducible] KX
def O8(X1:AB 8)(j3:Nat):AB 8:=put X1 (j3/8) ((nth X1 (j3/8)) ||| (1#8<<<(j3%8)))
def EO:Nat→AB 8
 |0=>Ag 32
 |j3+1=>O8 (EO j3) j3
@[simp] theorem Lm  (j3:Nat):(EO j3).length=32:=by
 induction j3 with
 |zero=>(simp [EO, *];done)
 |succ j3 ih=>rw [EO.eq_2,O8];(simp [ih];done)
def A0(k:BitVec 8):AB 8:=put (EO 252) 0 ((nth (EO 252) 0)-(k-1#8))
theorem lw(k:BitVec 8):Ev prog (.call 189 [Ae ((252:Nat):Int),.c (.val (U8 k))] []) (.val (B4 (A0 k)) []):=by
 have hP:=Hid.mk (A0.eq_1 k)
 refine AG func189 rfl ntmps189 rfl AH ?_;refine KP ?_;refine AQ ?_;refine EB ?_;refine Df ?_;refine A6 ?_;refine AU [1,4,5,7,8] (fun (zz:Nat×AB 8)=>⟨28,AS [1,4,5,7,8] [.c (.val (U8 (k))),Al 0,Al 1,Ae (((252:Nat):Int)),Ae (((zz.1:Nat):Int))],[CM (Ag 32),CM (zz.2)]⟩) (fun j3=>(j3,EO j3)) (252) K_ ?_ ?_
 ·intro j3 hj3
  try dsimp only
  have hX1:(EO j3).length=32:=by rw [Lm _];try omega
  rw [EO.eq_2,O8]
  generalize EO j3=X1 at*
  refine AK ?_;refine AA (BA (b:=252) rfl rfl) rfl ?_;refine CT ?_;refine II ?_;refine Ah ?_;refine Tf ?_;refine Oq ?_;refine LD ?_;refine Ah ?_;refine TK ?_;refine AE (aD (a:=1#8) rfl rfl) rfl ?_;refine AE (bO rfl rfl) rfl ?_;refine Oq ?_;refine Bn ?_;refine C3 ?_;refine D7 ?_;exact ⟨(j3+1,_),K_,rfl⟩
 ·try dsimp only
  have hY2:(EO 252).length=32:=by rw [Lm _];try omega
  generalize EO 252=Y2 at*
  refine AK ?_;refine AA (BA (a:=252) (b:=252) rfl rfl) rfl ?_;refine AQ ?_;refine Ok ?_;refine GZ ?_;refine AR ?_;refine AA (Sv (b:=1#8) rfl rfl) rfl ?_;refine AA (Sv rfl rfl) rfl ?_;refine Ok ?_;refine C3 ?_;refine H5 ?_;refine Em ?_;rw [hP.out]
  exact FC
@[simp] theorem vt(k:BitVec 8):(A0 k).length=32:=by
 unfold A0
 (simp [Lm, *];done)
attribute [irreducible] A0
def Ow(X1:AB 8)(j3:Nat):AB 8:=put X1 (j3/8) ((nth X1 (j3/8)) ||| (1#8<<<(j3%8)))
def EP:Nat→AB 8
 |0=>Ag 32
 |j3+1=>Ow (EP j3) j3
@[simp] theorem Lk  (j3:Nat):(EP j3).length=32:=by
 induction j3 with
 |zero=>(simp [EP, *];done)
 |succ j3 ih=>rw [EP.eq_2,Ow];(simp [ih];done)
def EF(k:BitVec 8):AB 8:=put (EP 253) 0 ((nth (EP 253) 0)-(k-1#8))
theorem kc(k:BitVec 8):Ev prog (.call 189 [Ae ((253:Nat):Int),.c (.val (U8 k))] []) (.val (B4 (EF k)) []):=by
 have hP:=Hid.mk (EF.eq_1 k)
 refine AG func189 rfl ntmps189 rfl AH ?_;refine KP ?_;refine AQ ?_;refine EB ?_;refine Df ?_;refine A6 ?_;refine AU [1,4,5,7,8] (fun (zz:Nat×AB 8)=>⟨28,AS [1,4,5,7,8] [.c (.val (U8 (k))),Al 0,Al 1,Ae (((253:Nat):Int)),Ae (((zz.1:Nat):Int))],[CM (Ag 32),CM (zz.2)]⟩) (fun j3=>(j3,EP j3)) (253) K_ ?_ ?_
 ·intro j3 hj3
  try dsimp only
  have hX1:(EP j3).length=32:=by rw [Lk _];try omega
  rw [EP.eq_2,Ow]
  generalize EP j3=X1 at*
  refine AK ?_;refine AA (BA (b:=253) rfl rfl) rfl ?_;refine CT ?_;refine II ?_;refine Ah ?_;refine Tf ?_;refine Oq ?_;refine LD ?_;refine Ah ?_;refine TK ?_;refine AE (aD (a:=1#8) rfl rfl) rfl ?_;refine AE (bO rfl rfl) rfl ?_;refine Oq ?_;refine Bn ?_;refine C3 ?_;refine D7 ?_;exact ⟨(j3+1,_),K_,rfl⟩
 ·try dsimp only
  have hY2:(EP 253).length=32:=by rw [Lk _];try omega
  generalize EP 253=Y2 at*
  refine AK ?_;refine AA (BA (a:=253) (b:=253) rfl rfl) rfl ?_;refine AQ ?_;refine Ok ?_;refine GZ ?_;refine AR ?_;refine AA (Sv (b:=1#8) rfl rfl) rfl ?_;refine AA (Sv rfl rfl) rfl ?_;refine Ok ?_;refine C3 ?_;refine H5 ?_;refine Em ?_;rw [hP.out]
  exact FC
@[simp] theorem xw(k:BitVec 8):(EF k).length=32:=by
 unfold EF
 (simp [Lk, *];done)
attribute [irreducible] EF
def Ni(X4:BitVec 64)(X5:AB 64)(j6:Nat):BitVec 64×AB 64:=((nth (put X5 j6 ((nth X5 j6)+X4)) j6)>>>51,put (put X5 j6 ((nth X5 j6)+X4)) j6 ((nth (put X5 j6 ((nth X5 j6)+X4)) j6)&&&2251799813685247#64))
def CS(a:AB 64):Nat→BitVec 64×AB 64
 |0=>(0#64,put (BD (BD (BD a))) 0 ((nth (BD (BD (BD a))) 0)+19#64))
 |j6+1=>Ni (CS a j6).1 (CS a j6).2 j6
theorem JI(a:AB 64)(ha:a.length=5)(j6:Nat):(CS a j6).2.length=5:=by
 induction j6 with
 |zero=>(simp (maxDischargeDepth:=9) [CS, *];done)
 |succ j6 ih=>rw [CS.eq_2,Ni];(simp (maxDischargeDepth:=9) [ih];done)
def Lh(J10:AB 64)(X11:AB 8)(j17:Nat):AB 8:=put X11 j17 (((nth [(nth J10 0) ||| ((nth J10 1)<<<51),((nth J10 1)>>>13) ||| ((nth J10 2)<<<38),((nth J10 2)>>>26) ||| ((nth J10 3)<<<25),((nth J10 3)>>>39) ||| ((nth J10 4)<<<12)] (j17/8))>>>(8*(j17%8))).setWidth 8)
def CW(J10:AB 64):Nat→AB 8
 |0=>Ag 32
 |j17+1=>Lh J10 (CW J10 j17) j17
@[simp] theorem I0(J10:AB 64)(j17:Nat):(CW J10 j17).length=32:=by
 induction j17 with
 |zero=>(simp (maxDischargeDepth:=9) [CW, *];done)
 |succ j17 ih=>rw [CW.eq_2,Lh];(simp (maxDischargeDepth:=9) [ih];done)
def AO(a:AB 64):AB 8:=(CW (if (0#64).toNat<((CS a 5).1).toNat then ((CS a 5).2) else BD (BD (BD a))) 32)
theorem EY(a:AB 64)(ha:a.length=5):Ev prog (.call 160 [EQ (a)] []) (.val (B4 (AO a)) []):=by
 have hP:=Hid.mk (AO.eq_1 a)
 refine AG func160 rfl ntmps160 rfl AH ?_;refine Bg ?_;refine EB ?_;refine AN ?_;have hQ1:(BD a).length=5:=An
 have hQ2:(BD (BD a)).length=5:=An
 have hQ3:(BD (BD (BD a))).length=5:=An
 refine JF ?_;refine A7 (Ln a AD) Ty ?_;refine A7 (Ln (BD a) AD) Ty ?_;refine A7 (Ln (BD (BD a)) AD) Ty ?_;refine Hy ?_;refine AQ ?_;refine GU ?_;refine C8 ?_;refine Hy ?_;refine AQ ?_;refine NH ?_;refine BV ?_;refine AA (U1 (b:=19#64) rfl rfl) rfl ?_;refine NH ?_;refine Fw ?_;refine AQ ?_;refine Ab ?_;refine A6 ?_;refine AU [1,2,3,4,18] (fun (zz:Nat×BitVec 64×AB 64)=>⟨84,AS [1,2,3,4,18] [Al 0,Al 1,Al 2,.c (.val (BW (zz.2.1))),Ae (((zz.1:Nat):Int))],[CH (BD (BD (BD a))),CM (Ag 32),CH (zz.2.2)]⟩) (fun j6=>(j6,CS a j6)) (5) K_ ?_ ?_
 ·intro j6 hj6
  try dsimp only
  have hX5:(CS a j6).2.length=5:=by rw [JI a ha _];try omega
  rw [CS.eq_2,Ni]
  generalize CS a j6=Z6 at*
  obtain ⟨X4,X5⟩:=Z6
  try dsimp only at*
  refine FD ?_;refine AZ ?_;refine Ab ?_;refine H8 ?_;refine D2 ?_;refine D0 ?_;refine H8 ?_;refine Fw ?_;refine AZ ?_;refine H8 ?_;refine BV ?_;refine WD ?_;refine Ab ?_;refine H8 ?_;refine BV ?_;refine NJ ?_;refine H8 ?_;refine Fz ?_;exact ⟨(j6+1,_),K_,rfl⟩
 ·try dsimp only
  have hY8:(CS a 5).2.length=5:=by rw [JI a ha _];try omega
  generalize CS a 5=Z9 at*
  obtain ⟨Y7,Y8⟩:=Z9
  try dsimp only at*
  refine AK ?_;refine Qg ?_;refine AZ ?_;refine AA (ig (b:=0#64) rfl rfl) rfl ?_;refine FA ?_;refine I1 [1,2] (fun (zz:AB 64)=>⟨84,AS [1,2] [Al 0,Al 1],[CH (zz),CM (Ag 32)]⟩) (if (0#64).toNat<Y7.toNat then Y8 else BD (BD (BD a))) rfl (fun hb=>?_) (fun hb=>?_) ?_
  ·have hb_:=of_decide_eq_true hb
   refine JF ?_;refine La ?_;refine ⟨Y8,K_,?_⟩
   rw [if_pos (of_decide_eq_true hb)]
  ·have hb_:=of_decide_eq_false hb
   refine S_ ?_;refine ⟨(BD (BD (BD a))),K_,?_⟩
   rw [if_neg (of_decide_eq_false hb)]
  have hJ10:(if (0#64).toNat<Y7.toNat then Y8 else BD (BD (BD a))).length=5:=by split<;>simp [*]
  generalize (if (0#64).toNat<Y7.toNat then Y8 else BD (BD (BD a)))=J10 at*
  refine AK ?_;refine NH ?_;refine BV ?_;refine Zq ?_;refine BV ?_;refine AA (CA (j:=51) rfl rfl) rfl ?_;refine Fx ?_;refine Zq ?_;refine BV ?_;refine AA (CY (j:=13) rfl rfl) rfl ?_;refine AA (AT (j:=2) rfl rfl underlying160 BX O_) rfl ?_;refine BV ?_;refine AA (CA (j:=38) rfl rfl) rfl ?_;refine Fx ?_;refine AA (AT (j:=2) rfl rfl underlying160 BX O_) rfl ?_;refine BV ?_;refine AA (CY (j:=26) rfl rfl) rfl ?_;refine AA (AT (j:=3) rfl rfl underlying160 BX O_) rfl ?_;refine BV ?_;refine AA (CA (j:=25) rfl rfl) rfl ?_;refine Fx ?_;refine AA (AT (j:=3) rfl rfl underlying160 BX O_) rfl ?_;refine BV ?_;refine AA (CY (j:=39) rfl rfl) rfl ?_;refine AA (AT (j:=4) rfl rfl underlying160 BX O_) rfl ?_;refine BV ?_;refine AA (CA (j:=12) rfl rfl) rfl ?_;refine Fx ?_;refine AA (P8 (l:=[_,_,_,_]) yL underlying127 BX rfl rfl D_) rfl ?_;refine BE (BO oM AH) AM rfl ?_;refine Bm rfl rfl rfl rfl yK C1 C1 AM ?_;refine AQ ?_;refine EB ?_;refine Dd ?_;refine AU [2,6,7,68] (fun (zz:Nat×AB 8)=>⟨84,AS [2,6,7,68] [Al 0,Al 1,Al 2,Ae (((zz.1:Nat):Int))],[CM (Ag 32),CH ([(nth J10 0) ||| ((nth J10 1)<<<51),((nth J10 1)>>>13) ||| ((nth J10 2)<<<38),((nth J10 2)>>>26) ||| ((nth J10 3)<<<25),((nth J10 3)>>>39) ||| ((nth J10 4)<<<12)]),CM (zz.2)]⟩) (fun j17=>(j17,CW J10 j17)) (32) K_ ?_ ?_
  ·intro j17 hj17
   try dsimp only
   have hX11:(CW J10 j17).length=32:=by rw [I0 J10 _];try omega
   rw [CW.eq_2,Lh]
   generalize CW J10 j17=X11 at*
   refine AK ?_;refine Tz ?_;refine AZ ?_;refine BH ?_;refine Nh ?_;refine AA (AT rfl rfl underlying127 BX O_) rfl ?_;refine D2 ?_;refine Oe ?_;refine TY ?_;refine SA ?_;refine Rz ?_;refine Q5 ?_;refine C3 ?_;refine D7 ?_;exact ⟨(j17+1,_),K_,rfl⟩
  ·try dsimp only
   have hY12:(CW J10 32).length=32:=by rw [I0 J10 _];try omega
   generalize CW J10 32=Y12 at*
   refine AK ?_;refine Sr ?_;refine H5 ?_;refine Em ?_;rw [hP.out]
   exact FC
@[simp] theorem uf(a:AB 64)(_ha:a.length=5):(AO a).length=32:=by
 unfold AO
 (simp (maxDischargeDepth:=9) [I0, *];done)
attribute [irreducible] AO
def B3(a:AB 64):AB 64:=BB a (KX 21#8)
theorem Cu(k:r)(h:Hid r→g:=by intro h;refine AE (Bj rfl rfl GM Fe C1 D_) rfl ?_;exact h.out):g:=h ⟨k⟩
theorem Gv(k:r)(h:Hid r→g:=by intro h;refine Bn ?_;refine Bm rfl rfl rfl rfl Fe C1 C1 AM ?_;exact h.out):g:=h ⟨k⟩
theorem Lx(a:AB 64)(ha:a.length=5):Ev prog (.call 159 [EQ (a)] []) (.val (EQ (B3 a)) []):=by
 have hP:=Hid.mk (B3.eq_1 a)
 refine AG func159 rfl ntmps159 rfl AH ?_;refine Bg ?_;refine C8 ?_;refine AN ?_;have hQ1:(KX 21#8).length=32:=An
 have hQ2:(BB a (KX 21#8)).length=5:=An
 refine S_ ?_;refine RF ?_;refine Cu ?_;refine Am (mJ 21#8) du ?_;refine Am (VP a (KX 21#8) AD AD) fM ?_;refine Gv ?_;refine A6 ?_;rw [hP.out]
 exact MV
@[simp] theorem zG(a:AB 64)(ha:a.length=5):(B3 a).length=5:=by
 unfold B3
 (simp [*];done)
attribute [irreducible] B3
theorem TR(a b:AB 64)(ha:a.length=5)(hb:b.length=5):Ev prog (.call 166 [EQ (a),EQ (b)] []) (.val (.c (.val (.bool (decide (AO a=AO b))))) []):=by
 refine AG func166 rfl ntmps166 rfl AH ?_;refine BY ?_;refine Bc ?_;have hQ1:(AO a).length=32:=An
 have hQ2:(AO b).length=32:=An
 refine S_ ?_;refine Qn ?_;refine Cu ?_;refine Am (EY a AD) LV ?_;refine Cu ?_;refine Am (EY b AD) LV ?_;refine AE (am rfl rfl underlying37 underlying5 Bz C1 C1) rfl ?_;refine H6 ?_;refine A6 ?_;exact EZ
theorem VX(a:AB 64)(ha:a.length=5):Ev prog (.call 167 [EQ (a)] []) (.val (.c (.val (.bool ((((nth (AO a) 0)&&&1#8)==1#8))))) []):=by
 refine AG func167 rfl ntmps167 rfl AH ?_;refine Bg ?_;refine Bc ?_;have hQ1:(AO a).length=32:=An
 refine JF ?_;refine A7 (EY a AD) LV ?_;refine AA (AAX (j:=0) rfl rfl underlying37 Bz bZ O_ Dw) rfl ?_;refine AA (Ng (b:=1#8) rfl rfl) rfl ?_;refine TN ?_;exact B6
def Sw(b:AB 8)(X1:AB 64)(j3:Nat):AB 64:=put X1 (j3/8) ((nth X1 (j3/8)) ||| (((nth b j3).setWidth 64)<<<(8*(j3%8))))
def Br(b:AB 8):Nat→AB 64
 |0=>Aj 4
 |j3+1=>Sw b (Br b j3) j3
@[simp] theorem OS(b:AB 8)(j3:Nat):(Br b j3).length=4:=by
 induction j3 with
 |zero=>(simp [Br, *];done)
 |succ j3 ih=>rw [Br.eq_2,Sw];(simp [ih];done)
def N6(b:AB 8):AB 64:=put [(nth (Br b 32) 0)&&&2251799813685247#64,(((nth (Br b 32) 0)>>>51) ||| ((nth (Br b 32) 1)<<<13))&&&2251799813685247#64,(((nth (Br b 32) 1)>>>38) ||| ((nth (Br b 32) 2)<<<26))&&&2251799813685247#64,(((nth (Br b 32) 2)>>>25) ||| ((nth (Br b 32) 3)<<<39))&&&2251799813685247#64,((nth (Br b 32) 3)>>>12)&&&2251799813685247#64] 0 ((nth [(nth (Br b 32) 0)&&&2251799813685247#64,(((nth (Br b 32) 0)>>>51) ||| ((nth (Br b 32) 1)<<<13))&&&2251799813685247#64,(((nth (Br b 32) 1)>>>38) ||| ((nth (Br b 32) 2)<<<26))&&&2251799813685247#64,(((nth (Br b 32) 2)>>>25) ||| ((nth (Br b 32) 3)<<<39))&&&2251799813685247#64,((nth (Br b 32) 3)>>>12)&&&2251799813685247#64] 0)+(19#64*((nth (Br b 32) 3)>>>63)))
theorem ed(k:r)(h:Hid r→g:=by intro h;refine AE (F3 rfl underlying5 underlying70 (uu _)) rfl ?_;exact h.out):g:=h ⟨k⟩
theorem gK(k:r)(h:Hid r→g:=by intro h;refine AA (AT (j:=3) rfl rfl underlying127 BX O_) rfl ?_;exact h.out):g:=h ⟨k⟩
theorem ak(b:AB 8)(hb:b.length=32):Ev prog (.call 154 [B4 (b)] []) (.val (EQ (N6 b)) []):=by
 have hP:=Hid.mk (N6.eq_1 b)
 refine AG func154 rfl ntmps154 rfl AH ?_;refine Bg ?_;refine C8 ?_;refine AQ ?_;refine BE (BO oM AH) AM rfl ?_;refine Dd ?_;refine AU [1,2,3,6] (fun (zz:Nat×AB 64)=>⟨65,AS [1,2,3,6] [Al 0,Al 1,Al 2,Ae (((zz.1:Nat):Int))],[CM (b),CH (Aj 5),CH (zz.2)]⟩) (fun j3=>(j3,Br b j3)) (32) K_ ?_ ?_
 ·intro j3 hj3
  try dsimp only
  have hX1:(Br b j3).length=4:=by rw [OS b _];try omega
  rw [Br.eq_2,Sw]
  generalize Br b j3=X1 at*
  refine AK ?_;refine Tz ?_;refine CT ?_;refine Ez 14 mixed K_ rfl rfl rfl ?_;refine Ah ?_;refine Tf ?_;refine AE (AT rfl rfl underlying127 BX O_) rfl ?_;refine IL ?_;refine Oq ?_;refine LD ?_;refine ed ?_;refine Ah ?_;refine TK ?_;refine AE (K4 (a:=8) rfl rfl O_) rfl ?_;refine AE (CA rfl rfl) rfl ?_;refine AE (Vp rfl rfl) rfl ?_;refine AE (AT rfl rfl underlying127 BX O_) rfl ?_;refine Bn ?_;refine Fz ?_;exact ⟨(j3+1,_),K_,rfl⟩
 ·try dsimp only
  have hY2:(Br b 32).length=4:=by rw [OS b _];try omega
  generalize Br b 32=Y2 at*
  refine AK ?_;refine Sr ?_;refine AQ ?_;refine AA (AT (j:=0) rfl rfl underlying127 BX O_) rfl ?_;refine BV ?_;refine NJ ?_;refine AA (AT (j:=0) rfl rfl underlying127 BX O_) rfl ?_;refine BV ?_;refine WD ?_;refine AA (AT (j:=1) rfl rfl underlying127 BX O_) rfl ?_;refine BV ?_;refine AA (CA (j:=13) rfl rfl) rfl ?_;refine Fx ?_;refine NJ ?_;refine AA (AT (j:=1) rfl rfl underlying127 BX O_) rfl ?_;refine BV ?_;refine AA (CY (j:=38) rfl rfl) rfl ?_;refine AA (AT (j:=2) rfl rfl underlying127 BX O_) rfl ?_;refine BV ?_;refine AA (CA (j:=26) rfl rfl) rfl ?_;refine Fx ?_;refine NJ ?_;refine AA (AT (j:=2) rfl rfl underlying127 BX O_) rfl ?_;refine BV ?_;refine AA (CY (j:=25) rfl rfl) rfl ?_;refine gK ?_;refine BV ?_;refine AA (CA (j:=39) rfl rfl) rfl ?_;refine Fx ?_;refine NJ ?_;refine gK ?_;refine BV ?_;refine AA (CY (j:=12) rfl rfl) rfl ?_;refine NJ ?_;refine AA (P8 (l:=[_,_,_,_,_]) nM underlying160 BX rfl rfl D_) rfl ?_;refine C8 ?_;refine Hy ?_;refine AQ ?_;refine NH ?_;refine BV ?_;refine gK ?_;refine BV ?_;refine AA (CY (j:=63) rfl rfl) rfl ?_;refine AA (HU (a:=19#64) rfl rfl) rfl ?_;refine D0 ?_;refine NH ?_;refine Fw ?_;refine AQ ?_;refine GU ?_;refine La ?_;rw [hP.out]
  exact MV
@[simp] theorem AAZ(b:AB 8)(_hb:b.length=32):(N6 b).length=5:=by
 unfold N6
 (simp [*];done)
attribute [irreducible] N6
def GP(key:AB 8):AB 8:=put (put key 0 ((nth key 0)&&&248#8)) 31 (((nth (put key 0 ((nth key 0)&&&248#8)) 31)&&&127#8) ||| 64#8)
theorem IE(k:r)(h:Hid r→g:=by intro h;refine AA (AT (j:=31) rfl rfl underlying37 Bz O_) rfl ?_;refine AA (Za rfl rfl bZ Dw) rfl ?_;exact h.out):g:=h ⟨k⟩
theorem Qs(k:r)(h:Hid r→g:=by intro h;refine AA (Ng (b:=127#8) rfl rfl) rfl ?_;exact h.out):g:=h ⟨k⟩
theorem PA(k:r)(h:Hid r→g:=by intro h;refine AA (AT (j:=31) rfl rfl underlying37 Bz O_) rfl ?_;exact h.out):g:=h ⟨k⟩
theorem cU(key:AB 8)(hkey:key.length=32):Ev prog (.call 153 [B4 (key)] []) (.val (B4 (GP key)) []):=by
 have hP:=Hid.mk (GP.eq_1 key)
 refine AG func153 rfl ntmps153 rfl AH ?_;refine Bg ?_;refine EB ?_;refine AQ ?_;refine Ok ?_;refine GZ ?_;refine AA (Ng (b:=248#8) rfl rfl) rfl ?_;refine Ok ?_;refine C3 ?_;refine AQ ?_;refine IE ?_;refine Qs ?_;refine AA (bO (b:=64#8) rfl rfl) rfl ?_;refine PA ?_;refine C3 ?_;refine H5 ?_;refine Em ?_;rw [hP.out]
 exact FC
@[simp] theorem zA(key:AB 8)(hkey:key.length=32):(GP key).length=32:=by
 unfold GP
 (simp [*];done)
attribute [irreducible] GP
theorem ZE:∃f:AB 64→AB 64→AB 64,(∀a b,(f a b).length=5)∧ ∀a b,a.length=5→b.length=5→f a b=AF a b:=⟨fun a b=>if a.length=5∧b.length=5 then AF a b else Aj 5,fun a b=>by dsimp only;split<;>simp [*],fun a b ha hb=>if_pos ⟨ha,hb⟩⟩
noncomputable def Au:AB 64→AB 64→AB 64:=Classical.choose ZE
@[simp] theorem AAO(a b:AB 64):(Au a b).length=5:=(Classical.choose_spec ZE).1 a b
theorem jV(a b:AB 64)(ha:a.length=5)(hb:b.length=5):Au a b=AF a b:=(Classical.choose_spec ZE).2 a b ha hb
theorem Hp(a b:AB 64)(ha:a.length=5)(hb:b.length=5):Ev prog (.call 158 [EQ a,EQ b] []) (.val (EQ (Au a b)) []):=by
 rw [jV a b ha hb]
 exact Bp a b ha hb
theorem Zb:∃f:AB 64→AB 64→AB 64,(∀a b,(f a b).length=5)∧ ∀a b,a.length=5→b.length=5→f a b=Ao a b:=⟨fun a b=>if a.length=5∧b.length=5 then Ao a b else Aj 5,fun a b=>by dsimp only;split<;>simp [*],fun a b ha hb=>if_pos ⟨ha,hb⟩⟩
noncomputable def Ax:AB 64→AB 64→AB 64:=Classical.choose Zb
@[simp] theorem ABJ(a b:AB 64):(Ax a b).length=5:=(Classical.choose_spec Zb).1 a b
theorem iY(a b:AB 64)(ha:a.length=5)(hb:b.length=5):Ax a b=Ao a b:=(Classical.choose_spec Zb).2 a b ha hb
theorem Uv(a b:AB 64)(ha:a.length=5)(hb:b.length=5):Ev prog (.call 157 [EQ a,EQ b] []) (.val (EQ (Ax a b)) []):=by
 rw [iY a b ha hb]
 exact Fv a b ha hb
theorem aT:∃f:AB 64→AB 64→AB 64,(∀a b,(f a b).length=5)∧ ∀a b,a.length=5→b.length=5→f a b=AW a b:=⟨fun a b=>if a.length=5∧b.length=5 then AW a b else Aj 5,fun a b=>by dsimp only;split<;>simp [*],fun a b ha hb=>if_pos ⟨ha,hb⟩⟩
noncomputable def Aw:AB 64→AB 64→AB 64:=Classical.choose aT
@[simp] theorem ABP(a b:AB 64):(Aw a b).length=5:=(Classical.choose_spec aT).1 a b
theorem gk(a b:AB 64)(ha:a.length=5)(hb:b.length=5):Aw a b=AW a b:=(Classical.choose_spec aT).2 a b ha hb
theorem U7(a b:AB 64)(ha:a.length=5)(hb:b.length=5):Ev prog (.call 156 [EQ a,EQ b] []) (.val (EQ (Aw a b)) []):=by
 rw [gk a b ha hb]
 exact FV a b ha hb
theorem aZ:∃f:BitVec 64→AB 64,(∀a,(f a).length=5)∧ ∀a,f a=AI a:=⟨AI,fun a=>by simp,fun a=>rfl⟩
noncomputable def Lt:BitVec 64→AB 64:=Classical.choose aZ
@[simp] theorem AAn(a:BitVec 64):(Lt a).length=5:=(Classical.choose_spec aZ).1 a
theorem Ul(a:BitVec 64):Lt a=AI a:=(Classical.choose_spec aZ).2 a
theorem aV(a:BitVec 64):Ev prog (.call 155 [.c (.val (BW a))] []) (.val (EQ (Lt a)) []):=by
 rw [Ul a ]
 exact DN a
theorem Ys:∃f:AB 64→AB 64,(∀a,(f a).length=5)∧ ∀a,a.length=5→f a=B3 a:=⟨fun a=>if a.length=5 then B3 a else Aj 5,fun a=>by dsimp only;split<;>simp [*],fun a ha=>if_pos ha⟩
noncomputable def W9:AB 64→AB 64:=Classical.choose Ys
@[simp] theorem AAh(a:AB 64):(W9 a).length=5:=(Classical.choose_spec Ys).1 a
theorem iS(a:AB 64)(ha:a.length=5):W9 a=B3 a:=(Classical.choose_spec Ys).2 a ha
theorem uF(a:AB 64)(ha:a.length=5):Ev prog (.call 159 [EQ a] []) (.val (EQ (W9 a)) []):=by
 rw [iS a ha]
 exact Lx a ha
theorem fW:∃f:AB 64→AB 8,(∀a,(f a).length=32)∧ ∀a,a.length=5→f a=AO a:=⟨fun a=>if a.length=5 then AO a else Ag 32,fun a=>by dsimp only;split<;>simp [*],fun a ha=>if_pos ha⟩
noncomputable def zc:AB 64→AB 8:=Classical.choose fW
@[simp] theorem ABT(a:AB 64):(zc a).length=32:=(Classical.choose_spec fW).1 a
theorem pg(a:AB 64)(ha:a.length=5):zc a=AO a:=(Classical.choose_spec fW).2 a ha
theorem wk(a:AB 64)(ha:a.length=5):Ev prog (.call 160 [EQ a] []) (.val (B4 (zc a)) []):=by
 rw [pg a ha]
 exact EY a ha
theorem fa:∃f:AB 8→AB 64,(∀a,(f a).length=5)∧ ∀a,a.length=32→f a=N6 a:=⟨fun a=>if a.length=32 then N6 a else Aj 5,fun a=>by dsimp only;split<;>simp [*],fun a ha=>if_pos ha⟩
noncomputable def gu:AB 8→AB 64:=Classical.choose fa
@[simp] theorem ABQ(a:AB 8):(gu a).length=5:=(Classical.choose_spec fa).1 a
theorem nC(a:AB 8)(ha:a.length=32):gu a=N6 a:=(Classical.choose_spec fa).2 a ha
theorem xk(a:AB 8)(ha:a.length=32):Ev prog (.call 154 [B4 a] []) (.val (EQ (gu a)) []):=by
 rw [nC a ha]
 exact ak a ha
theorem Yh:∃f:AB 8→AB 8,(∀a,(f a).length=32)∧ ∀a,a.length=32→f a=GP a:=⟨fun a=>if a.length=32 then GP a else Ag 32,fun a=>by dsimp only;split<;>simp [*],fun a ha=>if_pos ha⟩
noncomputable def Cf:AB 8→AB 8:=Classical.choose Yh
@[simp] theorem zr(a:AB 8):(Cf a).length=32:=(Classical.choose_spec Yh).1 a
theorem iL(a:AB 8)(ha:a.length=32):Cf a=GP a:=(Classical.choose_spec Yh).2 a ha
theorem sC(a:AB 8)(ha:a.length=32):Ev prog (.call 153 [B4 a] []) (.val (B4 (Cf a)) []):=by
 rw [iL a ha]
 exact cU a ha
def au(gs:List (Nat×Nat))(i:Nat):Bool:=gs.any fun p=>p.1==i
theorem Emb.upd_up{ι:Emb}{b:Nat}(h:ι b=none)(l:Loc):ι.le (ι.upd b l):=
 ⟨fun b' x hb=>by
  have:b'≠b:=fun e=>by rw [e,h] at hb;cases hb
  rw [Emb.upd_ne this];exact hb,fun _ _ _ h=>h⟩
theorem alloc_at{k:Nat}{ι:Emb}{M:Ak}{w w':World}(hR:R ι M w){b:Nat}{cs:Array Value}{t:TypeId}{x:Arr}(hb0:ι b=none)(hm0:M[b]?=some (.row true x))(hk:k≤b)(hh:w'.heap=w.heap.push (.cells cs t (0,0)))(ho:w'.os=w.os)(ht:w'.tape=w.tape)(hu:w'.output=w.output)
  (hs:x.size≤cs.size) (hx:x.relAt ι cs 0) (hmp:x.isMap=false):Step k ι M w (ι.upd b ⟨w.heap.size,0,cs.size⟩) M w':=by
 have hle:=Emb.upd_up hb0 ⟨w.heap.size,0,cs.size⟩
 have hbl:b<M.length:=(List.getElem?_eq_some_iff.1 hm0).1
 have old:∀c,c<w.heap.size→w'.heap[c]?=w.heap[c]?:=fun c hc=>by rw [hh,Array.getElem?_push,if_neg O_]
 refine Step.make hR (fun b1 hb=>?_) (fun b1 l own y hb hm=>?_) (fun b1 b' l l' own own' y y' hne hb hb' hm hm' ho=>?_) ⟨ho,ht,hu,by rw [hh];simp,fun c hc _=>old c hc,fun c hc=>?_⟩ rfl (fun b1 hb=>Emb.upd_ne O_) O_ (fun _ _ _ h=>h) (fun _ _ x _ h=>⟨x,h⟩) (fun b1 l own y hb h1 h2=>?_)
 ·rw [Emb.upd_ne O_];exact hR.dom b1 hb
 ·by_cases e:b1=b
  ·subst e
   rw [Emb.upd_eq] at hb
   cases hb
   rw [hm0] at hm
   cases hm
   exact .of hmp ⟨cs,t,(0,0),by rw [hh,Array.getElem?_push,if_pos rfl],hs,hx.mono' hle,fun _=>⟨rfl,by simp⟩⟩
  ·rw [Emb.upd_ne e] at hb
   exact (hR.rows b1 l own y hb hm).heap (old _ (hR.lt hb hm)) hle
 ·by_cases e:b1=b
  ·subst e
   rw [Emb.upd_eq] at hb
   rw [Emb.upd_ne (fun e=>hne e.symm)] at hb'
   cases hb
   have:=hR.lt hb' hm'
   show w.heap.size≠l'.c
   omega
  ·rw [Emb.upd_ne e] at hb
   by_cases e':b'=b
   ·subst e'
    rw [Emb.upd_eq] at hb'
    cases hb'
    have:=hR.lt hb hm
    show l.c≠w.heap.size
    omega
   ·rw [Emb.upd_ne e'] at hb'
    exact hR.inj b1 b' l l' own own' y y' hne hb hb' hm hm' ho
 ·obtain ⟨b1,l,y,hb,hm,rfl⟩:=hc
  by_cases e:b1=b
  ·subst e
   rw [Emb.upd_eq] at hb
   cases hb
   exact .inl (Nat.le_refl _)
  ·rw [Emb.upd_ne e] at hb
   exact .inr ⟨b1,l,y,hb,hm,rfl⟩
 ·by_cases e:b1=b
  ·subst e
   rw [Emb.upd_eq] at h1
   cases h1
   exact .inl (Nat.le_refl _)
  ·rw [Emb.upd_ne e] at h1
   exact .inr (.inr ⟨b1,l,own,y,hb,h1,h2,rfl⟩)
def GOk(P:Program)(k:Nat)(o:Oper)(b:Nat)(e:Operand→AV)(m:Ak)(v:AV):Prop:= ∀(ι:Emb) (w:World) (ρ:Operand→Value),R ι m w→ι b=none→(∀x∈o.op.operands,(e x).rel ι (ρ x))→ ∃u w' ι',(execOp ρ o).run P w= .ok (.value u) w'∧v.rel ι' u∧Step k ι m w ι' m w'∧ι.le ι'∧ ∀b',b'≠b→ι' b'=ι b'
theorem uA{P:Program}{k:Nat}{e:Operand→AV}{m:Ak}{b:Nat}{x:Arr}{t ty:TypeId}{dst:Option Tmp}{pos:String}{af:Array Edge}(hz:∀m,Cp P m t=some (.c (.ptr m.length 0),m++[.row true x]))(hm:m[b]?=some (.row true x))(hk:k≤b):GOk P k ⟨dst,.alloc t,ty,pos,af,none⟩ b e m (.c (.ptr b 0)):=by
 intro ι w ρ hR hb _
 have h:=hz []
 unfold Cp at h
 split at h
 ·rename_i i hi
  split at h
  ·rename_i z hz'
   simp only [Option.some.injEq,Prod.mk.injEq,List.nil_append,List.cons.injEq,Row.row.injEq,and_true,true_and] at h
   subst h
   have hst:=alloc_at (k:=k) (w':=w.alloc (.cells z.cells t)) (t:=t) hR hb hm hk rfl rfl rfl rfl (by rw [(D4 ι z.cells.toList).1];simp) (Ji ι z.cells) (Hq _)
   refine ⟨.pointer (some ⟨w.heap.size,0,none⟩),_,_,?_,⟨_,Emb.upd_eq _ _ _,rfl⟩,hst,Emb.upd_up hb _,fun b' hb'=>Emb.upd_ne hb'⟩
   simp [execOp,Instr.alloc,zeroValue,typeInfo,hi,hz',newVar,newRow]
  ·cases h
 ·cases h
structure Hu(P:Program)(ops:Array Oper)(cs:List Nat)(gs:List (Nat×Nat))(k:Nat)(A:Nat→St)(V:Nat→AV)(N0:Nat):Prop where
 h0:(A 0).n=N0
 gone:∀p∈gs,p.1<ops.size∧p.2<(A 0).m.length
 uniq:∀p∈gs,∀q∈gs,p.2=q.2→p.1=q.1
 gbef:∀(l i:Nat),l<ops.size→cs.contains l=true→au gs i=true→Te ops l i=true
 pure:∀(i:Nat) (o:Oper),ops[i]?=some o→cs.contains i=false→au gs i=false→(∀c,c≤ops.size→(∀j,j<c→cs.contains j=true→Te ops j i=false)→OL P o (AC (A i).t) (A c).m (V i))∧A (i+1)=⟨N0,Ce (A i).t o.dst (V i),(A i).m⟩
 made:∀(i:Nat) (o:Oper),ops[i]?=some o→au gs i=true→cs.contains i=false∧(∃b,(i,b)∈gs∧GOk P k o b (AC (A i).t) (A 0).m (V i))∧A (i+1)=⟨N0,Ce (A i).t o.dst (V i),(A i).m⟩
 chain:∀(i:Nat) (o:Oper),ops[i]?=some o→cs.contains i=true→ ∃m',O7 P (.op o.op (AC (A i).t) (A i).m) (.val (V i) m')∧A (i+1)=⟨N0,Ce (A i).t o.dst (V i),m'⟩
theorem sb{gs:List (Nat×Nat)}{i:Nat}(h:au gs i=true):∃b,(i,b)∈gs:=by
 unfold au at h
 obtain ⟨⟨a,b⟩,h1,h2⟩:=List.any_eq_true.1 h
 exact ⟨b,by simp at h2;subst h2;exact h1⟩
theorem yD{gs:List (Nat×Nat)}{p:Nat×Nat}(h:p∈gs):au gs p.1=true:=List.any_eq_true.2 ⟨p,h,by simp⟩
section
variable {P:Program} {ops:Array Oper} {cs:List Nat} {gs:List (Nat×Nat)} {M0:Ak} {A:Nat→St} {V:Nat→AV} {N0 k:Nat}
theorem Hu.next(h:Hu P ops cs gs k A V N0){i:Nat}{o:Oper}(ho:ops[i]?=some o):∃m',A (i+1)=⟨N0,Ce (A i).t o.dst (V i),m'⟩:=by
 cases hs:cs.contains i with
 |true=>obtain ⟨m',_,e⟩:=h.chain i o ho hs;exact ⟨m',e⟩
 |false=>cases hg:au gs i with
  |true=>exact ⟨_,(h.made i o ho hg).2.2⟩
  |false=>exact ⟨_,(h.pure i o ho hs hg).2⟩
theorem Hu.tmp1(h:Hu P ops cs gs k A V N0){i:Nat}(hi:i<ops.size){t:Nat}(ht:BL ops i≠some t):(A (i+1)).t t=(A i).t t:=by
 have ho:ops[i]?=some (ops[i]'hi):=Array.getElem?_eq_getElem hi
 have hd:BL ops i=(ops[i]'hi).dst:=by simp [BL,ho]
 rw [hd] at ht
 obtain ⟨m',e⟩:=h.next ho
 rw [e]
 show Ce (A i).t (ops[i]'hi).dst (V i) t=_
 cases hdd:(ops[i]'hi).dst with
 |none=>rfl
 |some d=>rw [hdd] at ht;exact upd_ne _ _ (fun e=>ht (by rw [e]))
theorem Hu.slot(h:Hu P ops cs gs k A V N0){i t:Nat}:∀d,i+d≤ops.size→(∀j,i≤j→j<i+d→BL ops j≠some t)→(A (i+d)).t t=(A i).t t
 |0,_,_=>rfl
 |d+1,hd,hno=>by
  rw [show i+(d+1)=i+d+1 by omega,h.tmp1 O_ (hno _ O_ O_),Hu.slot h d O_ fun j h1 h2=>hno j h1 O_]
theorem Hu.slot'(h:Hu P ops cs gs k A V N0){i j t:Nat}(hij:i≤j)(hj:j≤ops.size)(hno:∀l,i≤l→l<j→BL ops l≠some t):(A j).t t=(A i).t t:=by
 have:=h.slot (i:=i) (t:=t) (j-i) O_ (fun l h1 h2=>hno l h1 O_)
 rwa [show i+(j-i)=j by omega] at this
theorem Hu.mem(h:Hu P ops cs gs k A V N0){i:Nat}:∀d,i+d≤ops.size→(∀j,i≤j→j<i+d→cs.contains j=false)→(A (i+d)).m=(A i).m
 |0,_,_=>rfl
 |d+1,hd,hno=>by
  have hlt:i+d<ops.size:=by omega
  have ho:ops[i+d]?=some (ops[i+d]'hlt):=Array.getElem?_eq_getElem hlt
  have e:A (i+d+1)=⟨N0,Ce (A (i+d)).t (ops[i+d]'hlt).dst (V (i+d)),(A (i+d)).m⟩:=by
   cases hg:au gs (i+d) with
   |true=>exact (h.made (i+d) _ ho hg).2.2
   |false=>exact (h.pure (i+d) _ ho (hno _ O_ O_) hg).2
  rw [show i+(d+1)=i+d+1 by omega,e]
  exact Hu.mem h d O_ fun j h1 h2=>hno j h1 O_
theorem Hu.mem'(h:Hu P ops cs gs k A V N0){i j:Nat}(hij:i≤j)(hj:j≤ops.size)(hno:∀l,i≤l→l<j→cs.contains l=false):(A j).m=(A i).m:=by
 have:=h.mem (i:=i) (j-i) O_ (fun l h1 h2=>hno l h1 O_)
 rwa [show i+(j-i)=j by omega] at this
structure Ud(ops:Array Oper)(cs:List Nat)(gs:List (Nat×Nat))(M0:Ak)(A:Nat→St)(k:Nat)(ι0:Emb)(w0:World)(a0:Act)(listed:Array Bool)(ι:Emb)(a:Act)(w:World):Prop where
 cut:∃j,j≤ops.size∧(∀i,i<ops.size→cs.contains i=true→(listed.getD i false=true↔i<j))∧(A 0).m.length≤(A j).m.length∧Step k ι0 M0 w0 ι (A j).m w
 unp:∀p∈gs,listed.getD p.1 false=false→ι p.2=none
 le:ι0.le ι
 hit:∀j,j<ops.size→listed.getD j false=true→ ∀d,BL ops j=some d→((A (j+1)).t d).rel ι (a.tmps.getD d undef)
 miss:∀t,(∀j,j<ops.size→listed.getD j false=true→BL ops j≠some t)→a.tmps.getD t undef=a0.tmps.getD t undef
 size:a.tmps.size=a0.tmps.size
 defers:a.defers=a0.defers
 head:HeadInv .any ops ops.size listed
theorem Ud.agree(hl:Hu P ops cs gs k A V N0){ι0:Emb}{w0:World}{a0:Act}(hok:mS ops ops.size a0.tmps.size)(hf:DT ι0 (A 0) a0){listed:Array Bool}{ι:Emb}{a:Act}{w:World}(h:Ud ops cs gs M0 A k ι0 w0 a0 listed ι a w)
  {i:Nat} (hin:i<ops.size) {o:Oper} (ho:ops[i]?=some o) (hb:∀j,Te ops i j=true→listed.getD j false=true) (hun:listed.getD i false=false):
  ∀t∈o.looksAt ops,((A i).t t).rel ι (a.tmps.getD t undef):=by
 intro t ht
 by_cases hex:∃j,j<ops.size∧BL ops j=some t
 ·obtain ⟨j,hj,hd⟩:=hex
  rcases hok.look i o t j hin ho ht hj hd with ⟨hji,hbij⟩ | ⟨hij,hbji⟩
  ·have hlj:=hb j hbij
   rw [hl.slot' (i:=j+1) O_ (Nat.le_of_lt hin) (fun l h1 h2 hd'=>by have:=hok.uniq l j t O_ hj hd' hd;omega)]
   exact h.hit j hj hlj t hd
  ·have hnl:listed.getD j false≠true:=fun hlt=>by
    have:=Dm h.head.closed hbji (Array.getElem?_eq_getElem hj) (h.head.closed j _ (Array.getElem?_eq_getElem hj) hlt)
    rw [hun] at this;cases this
   rw [h.miss t (fun j' hj' hl' hd'=>hnl (by rw [←hok.uniq j' j t hj' hj hd' hd];exact hl')),hl.slot' (i:=0) (Nat.zero_le i) (Nat.le_of_lt hin) (fun l _ h2 hd'=>by have:=hok.uniq l j t O_ hj hd' hd;omega)]
   exact AV.rel_mono h.le (hf.rel t)
 ·have hno:∀j,j<ops.size→BL ops j≠some t:=fun j hj hd=>hex ⟨j,hj,hd⟩
  rw [h.miss t (fun j hj _=>hno j hj),hl.slot' (i:=0) (Nat.zero_le i) (Nat.le_of_lt hin) (fun l _ h2=>hno l O_)]
  exact AV.rel_mono h.le (hf.rel t)
theorem Ud.next{ι0:Emb}{w0:World}{a0:Act}(hok:mS ops ops.size a0.tmps.size){listed:Array Bool}{ι ι':Emb}{a:Act}{w:World}(h:Ud ops cs gs M0 A k ι0 w0 a0 listed ι a w)(hle:ι.le ι')
  {i:Nat} (hi:i∈Region.ready .any ops listed) {o:Oper} (ho:ops[i]?=some o) {u:Value} {w':World}
  (hcut:∃j,j≤ops.size∧(∀i',i'<ops.size→cs.contains i'=true→((listed.setIfInBounds i true).getD i' false=true↔i'<j))∧(A 0).m.length≤(A j).m.length∧Step k ι0 M0 w0 ι' (A j).m w')
  (hnone:∀p∈gs,(listed.setIfInBounds i true).getD p.1 false=false→ι' p.2=none)
  (hu:∀d,o.dst=some d→((A (i+1)).t d).rel ι' u):Ud ops cs gs M0 A k ι0 w0 a0 (listed.setIfInBounds i true) ι' (a.put o.dst u) w':=by
 have hin:i<ops.size:=(Array.getElem?_eq_some_iff.1 ho).1
 have his:i<listed.size:=by rw [h.head.size];exact hin
 have hd:BL ops i=o.dst:=by simp [BL,ho]
 have hset:∀j,(listed.setIfInBounds i true).getD j false=true→j=i∨listed.getD j false=true:=fun j hj=>by
  by_cases hji:i=j
  ·exact .inl hji.symm
  ·rw [getD_set_ne false hji] at hj;exact .inr hj
 have hseti:(listed.setIfInBounds i true).getD i false=true:=by simp [his]
 refine ⟨hcut,hnone,⟨fun b l hb=>hle.f b l (h.le.f b l hb),fun c o v hc=>hle.tx c o v (h.le.tx c o v hc)⟩,fun j hj hlj d hdj=>?_,fun t ht=>?_,by rw [show (a.put o.dst u).tmps.size=a.tmps.size by cases o.dst<;>simp [Act.put]];exact h.size,by rw [show (a.put o.dst u).defers=a.defers by cases o.dst<;>rfl];exact h.defers,h.head.set hi hin⟩
 ·by_cases hji:j=i
  ·subst hji
   rw [hd] at hdj
   rw [hdj,O5 a d d u (by rw [h.size];exact hok.lt j d hj (by rw [hd];exact hdj)),if_pos rfl]
   exact hu d hdj
  ·have hlj':=(hset j hlj).resolve_left hji
   have hne:o.dst≠some d:=fun e=>hji (hok.uniq j i d hj hin hdj (by rw [hd];exact e))
   rw [Jo a u hne]
   exact AV.rel_mono hle (h.hit j hj hlj' d hdj)
 ·have h1:o.dst≠some t:=by rw [←hd];exact ht i hin hseti
  rw [Jo a u h1]
  exact h.miss t fun j hj hlj=>ht j hj (getD_set_true hlj)
theorem Ud.run{Q':Exit→Act→World→Prop}(hl:Hu P ops cs gs k A V N0){ι0:Emb}{w0:World}{a0:Act}(hS:zt ops cs a0.tmps.size)(hf:DT ι0 (A 0) a0){listed:Array Bool}{ι:Emb}{a:Act}{w:World}(h:Ud ops cs gs M0 A k ι0 w0 a0 listed ι a w)
  {i:Nat} (hi:i∈Region.ready .any ops listed) {K:Act→World→Prop} (hK:∀ι' a' w',Ud ops cs gs M0 A k ι0 w0 a0 (listed.setIfInBounds i true) ι' a' w'→K a' w'):wpOp P ops Q' i K a w:=by
 have hok:=hS.ok
 have hr:=mem_ready.1 hi
 have hun:listed.getD i false=false:=getD_both hr.1
 obtain ⟨_,o,ho,hall⟩:=hr
 have hin:i<ops.size:=(Array.getElem?_eq_some_iff.1 ho).1
 have hd:BL ops i=o.dst:=by simp [BL,ho]
 have hdeps:∀j,Te ops i j=true→listed.getD j false=true:=fun j hb=>Dm h.head.closed hb ho hall
 have hag:=h.agree hl hok hf hin ho hdeps hun
 have hopnd:∀x∈o.op.operands,(AC (A i).t x).rel ι (a.eval x):=by
  intro x hx
  cases x with
  |tmp t=>exact hag t (List.mem_append_left _ (List.mem_filterMap.2 ⟨.tmp t,by simpa using hx,rfl⟩))
  |const v=>exact AV.rel_of0 (Ox _ v)
  |global g=>trivial
  |func f=>rfl
 obtain ⟨c,hc,hcl,hcn,hst⟩:=h.cut
 have his:i<listed.size:=by rw [h.head.size];exact hin
 unfold wpOp
 simp only [ho]
 rw [show Region.wanted o (yielded ops a.tmps)=true by unfold Region.wanted;rw [hS.guard i o ho],if_pos rfl]
 refine .inl ?_;have hval:∀ {ι':Emb} {u:Value},(V i).rel ι' u→ ∀d,o.dst=some d→((A (i+1)).t d).rel ι' u:=fun hv d hdd=>by
  obtain ⟨m',e⟩:=hl.next ho
  rw [e]
  show (Ce (A i).t o.dst (V i) d).rel _ _
  rw [hdd]
  show (upd (A i).t d (V i) d).rel _ _
  rw [upd_eq]
  exact hv
 have hlow:∀j,(listed.setIfInBounds i true).getD j false=false→listed.getD j false=false:=fun j hj=>by
  cases hb:listed.getD j false with
  |false=>rfl
  |true=>rw [getD_set_true hb] at hj;cases hj
 cases hs:cs.contains i with
 |false=>
  cases hg:au gs i with
  |false=>
   obtain ⟨hv,hstep⟩:=hl.pure i o ho hs hg
   have hfree:∀j,j<c→cs.contains j=true→Te ops j i=false:=fun j hj hs'=>by
    have hjn:j<ops.size:=by omega
    have hlj:=(hcl j hjn hs').2 hj
    cases hb:Te ops j i with
    |false=>rfl
    |true=>
     have:=Dm h.head.closed hb (Array.getElem?_eq_getElem hjn) (h.head.closed j _ (Array.getElem?_eq_getElem hjn) hlj)
     rw [hun] at this;cases this
   refine (hv c hc hfree ι w a.eval hst.r hopnd).wp rfl fun u w' ι1 hv1 hst2=>?_
   refine hK ι1 _ _ (h.next hok (hst2.le hst.r) hi ho ⟨c,hc,fun i' hi' hs'=>?_,hcn,hst.comp (hst2.low hst.len)⟩ (fun p hp hl'=>?_) (hval hv1))
   rotate_left
   ·rw [hst2.ext p.2 (Nat.lt_of_lt_of_le (hl.gone p hp).2 hcn)];exact h.unp p hp (hlow p.1 hl')
   have hne:i≠i':=fun e=>by subst e;rw [hs] at hs';cases hs'
   rw [getD_set_ne false hne]
   exact hcl i' hi' hs'
  |true=>
   obtain ⟨_,hv,hstep⟩:=hl.made i o ho hg
   have hm:(A c).m=(A 0).m:=by
    refine hl.mem' (Nat.zero_le _) hc fun l _ h2=>?_
    cases hs':cs.contains l with
    |false=>rfl
    |true=>
     have hln:l<ops.size:=by omega
     have hll:=(hcl l hln hs').2 h2
     have:=Dm h.head.closed (hl.gbef l i hln hs' hg) (Array.getElem?_eq_getElem hln) (h.head.closed l _ (Array.getElem?_eq_getElem hln) hll)
     rw [hun] at this;cases this
   obtain ⟨bb,hbb,hv⟩:=hv
   have hst0:=hst
   rw [hm] at hst
   obtain ⟨u,w',ι1,hrun,hv1,hst2,hle2,hext2⟩:=hv ι w a.eval hst.r (h.unp _ hbb hun) hopnd
   unfold Oper.wp
   rw [hrun]
   refine hK ι1 _ _ (h.next hok hle2 hi ho ⟨c,hc,fun i' hi' hs'=>?_,hcn,by rw [hm];exact hst.comp hst2⟩ (fun p hp hl'=>?_) (hval hv1))
   rotate_left
   ·rw [hext2 p.2 (fun e=>by
     have e1:p.1=i:=hl.uniq p hp (i,bb) hbb e
     rw [e1] at hl'
     simp [his] at hl')]
    exact h.unp p hp (hlow p.1 hl')
   have hne:i≠i':=fun e=>by subst e;rw [hs] at hs';cases hs'
   rw [getD_set_ne false hne]
   exact hcl i' hi' hs'
 |true=>
  obtain ⟨m',hv,hstep⟩:=hl.chain i o ho hs
  have hci:c≤i:=by
   have:=(hcl i hin hs).2
   rcases Nat.lt_or_ge i c with h' | h'
   ·rw [this h'] at hun;cases hun
   ·exact h'
  have hm:(A i).m=(A c).m:=by
   refine hl.mem' hci (Nat.le_of_lt hin) fun l h1 h2=>?_
   cases hs':cs.contains l with
   |false=>rfl
   |true=>
    have:=(hcl l O_ hs').1 (hdeps l (hS.chain l i h2 hin hs' hs))
    omega
  rw [←hm] at hst
  refine (hv o ι w a.eval rfl hst.r hopnd).wp rfl fun u w' ι1 hv1 hst2=>?_
  have hst3:Step k ι0 M0 w0 ι1 (A (i+1)).m w':=by
   rw [hstep]
   exact hst.comp (hst2.low hst.len)
  refine hK ι1 _ _ (h.next hok (hst2.le hst.r) hi ho ⟨i+1,hin,fun i' hi' hs'=>?_,by rw [hstep];exact Nat.le_trans hcn (by rw [←hm];exact hst2.len),hst3⟩ (fun p hp hl'=>?_) (hval hv1))
  rotate_left
  ·rw [hst2.ext p.2 (Nat.lt_of_lt_of_le (hl.gone p hp).2 (by rw [hm];exact hcn))];exact h.unp p hp (hlow p.1 hl')
  by_cases hne:i=i'
  ·subst hne;simp [his]
  ·rw [getD_set_ne false hne]
   constructor
   ·intro hli
    rcases Nat.lt_or_ge i' (i+1) with h' | h'
    ·exact h'
    ·have:=Dm h.head.closed (hS.chain i i' O_ hi' hs hs') (Array.getElem?_eq_getElem hi') (h.head.closed i' _ (Array.getElem?_eq_getElem hi') hli)
     rw [hun] at this;cases this
   ·intro hlt
    exact hdeps i' (hS.chain i' i O_ hin hs' hs)
theorem Ud.any{Q':Exit→Act→World→Prop}(hl:Hu P ops cs gs k A V N0){ι0:Emb}{w0:World}{a0:Act}(hS:zt ops cs a0.tmps.size)(hf:DT ι0 (A 0) a0)
  (hQ:∀ι' a' w',DT ι' (A ops.size) a'→a'.defers=a0.defers→Step k ι0 M0 w0 ι' (A ops.size).m w'→Q' .normal a' w'):
  ∀(f:Nat) (un:List Nat) (listed:Array Bool) (ι:Emb) (a:Act) (w:World),un.length=f→un.Nodup→(∀j,j∈un↔j<ops.size∧listed.getD j false=false)→Ud ops cs gs M0 A k ι0 w0 a0 listed ι a w→wpAny P .any ops Q' f listed a w:=by
 have hok:=hS.ok
 intro f
 induction f with
 |zero=>
  intro un listed ι a w hlu _ hun h
  obtain rfl:un=[]:=List.length_eq_zero_iff.1 hlu
  have hdone:∀j,j<ops.size→listed.getD j false=true:=fun j hj=>by
   cases hb:listed.getD j false with
   |true=>rfl
   |false=>have:=(hun j).2 ⟨hj,hb⟩;simp at this
  have hnil:Region.ready .any ops listed=[]:=by
   cases hr:Region.ready .any ops listed with
   |nil=>rfl
   |cons x xs=>
    have hx:x∈Region.ready .any ops listed:=by rw [hr];exact List.mem_cons_self
    obtain ⟨h1,o,ho,_⟩:=mem_ready.1 hx
    have:=hdone x (Array.getElem?_eq_some_iff.1 ho).1
    rw [getD_both h1] at this;cases this
  refine ⟨hnil,?_⟩
  obtain ⟨c,hc,hcl,hcn,hst⟩:=h.cut
  have hm:(A ops.size).m=(A c).m:=by
   refine hl.mem' hc (Nat.le_refl _) fun l h1 h2=>?_
   cases hs':cs.contains l with
   |false=>rfl
   |true=>have:=(hcl l h2 hs').1 (hdone l h2);omega
  rw [←hm] at hst
  have hnn:(A ops.size).n=N0:=by
   cases hz:ops.size with
   |zero=>exact hl.h0
   |succ z=>
    have hlt:z<ops.size:=by omega
    obtain ⟨m',e⟩:=hl.next (Array.getElem?_eq_getElem hlt)
    rw [e]
  refine hQ ι a w ⟨by rw [h.size,hf.size,hl.h0,hnn],fun t=>?_⟩ h.defers hst
  by_cases hex:∃j,j<ops.size∧BL ops j=some t
  ·obtain ⟨j,hj,hd⟩:=hex
   rw [hl.slot' (i:=j+1) O_ (Nat.le_refl _) (fun l h1 h2 hd'=>by have:=hok.uniq l j t O_ hj hd' hd;omega)]
   exact h.hit j hj (hdone j hj) t hd
  ·have hno:∀j,j<ops.size→BL ops j≠some t:=fun j hj hd=>hex ⟨j,hj,hd⟩
   rw [h.miss t (fun j hj _=>hno j hj),hl.slot' (i:=0) (Nat.zero_le _) (Nat.le_refl _) (fun l _ h2=>hno l O_)]
   exact AV.rel_mono h.le (hf.rel t)
 |succ f ih=>
  intro un listed ι a w hlu hnd hun h
  refine ⟨fun hnil=>?_,fun i hi=>?_⟩
  ·obtain ⟨i0,hi0⟩:∃i0,i0∈un:=by cases un with | nil=>simp at hlu | cons x _=>exact ⟨x,List.mem_cons_self⟩
   have least:∀m i,i≤m→i∈un→ ∃j,j∈Region.ready .any ops listed:=by
    intro m
    induction m with
    |zero=>
     intro i him hiu
     obtain ⟨hin,hb⟩:=(hun i).1 hiu
     refine ⟨i,mem_ready.2 ⟨getD_in (by rw [h.head.size];exact hin) hb,ops[i]'hin,Array.getElem?_eq_getElem hin,fun e he hbind=>?_⟩⟩
     have:=hS.back i _ e (Array.getElem?_eq_getElem hin) he hbind
     omega
    |succ m ihm=>
     intro i him hiu
     obtain ⟨hin,hb⟩:=(hun i).1 hiu
     by_cases hall:∀e∈(ops[i]'hin).after,Region.binds .any e=true→listed.getD e.on false=true
     ·exact ⟨i,mem_ready.2 ⟨getD_in (by rw [h.head.size];exact hin) hb,_,Array.getElem?_eq_getElem hin,hall⟩⟩
     ·have:∃e∈(ops[i]'hin).after,Region.binds .any e=true∧listed.getD e.on false=false:=by
       apply Classical.byContradiction
       intro hc
       apply hall
       intro e he hbind
       cases hlb:listed.getD e.on false with
       |true=>rfl
       |false=>exact absurd ⟨e,he,hbind,hlb⟩ hc
      obtain ⟨e,he,hbind,hlb⟩:=this
      have hlt:=hS.back i _ e (Array.getElem?_eq_getElem hin) he hbind
      exact ihm e.on O_ ((hun e.on).2 ⟨by omega,hlb⟩)
   obtain ⟨j,hj⟩:=least i0 i0 (Nat.le_refl _) hi0
   rw [hnil] at hj;cases hj
  ·obtain ⟨hun0,o,ho,_⟩:=mem_ready.1 hi
   have hin:i<ops.size:=(Array.getElem?_eq_some_iff.1 ho).1
   refine h.run hl hS hf hi fun ι' a' w' h'=>?_
   have himem:i∈un:=(hun i).2 ⟨hin,getD_both hun0⟩
   refine ih (un.erase i) _ ι' a' w' (by rw [List.length_erase_of_mem himem,hlu];rfl) (hnd.erase i) (fun j=>?_) h'
   rw [hnd.mem_erase_iff,hun j]
   by_cases hji:j=i
   ·subst hji
    have his:j<listed.size:=by rw [h.head.size];exact hin
    simp [his]
   ·rw [getD_set_ne false (fun e=>hji e.symm)]
    simp [hji]
theorem YI{k:Nat}{ι:Emb}{w:World}:∀(G M:Ak),R ι M w→k≤M.length→Step k ι M w ι (M++G) w
 |[],M,hR,hk=>by rw [List.append_nil];exact Step.refl hR hk
 |r::G,M,hR,hk=>by
  have h:=Rx hR r hk
  rw [List.append_cons]
  exact h.comp (YI G (M++[r]) h.r (by simp;omega))
theorem dK {Q : Exit → Act → World → Prop} {id : Nat} (G : Ak) (hm : P.follows .mixedOrders = true) (hl : Hu P ops cs gs k A V (A 0).n) (hall : Region.okChain ops cs (A 0).n = true) (hD : (A 0).m = M0 ++ G) (hgs : ∀ p ∈ gs, M0.length ≤ p.2) {ι : Emb} {w : World} {a : Act} (hf : DT ι (A 0) a) (hR : R ι M0 w) (hk : k ≤ M0.length)
    (hQ : ∀ ι' a' w', DT ι' (A ops.size) a' → a'.defers = a.defers → Step k ι M0 w ι' (A ops.size).m w' → Q .normal a' w') : (Code.region id ops true).wp P Q a w := by
  refine wp_region_any hm ?_
  have hRd : R ι M0 w.drew := ⟨hR.dom, hR.rows, hR.inj, hR.stay⟩
  have hinv : Ud ops cs gs M0 A k ι w.drew a (Array.replicate ops.size false) ι a w.drew :=
    ⟨⟨0, Nat.zero_le _, fun i _ _ => by rw [getD_replicate_false]; simp, Nat.le_refl _, by rw [hD]; exact YI G _ hRd hk⟩, fun p hp _ => hR.dom _ (hgs p hp), .refl _, fun j _ hl => (by rw [getD_replicate_false] at hl; cases hl), fun _ _ => rfl, rfl, rfl,
      ⟨by simp, fun j oj _ hl => (by rw [getD_replicate_false] at hl; cases hl), fun t ht ht' => by omega⟩⟩
  exact Ud.any (w0 := w.drew) (Q' := Q) hl (Region.okChain_spec (by rw [hf.size]; exact hall)) hf
    (fun ι' a' w' h1 h2 h3 => hQ ι' a' w' h1 h2 ⟨h3.r, ⟨h3.trans.os, h3.trans.tape, h3.trans.output, h3.trans.size, h3.trans.keep, h3.trans.fresh⟩, h3.tx, h3.txn, h3.ext, h3.len, h3.ro, h3.old, h3.news⟩) ops.size (List.range ops.size) _ _ _ _ (by simp) List.nodup_range (fun j => by rw [getD_replicate_false]; simp) hinv
end
def tI (P : Program) (ops : Array Oper) (S : List Nat) (D k : Nat) (M0 : Ak) (cs : List (Nat × List Nat)) (gs : List (Nat × Nat)) (K : St → Prop) : Nat → List Oper → St → Prop
  | _, [], s => K s
  | i, o :: l, s => ((cs.map (·.1)).contains i = true ∧ au gs i = false ∧ ∃ v m' rs, (i, rs) ∈ cs ∧ Ev P (.op o.op (AC s.t) s.m) (.val v m') ∧ (m'.length = s.m.length ∧ ∀ c, rs.contains c = false → m'[c]? = s.m[c]?) ∧ tI P ops S D k M0 cs gs K (i + 1) l ⟨s.n, Ce s.t o.dst v, m'⟩) ∨
      ((cs.map (·.1)).contains i = false ∧ au gs i = false ∧ ∃ v, (∀ m, (DD S D M0 m ∧ DD (OU ops cs i) D M0 m) → OL P o (AC s.t) m v) ∧ tI P ops S D k M0 cs gs K (i + 1) l ⟨s.n, Ce s.t o.dst v, s.m⟩) ∨
      ((cs.map (·.1)).contains i = false ∧ au gs i = true ∧ ∃ b v, (i, b) ∈ gs ∧ GOk P k o b (AC s.t) M0 v ∧ tI P ops S D k M0 cs gs K (i + 1) l ⟨s.n, Ce s.t o.dst v, s.m⟩)
structure mT(P:Program)(ops:Array Oper)(S:List Nat)(D k:Nat)(M0:Ak)(cs:List (Nat×List Nat))(gs:List (Nat×Nat))(i:Nat)(l:List Oper)(s:St)(K:St→Prop):Prop where
 h:tI P ops S D k M0 cs gs K i l s
def rB(P:Program)(ops:Array Oper)(S:List Nat)(D k:Nat)(M0:Ak)(cs:List (Nat×List Nat))(gs:List (Nat×Nat))(N0 i:Nat)(o:Oper)(s s':St)(v:AV):Prop:=
 ((cs.map (·.1)).contains i=false→au gs i=false→(∀m,(DD S D M0 m∧DD (OU ops cs i) D M0 m)→OL P o (AC s.t) m v)∧s'=⟨N0,Ce s.t o.dst v,s.m⟩)∧
 (au gs i=true→(cs.map (·.1)).contains i=false∧(∃b,(i,b)∈gs∧GOk P k o b (AC s.t) M0 v)∧s'=⟨N0,Ce s.t o.dst v,s.m⟩)∧
 ((cs.map (·.1)).contains i=true→ ∃m',Ev P (.op o.op (AC s.t) s.m) (.val v m')∧s'=⟨N0,Ce s.t o.dst v,m'⟩)
theorem tI.line{P:Program}{ops:Array Oper}{S:List Nat}{D k:Nat}{M0:Ak}{cs:List (Nat×List Nat)}{gs:List (Nat×Nat)}{K:St→Prop}{N0:Nat}:∀ {l:List Oper} {i:Nat} {s:St},tI P ops S D k M0 cs gs K i l s→s.n=N0→DD (DX cs i) D M0 s.m→ ∃(A:Nat→St) (V:Nat→AV),A 0=s∧(∀c,c≤l.length→DD (DX cs (i+c)) D M0 (A c).m)∧
  (∀j o,l[j]?=some o→rB P ops S D k M0 cs gs N0 (i+j) o (A j) (A (j+1)) (V j))∧K (A l.length)
 |[],i,s,h,_,ha=>⟨fun _=>s,fun _=> .c .any,rfl,fun c hc=>ha.sub (GI cs O_),fun j o h=>by simp at h,h⟩
 |o::l,i,s,h,hn,ha=>by
  have hor:∃v m',DD (DX cs (i+1)) D M0 m'∧tI P ops S D k M0 cs gs K (i+1) l ⟨s.n,Ce s.t o.dst v,m'⟩∧rB P ops S D k M0 cs gs N0 i o s ⟨s.n,Ce s.t o.dst v,m'⟩ v:=by
   rcases h with ⟨hs,hg,v,m',rs,hin,hv,hag0,hr⟩ | ⟨hs,hg,v,hv,hr⟩ | ⟨hs,hg,b,v,hb,hv,hr⟩
   ·have hag:DD (DX cs (i+1)) D M0 m':=by
     refine ⟨by rw [hag0.1];exact ha.1,fun b hb hn=>?_⟩
     have h1:rs.contains b=false:=by
      cases hc:rs.contains b with
      |false=>rfl
      |true=>
       have:b∈DX cs (i+1):=by
        simp only [DX,List.mem_flatMap,List.mem_filter,decide_eq_true_eq]
        exact ⟨(i,rs),⟨hin,by simp⟩,by simpa using hc⟩
       rw [show (DX cs (i+1)).contains b=true by simpa using this] at hn
       cases hn
     rw [hag0.2 b h1]
     exact (ha.sub (GI cs (Nat.le_succ i))).2 b hb hn
    exact ⟨v,m',hag,hr,fun h=>(by rw [hs] at h;cases h),fun h=>(by rw [hg] at h;cases h),fun _=>⟨m',hv,by rw [hn]⟩⟩
   ·exact ⟨v,s.m,ha.sub (GI cs O_),hr,fun _ _=>⟨hv,by rw [hn]⟩,fun h=>(by rw [hg] at h;cases h),fun h=>by rw [hs] at h;cases h⟩
   ·exact ⟨v,s.m,ha.sub (GI cs O_),hr,fun _ h=>(by rw [hg] at h;cases h),fun _=>⟨hs,⟨b,hb,hv⟩,by rw [hn]⟩,fun h=>by rw [hs] at h;cases h⟩
  obtain ⟨v,m',hag,hr,hz⟩:=hor
  obtain ⟨A,V,h0,hc,h1,h2⟩:=tI.line (s:=⟨s.n,Ce s.t o.dst v,m'⟩) hr hn hag
  refine ⟨fun i=>match i with | 0=>s | i+1=>A i,fun i=>match i with | 0=>v | i+1=>V i,rfl,fun c hcl=>?_,fun j o' h=>?_,h2⟩
  ·cases c with
   |zero=>exact ha
   |succ c=>have:=hc c (by simpa using hcl);rwa [show i+1+c=i+(c+1) by omega] at this
  ·cases j with
   |zero=>simp at h;subst h;simp only;rw [h0];exact hz
   |succ j=>rw [show i+(j+1)=i+1+j by omega];exact h1 j o' (by simpa using h)
def iC(ops:Array Oper)(cs:List Nat)(gs:List (Nat×Nat))(n lo hi:Nat):Bool:=
 gs.all fun p=>decide (p.1<n)&&decide (lo≤p.2)&&decide (p.2<hi)&&(gs.all fun q=> !(p.2==q.2) || p.1==q.1)&&cs.all fun l=>Te ops l p.1
theorem ir{P:Program}{k id:Nat}{l:List Oper}{s:St}{Φ:Ex→St→Prop}(G:Ak)(gs:List (Nat×Nat))(cs:List (Nat×List Nat))(S:List Nat)(D:Nat)(M0:Ak)(hM0:s.m++G=M0)(hm:P.follows .mixedOrders=true)(hok:Region.okChain l.toArray (cs.map (·.1)) s.n=true)(hS:(cs.flatMap (·.2)).all (S.contains ·)=true)(hG:iC l.toArray (cs.map (·.1)) gs l.length s.m.length M0.length=true)
  (h:mT P l.toArray S D s.m.length M0 cs gs 0 l ⟨s.n,s.t,M0⟩ (Φ .normal)):WC P k (.region id l.toArray true) s Φ:=by
 subst hM0
 simp only [iC,List.all_eq_true,Bool.and_eq_true,decide_eq_true_eq,Bool.or_eq_true,Bool.not_eq_true',beq_eq_false_iff_ne,beq_iff_eq,ne_eq] at hG
 obtain ⟨A,V,h0,hc,h1,h3⟩:=tI.line (N0:=s.n) h.h rfl ⟨Nat.le_add_right _ _,fun _ _ _=>rfl⟩
 have hA:(A 0).m=s.m++G:=by rw [h0]
 have hAn:(A 0).n=s.n:=by rw [h0]
 refine ⟨⟨.normal,A l.length,Ev.snd ?_,h3⟩⟩
 intro ι w a hk hR hf Q hQ
 have hl:Hu P l.toArray (cs.map (·.1)) gs k A V (A 0).n:=by
  refine ⟨rfl,fun p hp=>⟨by simpa using (hG p hp).1.1.1.1,by rw [hA];exact (hG p hp).1.1.2⟩,fun p hp q hq e=>((hG p hp).1.2 q hq).resolve_left (fun h=>h e),fun l' i hl' hs hg=>?_,fun i o ho hs hg=>?_,fun i o ho hg=>?_,fun i o ho hs=>?_⟩
  ·obtain ⟨b,hb⟩:=sb hg
   exact (hG (i,b) hb).2 l' (by simpa using hs)
  ·have hz:=h1 i o (by simpa using ho)
   rw [Nat.zero_add] at hz
   obtain ⟨g1,g2⟩:=hz.1 hs hg
   refine ⟨fun c hcl hfree=>g1 _ ?_,by rw [hAn];exact g2⟩
   have hag:=hc c (by simpa using hcl)
   rw [Nat.zero_add] at hag
   refine ⟨hag.sub fun x hx=>?_,hag.sub fun x hx=>?_⟩
   ·simp only [DX,List.mem_flatMap,List.mem_filter] at hx
    obtain ⟨p,⟨q1,_⟩,q2⟩:=hx
    have:=List.all_eq_true.1 hS x (List.mem_flatMap.2 ⟨p,q1,q2⟩)
    simpa using this
   ·simp only [DX,OU,List.mem_flatMap,List.mem_filter,decide_eq_true_eq] at hx ⊢
    obtain ⟨p,⟨q1,q3⟩,q2⟩:=hx
    refine ⟨p,⟨q1,?_⟩,q2⟩
    rw [hfree p.1 q3 (by simp only [List.contains_iff_mem];exact List.mem_map.2 ⟨p,q1,rfl⟩)]
    rfl
  ·have hz:=h1 i o (by simpa using ho)
   rw [Nat.zero_add] at hz
   obtain ⟨g1,⟨b,g2,g3⟩,g4⟩:=hz.2.1 hg
   refine ⟨g1,⟨b,g2,fun ι w ρ q1 q2 q3=>?_⟩,by rw [hAn];exact g4⟩
   rw [hA] at q1 ⊢
   obtain ⟨u,w',ι',r1,r2,r3,r4,r5⟩:=g3 ι w ρ q1 q2 q3
   exact ⟨u,w',ι',r1,r2,r3.low hk,r4,r5⟩
  ·have hz:=h1 i o (by simpa using ho)
   rw [Nat.zero_add] at hz
   obtain ⟨m',g1,g2⟩:=hz.2.2 hs
   exact ⟨m',sound g1,by rw [hAn];exact g2⟩
 have hf':DT ι (A 0) a:=by rw [h0];exact ⟨hf.size,hf.rel⟩
 exact dK (Q:=Q) (M0:=s.m) G hm hl (by rw [hAn];exact hok) hA (fun p hp=>(hG p hp).1.1.1.2) hf' hR hk fun ι' a' w' g1 g2 g3=>hQ ι' a' w' (by simpa using g1) g2 (by simpa using g3)
section
variable {P:Program} {ops:Array Oper} {S:List Nat} {D kk:Nat} {M0 M M':Ak} {cs:List (Nat×List Nat)} {gs:List (Nat×Nat)} {i N d:Nat} {l:List Oper} {T:Nat→AV} {K:St→Prop} {op:Op} {v:AV} {ty:TypeId} {pos:String} {af:Array Edge}
theorem pu{s:St}(h:K s):mT P ops S D kk M0 cs gs i [] s K:=⟨h⟩
theorem U0(S':List Nat)(hS:(OU ops cs i).all (S'.contains ·)=true)(h:AL P (AC T) (HY S' D M0) op=some v)(hs:(cs.map (·.1)).contains i=false)(hk:mT P ops S D kk M0 cs gs (i+1) l ⟨N,upd T d v,M⟩ K)(hg:au gs i=false:=by rfl):mT P ops S D kk M0 cs gs i (⟨some d,op,ty,pos,af,none⟩::l) ⟨N,T,M⟩ K:=
 ⟨.inr (.inl ⟨hs,hg,v,fun _ ha=>Wc (ha.2.sub fun x hx=>by have:=List.all_eq_true.1 hS x hx;simpa using this) h,hk.h⟩)⟩
theorem rl(h:Ev P (.op op (AC T) (BZ (HY S D M0))) (.val v (BZ (HY S D M0)++[])))(hn:∀ρ,v.ren ρ=v)(hs:(cs.map (·.1)).contains i=false)(hk:mT P ops S D kk M0 cs gs (i+1) l ⟨N,upd T d v,M⟩ K)(hg:au gs i=false:=by rfl):mT P ops S D kk M0 cs gs i (⟨some d,op,ty,pos,af,none⟩::l) ⟨N,T,M⟩ K:=
 ⟨.inr (.inl ⟨hs,hg,v,fun _ ha=>jT ha.1 (by rwa [List.append_nil] at h) hn,hk.h⟩)⟩
theorem Up(b:Nat){t:TypeId}{x:Arr}(hz:∀m,Cp P m t=some (.c (.ptr m.length 0),m++[.row true x]))(hm:M0[b]?=some (.row true x))(hb:Nat.ble kk b=true)(hs:(cs.map (·.1)).contains i=false)(hg:gs.contains (i,b)=true)(hk:mT P ops S D kk M0 cs gs (i+1) l ⟨N,upd T d (.c (.ptr b 0)),M⟩ K):mT P ops S D kk M0 cs gs i (⟨some d,.alloc t,ty,pos,af,none⟩::l) ⟨N,T,M⟩ K:=
 ⟨.inr (.inr ⟨hs,yD (p:=(i,b)) (by simpa using hg),b,_,by simpa using hg,uA hz hm (Nat.le_of_ble_eq_true hb),hk.h⟩)⟩
theorem AAS{b:Nat}{r:Row}(hM:M.set b r=M'):M'.length=M.length∧ ∀c,[b].contains c=false→M'[c]?=M[c]?:=by
 subst hM
 refine ⟨by simp,fun c hc=>List.getElem?_set_ne (fun e=>?_)⟩
 rw [e] at hc
 simp at hc
theorem xn{b:Nat}{r:Row}(h:CP P (AC T) M op=some (v,M'))(hM:M.set b r=M')(hk:mT P ops S D kk M0 cs gs (i+1) l ⟨N,T,M'⟩ K)(hs:cs.contains (i,[b])=true)(hg:au gs i=false):mT P ops S D kk M0 cs gs i (⟨none,op,ty,pos,af,none⟩::l) ⟨N,T,M⟩ K:=by
 have hin:(i,[b])∈cs:=by simpa using hs
 exact ⟨.inl ⟨by simp only [List.contains_iff_mem];exact List.mem_map.2 ⟨_,hin,rfl⟩,hg,v,M',[b],hin,Ev.mem h,AAS hM,hk.h⟩⟩
theorem qn{t:TypeId}{a v:Operand}{b:Nat}{x y:Arr}(ha:AC T a= .c (.ptr b 0))(hv:AC T v= .agg y)(hm:M[b]?=some (.row true x))(h1:y.one=true){n:Nat}(hsz:De P t=some n)(hy:y.size=n)(hx:x.size=n)(hM:M.set b (.row true y)=M')
  (hk:mT P ops S D kk M0 cs gs (i+1) l ⟨N,T,M'⟩ K) (hxm:x.isMap=false:=by rfl) (hs:cs.contains (i,[b])=true:=by rfl) (hg:au gs i=false:=by rfl):mT P ops S D kk M0 cs gs i (⟨none,.store t a v,ty,pos,af,none⟩::l) ⟨N,T,M⟩ K:=
 xn (v:= .c .any) (by simp [CP,Ic,ha,hv,hm,h1,hsz,hx,hy,hM,hxm]) hM hk hs hg
end
noncomputable def E8(J5 J6 J7 J8:AB 64):AB 64:=Au (Aw (Au (Ax J7 J8) (Aw J5 J6)) (Au (Aw J7 J8) (Ax J5 J6))) (Aw (Au (Ax J7 J8) (Aw J5 J6)) (Au (Aw J7 J8) (Ax J5 J6)))
@[simp] theorem Ob(J5 J6 J7 J8:AB 64):(E8 J5 J6 J7 J8).length=5:=by simp [E8]
noncomputable def ER(place:AB 8)(J5 J6 J7 J8:AB 64):AB 64:=Au (gu (put place 31 ((nth place 31)&&&127#8))) (Au (Ax (Au (Ax J7 J8) (Aw J5 J6)) (Au (Aw J7 J8) (Ax J5 J6))) (Ax (Au (Ax J7 J8) (Aw J5 J6)) (Au (Aw J7 J8) (Ax J5 J6))))
@[simp] theorem Np(place:AB 8)(J5 J6 J7 J8:AB 64):(ER place J5 J6 J7 J8).length=5:=by simp [ER]
noncomputable def E7(J5 J6:AB 64):AB 64:=Au (Au (Aw J5 J6) (Aw J5 J6)) (Au (Ax J5 J6) (Ax J5 J6))
@[simp] theorem PJ(J5 J6:AB 64):(E7 J5 J6).length=5:=by simp [E7]
noncomputable def EU(J5 J6:AB 64):AB 64:=Au (Ax (Au (Aw J5 J6) (Aw J5 J6)) (Au (Ax J5 J6) (Ax J5 J6))) (Aw (Au (Aw J5 J6) (Aw J5 J6)) (Au (Lt 121665#64) (Ax (Au (Aw J5 J6) (Aw J5 J6)) (Au (Ax J5 J6) (Ax J5 J6)))))
@[simp] theorem Nw(J5 J6:AB 64):(EU J5 J6).length=5:=by simp [EU]
noncomputable def Kq(key place:AB 8)(X5 X6 X7 X8:AB 64)(j6:Nat):AB 64×AB 64×AB 64×AB 64:=((if ((((nth (Cf key) ((254-j6)/8))>>>((254-j6)%8))&&&1#8)==1#8)=true then (E8 (if ((((nth (Cf key) ((254-j6)/8))>>>((254-j6)%8))&&&1#8)==1#8)=true then X7 else X5) (if ((((nth (Cf key) ((254-j6)/8))>>>((254-j6)%8))&&&1#8)==1#8)=true then X8 else X6) (if ((((nth (Cf key) ((254-j6)/8))>>>((254-j6)%8))&&&1#8)==1#8)=true then X5 else X7) (if ((((nth (Cf key) ((254-j6)/8))>>>((254-j6)%8))&&&1#8)==1#8)=true then X6 else X8)) else (E7 (if ((((nth (Cf key) ((254-j6)/8))>>>((254-j6)%8))&&&1#8)==1#8)=true then X7 else X5) (if ((((nth (Cf key) ((254-j6)/8))>>>((254-j6)%8))&&&1#8)==1#8)=true then X8 else X6))),(if ((((nth (Cf key) ((254-j6)/8))>>>((254-j6)%8))&&&1#8)==1#8)=true then (ER place (if ((((nth (Cf key) ((254-j6)/8))>>>((254-j6)%8))&&&1#8)==1#8)=true then X7 else X5) (if ((((nth (Cf key) ((254-j6)/8))>>>((254-j6)%8))&&&1#8)==1#8)=true then X8 else X6) (if ((((nth (Cf key) ((254-j6)/8))>>>((254-j6)%8))&&&1#8)==1#8)=true then X5 else X7) (if ((((nth (Cf key) ((254-j6)/8))>>>((254-j6)%8))&&&1#8)==1#8)=true then X6 else X8)) else (EU (if ((((nth (Cf key) ((254-j6)/8))>>>((254-j6)%8))&&&1#8)==1#8)=true then X7 else X5) (if ((((nth (Cf key) ((254-j6)/8))>>>((254-j6)%8))&&&1#8)==1#8)=true then X8 else X6))),(if ((((nth (Cf key) ((254-j6)/8))>>>((254-j6)%8))&&&1#8)==1#8)=true then (E7 (if ((((nth (Cf key) ((254-j6)/8))>>>((254-j6)%8))&&&1#8)==1#8)=true then X7 else X5) (if ((((nth (Cf key) ((254-j6)/8))>>>((254-j6)%8))&&&1#8)==1#8)=true then X8 else X6)) else (E8 (if ((((nth (Cf key) ((254-j6)/8))>>>((254-j6)%8))&&&1#8)==1#8)=true then X7 else X5) (if ((((nth (Cf key) ((254-j6)/8))>>>((254-j6)%8))&&&1#8)==1#8)=true then X8 else X6) (if ((((nth (Cf key) ((254-j6)/8))>>>((254-j6)%8))&&&1#8)==1#8)=true then X5 else X7) (if ((((nth (Cf key) ((254-j6)/8))>>>((254-j6)%8))&&&1#8)==1#8)=true then X6 else X8))),(if ((((nth (Cf key) ((254-j6)/8))>>>((254-j6)%8))&&&1#8)==1#8)=true then (EU (if ((((nth (Cf key) ((254-j6)/8))>>>((254-j6)%8))&&&1#8)==1#8)=true then X7 else X5) (if ((((nth (Cf key) ((254-j6)/8))>>>((254-j6)%8))&&&1#8)==1#8)=true then X8 else X6)) else (ER place (if ((((nth (Cf key) ((254-j6)/8))>>>((254-j6)%8))&&&1#8)==1#8)=true then X7 else X5) (if ((((nth (Cf key) ((254-j6)/8))>>>((254-j6)%8))&&&1#8)==1#8)=true then X8 else X6) (if ((((nth (Cf key) ((254-j6)/8))>>>((254-j6)%8))&&&1#8)==1#8)=true then X5 else X7) (if ((((nth (Cf key) ((254-j6)/8))>>>((254-j6)%8))&&&1#8)==1#8)=true then X6 else X8))))
noncomputable def A4(key place:AB 8):Nat→AB 64×AB 64×AB 64×AB 64
 |0=>(Lt 1#64,Lt 0#64,gu (put place 31 ((nth place 31)&&&127#8)),Lt 1#64)
 |j6+1=>Kq key place (A4 key place j6).1 (A4 key place j6).2.1 (A4 key place j6).2.2.1 (A4 key place j6).2.2.2 j6
theorem H0(key place:AB 8)(_hkey:key.length=32)(_hplace:place.length=32)(j6:Nat):(A4 key place j6).1.length=5∧(A4 key place j6).2.1.length=5∧(A4 key place j6).2.2.1.length=5∧(A4 key place j6).2.2.2.length=5:=by
 induction j6 with
 |zero=>refine ⟨?_,?_,?_,?_⟩<;>(simp (maxDischargeDepth:=9) [A4, *];done)
 |succ j6 ih=>
  obtain ⟨ih0,ih1,ih2,ih3⟩:=ih
  rw [A4.eq_2,Kq]
  refine ⟨?_,?_,?_,?_⟩<;>(split<;>first | (simp (maxDischargeDepth:=9) [Ob,Np,PJ,Nw, *];done) | (simp (maxDischargeDepth:=9) [Ob,Np,PJ,Nw, *];omega))
theorem PB(key place:AB 8)(hkey:key.length=32)(hplace:place.length=32)(j6:Nat):(A4 key place j6).1.length=5:=(H0 key place hkey hplace j6).1
theorem N7(key place:AB 8)(hkey:key.length=32)(hplace:place.length=32)(j6:Nat):(A4 key place j6).2.1.length=5:=(H0 key place hkey hplace j6).2.1
theorem PR(key place:AB 8)(hkey:key.length=32)(hplace:place.length=32)(j6:Nat):(A4 key place j6).2.2.1.length=5:=(H0 key place hkey hplace j6).2.2.1
theorem OV(key place:AB 8)(hkey:key.length=32)(hplace:place.length=32)(j6:Nat):(A4 key place j6).2.2.2.length=5:=(H0 key place hkey hplace j6).2.2.2
noncomputable def Vu(key place:AB 8):AB 8:=zc (Au ((A4 key place 255).1) (W9 ((A4 key place 255).2.1)))
theorem Wt{p:Prop}(h:p:=by first | exact (rfl:_=0) | exact (rfl:_=1) | exact (rfl:_=2) | exact (rfl:_=3) | exact (rfl:_=4) | exact (rfl:_=5) | exact (rfl:_=6) | exact (rfl:_=7) | exact (rfl:_=8) | exact (rfl:_=9) | exact (rfl:_=10) | exact (rfl:_=11) | exact (rfl:_=12) | exact (rfl:_=13) | exact (rfl:_=14) | exact (rfl:_=15) | exact (rfl:_=16) | exact (rfl:_=17) | exact (rfl:_=18) | exact (rfl:_=19) | exact (rfl:_=20) | exact (rfl:_=21) | exact (rfl:_=22) | exact (rfl:_=23) | exact (rfl:_=24) | exact (rfl:_=25) | exact (rfl:_=26) | exact (rfl:_=27) | exact (rfl:_=28) | exact (rfl:_=29) | exact (rfl:_=30) | exact (rfl:_=31) | exact (rfl:_=32) | exact (rfl:_=33) | exact (rfl:_=34) | exact (rfl:_=35) | exact (rfl:_=36) | exact (rfl:_=37) | exact (rfl:_=38) | exact (rfl:_=39)):p:=h
theorem EJ(k:r)(h:Hid r→g:=by intro h;refine Bm rfl rfl rfl rfl Fe C1 C1 AM ?_;refine AN ?_;exact h.out):g:=h ⟨k⟩
theorem pK(k:r)(h:Hid r→g:=by intro h;refine rl (AY (bs:=[]) (aV 1#64) Hs K_ K_ rfl BT) (fun _=>rfl) rfl ?_;exact h.out):g:=h ⟨k⟩
theorem I2(k:r)(h:Hid r→g:=by intro h;refine qn rfl rfl rfl rfl Fe C1 C1 AM ?_;exact h.out):g:=h ⟨k⟩
theorem qu(k:r)(h:Hid r→g:=by intro h;refine ir [] [] [(4,[3]),(5,[4]),(6,[5]),(7,[6])] [3,4,5,6] 0 _ AM mixed K_ K_ K_ ?_;exact h.out):g:=h ⟨k⟩
theorem Sn(k:r)(h:Hid r→g:=by intro h;refine U0 [] K_ (Bj rfl rfl GM Fe C1 D_) rfl ?_;exact h.out):g:=h ⟨k⟩
theorem Cc(k:r)(h:Hid r→g:=by intro h;refine AE (Bj rfl rfl GM Fe C1 D_) rfl ?_;refine AE (Bj rfl rfl GM Fe C1 D_) rfl ?_;exact h.out):g:=h ⟨k⟩
theorem KI(k:r)(h:Hid r→g:=by intro h;refine G2 (BO PU Wt) AM rfl ?_;exact h.out):g:=h ⟨k⟩
theorem lA(key place:AB 8)(hkey:key.length=32)(hplace:place.length=32):Ev prog (.call 115 [B4 (key),B4 (place)] []) (.val (B4 (Vu key place)) []):=by
 have hP:=Hid.mk (Vu.eq_1 key place)
 refine AG func115 rfl ntmps115 rfl Wt ?_;refine AK ?_;refine BE (Xk yy Wt) AM rfl ?_;refine BE (Xk yy Wt) AM rfl ?_;refine BE (BO QX Wt) AM rfl ?_;refine AN ?_;have hQ1:(Cf key).length=32:=An
 refine CC ?_;refine A7 (sC key AD) qJ ?_;refine BE (BO QX Wt) AM rfl ?_;refine F5 ?_;refine AQ ?_;refine IE ?_;refine Qs ?_;refine PA ?_;refine C3 ?_;refine AN ?_;have hQ2:(gu (put place 31 ((nth place 31)&&&127#8))).length=5:=An
 refine CC ?_;refine A7 (xk (put place 31 ((nth place 31)&&&127#8)) AD) RC ?_;refine BE (BO PU Wt) AM rfl ?_;refine EJ ?_;have hQ3:(Lt 1#64).length=5:=An
 have hQ4:(Lt 0#64).length=5:=An
 refine S_ ?_;refine ir [.row true (.a64 (Aj 5)),.row true (.a64 (Aj 5)),.row true (.a64 (Aj 5)),.row true (.a64 (Aj 5))] [(4,5),(5,6),(6,7),(7,8)] [(8,[5]),(9,[6]),(10,[7]),(11,[8])] [5,6,7,8] 0 _ AM mixed K_ K_ K_ ?_;refine pK ?_;refine rl (AY (bs:=[]) (aV 0#64) Hs K_ K_ rfl BT) (fun _=>rfl) rfl ?_
 refine U0 [5,6] K_ (Bj rfl rfl GM Fe C1 D_) rfl ?_;refine pK ?_;refine Up 5 PU rfl rfl rfl K_ ?_;refine Up 6 PU rfl rfl rfl K_ ?_;refine Up 7 PU rfl rfl rfl K_ ?_;refine Up 8 PU rfl rfl rfl K_ ?_;refine I2 ?_;refine I2 ?_;refine I2 ?_;refine I2 ?_;refine pu ?_;refine AK ?_;refine Ay ?_;refine AU [4,5,6,7,8,9,10,11] (fun (zz:Nat×AB 64×AB 64×AB 64×AB 64)=>⟨115,AS [4,5,6,7,8,9,10,11] [Al 0,Al 1,Al 2,Al 3,Al 4,Al 5,Al 6,Ae (((254:Nat):Int)-((zz.1:Nat):Int))],[CM (Ag 32),CM (Cf key),CH (gu (put place 31 ((nth place 31)&&&127#8))),CH (zz.2.1),CH (zz.2.2.1),CH (zz.2.2.2.1),CH (zz.2.2.2.2)]⟩) (fun j6=>(j6,A4 key place j6)) (255) K_ ?_ ?_
 ·intro j6 hj6
  try dsimp only
  have hX5:(A4 key place j6).1.length=5:=by rw [PB key place hkey hplace _];try omega
  have hX6:(A4 key place j6).2.1.length=5:=by rw [N7 key place hkey hplace _];try omega
  have hX7:(A4 key place j6).2.2.1.length=5:=by rw [PR key place hkey hplace _];try omega
  have hX8:(A4 key place j6).2.2.2.length=5:=by rw [OV key place hkey hplace _];try omega
  rw [A4.eq_2,Kq]
  generalize A4 key place j6=Z9 at*
  obtain ⟨X5,X6,X7,X8⟩:=Z9
  try dsimp only at*
  rw [show ((254:Nat):Int)-((j6:Nat):Int)=((254-j6:Nat):Int) from by omega]
  refine A9 ?_;refine R1 ?_;refine AZ ?_;refine Nh ?_;refine Q5 ?_;refine GZ ?_;refine AR ?_;refine Oe ?_;refine AA (RX rfl rfl) rfl ?_;refine AA (Ng (b:=1#8) rfl rfl) rfl ?_;refine TN ?_;refine Ab ?_;refine FA ?_;refine I1 [4,5,6,7,8,9,10,11,12] (fun (zz:AB 64×AB 64×AB 64×AB 64)=>⟨115,AS [4,5,6,7,8,9,10,11,12] [Al 0,Al 1,Al 2,Al 3,Al 4,Al 5,Al 6,Ae (((254-j6:Nat):Int)),.c (.val (.bool (((((nth (Cf key) ((254-j6)/8))>>>((254-j6)%8))&&&1#8)==1#8))))],[CM (Ag 32),CM (Cf key),CH (gu (put place 31 ((nth place 31)&&&127#8))),CH (zz.1),CH (zz.2.1),CH (zz.2.2.1),CH (zz.2.2.2)]⟩) ((if ((((nth (Cf key) ((254-j6)/8))>>>((254-j6)%8))&&&1#8)==1#8)=true then X7 else X5,if ((((nth (Cf key) ((254-j6)/8))>>>((254-j6)%8))&&&1#8)==1#8)=true then X8 else X6,if ((((nth (Cf key) ((254-j6)/8))>>>((254-j6)%8))&&&1#8)==1#8)=true then X5 else X7,if ((((nth (Cf key) ((254-j6)/8))>>>((254-j6)%8))&&&1#8)==1#8)=true then X6 else X8)) rfl (fun hb=>?_) (fun hb=>?_) ?_
  ·refine S_ ?_
   refine qu ?_;refine Sn ?_;refine U0 [3] K_ (Bj rfl rfl GM Fe C1 D_) rfl ?_;refine Sn ?_;refine Sn ?_;refine I2 ?_;refine I2 ?_;refine I2 ?_;refine I2 ?_;refine pu ?_;refine S_ ?_;refine ⟨(X7,X8,X5,X6),K_,?_⟩
   (simp only [if_pos (hb)];done)
  ·refine S_ ?_
   refine ⟨(X5,X6,X7,X8),K_,?_⟩
   (simp only [hb,Bool.false_eq_true,if_false];done)
  have hJ10:(if ((((nth (Cf key) ((254-j6)/8))>>>((254-j6)%8))&&&1#8)==1#8)=true then X7 else X5).length=5:=by split<;>simp [*]
  generalize (if ((((nth (Cf key) ((254-j6)/8))>>>((254-j6)%8))&&&1#8)==1#8)=true then X7 else X5)=J10 at*
  have hJ11:(if ((((nth (Cf key) ((254-j6)/8))>>>((254-j6)%8))&&&1#8)==1#8)=true then X8 else X6).length=5:=by split<;>simp [*]
  generalize (if ((((nth (Cf key) ((254-j6)/8))>>>((254-j6)%8))&&&1#8)==1#8)=true then X8 else X6)=J11 at*
  have hJ12:(if ((((nth (Cf key) ((254-j6)/8))>>>((254-j6)%8))&&&1#8)==1#8)=true then X5 else X7).length=5:=by split<;>simp [*]
  generalize (if ((((nth (Cf key) ((254-j6)/8))>>>((254-j6)%8))&&&1#8)==1#8)=true then X5 else X7)=J12 at*
  have hJ13:(if ((((nth (Cf key) ((254-j6)/8))>>>((254-j6)%8))&&&1#8)==1#8)=true then X6 else X8).length=5:=by split<;>simp [*]
  generalize (if ((((nth (Cf key) ((254-j6)/8))>>>((254-j6)%8))&&&1#8)==1#8)=true then X6 else X8)=J13 at*
  have hQ14:(Aw J10 J11).length=5:=An
  have hQ15:(Ax J10 J11).length=5:=An
  have hQ16:(Aw J12 J13).length=5:=An
  have hQ17:(Ax J12 J13).length=5:=An
  refine S_ ?_;refine OF ?_;refine Cc ?_;refine Am (U7 J10 J11 AD AD) Gy ?_;refine Cc ?_;refine Am (Uv J10 J11 AD AD) Ht ?_;refine Cc ?_;refine Am (U7 J12 J13 AD AD) Gy ?_;refine Cc ?_;refine Am (Uv J12 J13 AD AD) Ht ?_;refine KI ?_;refine KI ?_;refine KI ?_;refine KI ?_;refine Gv ?_;refine Hy ?_;refine Hy ?_;refine EJ ?_;have hQ18:(Au (Aw J10 J11) (Aw J10 J11)).length=5:=An
  have hQ19:(Au (Ax J10 J11) (Ax J10 J11)).length=5:=An
  have hQ20:(Au (Ax J12 J13) (Aw J10 J11)).length=5:=An
  have hQ21:(Au (Aw J12 J13) (Ax J10 J11)).length=5:=An
  refine S_ ?_;refine OF ?_;refine Cc ?_;refine Am (Hp (Aw J10 J11) (Aw J10 J11) AD AD) Bb ?_;refine Cc ?_;refine Am (Hp (Ax J10 J11) (Ax J10 J11) AD AD) Bb ?_;refine Cc ?_;refine Am (Hp (Ax J12 J13) (Aw J10 J11) AD AD) Bb ?_;refine Cc ?_;refine Am (Hp (Aw J12 J13) (Ax J10 J11) AD AD) Bb ?_;refine KI ?_;refine KI ?_;refine KI ?_;refine KI ?_;refine Gv ?_;refine Hy ?_;refine Hy ?_;refine EJ ?_;have hQ22:(Ax (Au (Aw J10 J11) (Aw J10 J11)) (Au (Ax J10 J11) (Ax J10 J11))).length=5:=An
  have hQ23:(Aw (Au (Ax J12 J13) (Aw J10 J11)) (Au (Aw J12 J13) (Ax J10 J11))).length=5:=An
  have hQ24:(Ax (Au (Ax J12 J13) (Aw J10 J11)) (Au (Aw J12 J13) (Ax J10 J11))).length=5:=An
  refine S_ ?_;refine KL ?_;refine Cc ?_;refine Am (Uv (Au (Aw J10 J11) (Aw J10 J11)) (Au (Ax J10 J11) (Ax J10 J11)) AD AD) Ht ?_;refine Cc ?_;refine Am (U7 (Au (Ax J12 J13) (Aw J10 J11)) (Au (Aw J12 J13) (Ax J10 J11)) AD AD) Gy ?_;refine Cc ?_;refine Am (Uv (Au (Ax J12 J13) (Aw J10 J11)) (Au (Aw J12 J13) (Ax J10 J11)) AD AD) Ht ?_;refine KI ?_;refine KI ?_;refine KI ?_;refine Gv ?_;refine Hy ?_;refine EJ ?_;have hQ25:(Au (Aw (Au (Ax J12 J13) (Aw J10 J11)) (Au (Aw J12 J13) (Ax J10 J11))) (Aw (Au (Ax J12 J13) (Aw J10 J11)) (Au (Aw J12 J13) (Ax J10 J11)))).length=5:=An
  have hQ26:(Au (Ax (Au (Ax J12 J13) (Aw J10 J11)) (Au (Aw J12 J13) (Ax J10 J11))) (Ax (Au (Ax J12 J13) (Aw J10 J11)) (Au (Aw J12 J13) (Ax J10 J11)))).length=5:=An
  have hQ27:(Au (gu (put place 31 ((nth place 31)&&&127#8))) (Au (Ax (Au (Ax J12 J13) (Aw J10 J11)) (Au (Aw J12 J13) (Ax J10 J11))) (Ax (Au (Ax J12 J13) (Aw J10 J11)) (Au (Aw J12 J13) (Ax J10 J11))))).length=5:=An
  refine S_ ?_;refine I7 ?_;refine Cc ?_;refine Am (Hp (Aw (Au (Ax J12 J13) (Aw J10 J11)) (Au (Aw J12 J13) (Ax J10 J11))) (Aw (Au (Ax J12 J13) (Aw J10 J11)) (Au (Aw J12 J13) (Ax J10 J11))) AD AD) Bb ?_;refine Cc ?_;refine Cu ?_;refine Am (Hp (Ax (Au (Ax J12 J13) (Aw J10 J11)) (Au (Aw J12 J13) (Ax J10 J11))) (Ax (Au (Ax J12 J13) (Aw J10 J11)) (Au (Aw J12 J13) (Ax J10 J11))) AD AD) Bb ?_;refine Am (Hp (gu (put place 31 ((nth place 31)&&&127#8))) (Au (Ax (Au (Ax J12 J13) (Aw J10 J11)) (Au (Aw J12 J13) (Ax J10 J11))) (Ax (Au (Ax J12 J13) (Aw J10 J11)) (Au (Aw J12 J13) (Ax J10 J11)))) AD AD) Bb ?_;refine Gv ?_;refine EJ ?_;rw [show (Au (Aw (Au (Ax J12 J13) (Aw J10 J11)) (Au (Aw J12 J13) (Ax J10 J11))) (Aw (Au (Ax J12 J13) (Aw J10 J11)) (Au (Aw J12 J13) (Ax J10 J11))))=E8 J10 J11 J12 J13 from rfl]
  have hX28:(E8 J10 J11 J12 J13).length=5:=An
  generalize E8 J10 J11 J12 J13=X28 at*
  rw [show (Au (gu (put place 31 ((nth place 31)&&&127#8))) (Au (Ax (Au (Ax J12 J13) (Aw J10 J11)) (Au (Aw J12 J13) (Ax J10 J11))) (Ax (Au (Ax J12 J13) (Aw J10 J11)) (Au (Aw J12 J13) (Ax J10 J11)))))=ER place J10 J11 J12 J13 from rfl]
  have hX29:(ER place J10 J11 J12 J13).length=5:=An
  generalize ER place J10 J11 J12 J13=X29 at*
  have hQ30:(Au (Au (Aw J10 J11) (Aw J10 J11)) (Au (Ax J10 J11) (Ax J10 J11))).length=5:=An
  have hQ31:(Lt 121665#64).length=5:=An
  have hQ32:(Au (Lt 121665#64) (Ax (Au (Aw J10 J11) (Aw J10 J11)) (Au (Ax J10 J11) (Ax J10 J11)))).length=5:=An
  have hQ33:(Aw (Au (Aw J10 J11) (Aw J10 J11)) (Au (Lt 121665#64) (Ax (Au (Aw J10 J11) (Aw J10 J11)) (Au (Ax J10 J11) (Ax J10 J11))))).length=5:=An
  have hQ34:(Au (Ax (Au (Aw J10 J11) (Aw J10 J11)) (Au (Ax J10 J11) (Ax J10 J11))) (Aw (Au (Aw J10 J11) (Aw J10 J11)) (Au (Lt 121665#64) (Ax (Au (Aw J10 J11) (Aw J10 J11)) (Au (Ax J10 J11) (Ax J10 J11)))))).length=5:=An
  refine S_ ?_;refine Qe ?_;refine Cc ?_;refine Am (Hp (Au (Aw J10 J11) (Aw J10 J11)) (Au (Ax J10 J11) (Ax J10 J11)) AD AD) Bb ?_;refine Cc ?_;refine Am (aV 121665#64) Hs ?_;refine Cu ?_;refine Am (Hp (Lt 121665#64) (Ax (Au (Aw J10 J11) (Aw J10 J11)) (Au (Ax J10 J11) (Ax J10 J11))) AD AD) Bb ?_;refine Am (U7 (Au (Aw J10 J11) (Aw J10 J11)) (Au (Lt 121665#64) (Ax (Au (Aw J10 J11) (Aw J10 J11)) (Au (Ax J10 J11) (Ax J10 J11)))) AD AD) Gy ?_;refine Am (Hp (Ax (Au (Aw J10 J11) (Aw J10 J11)) (Au (Ax J10 J11) (Ax J10 J11))) (Aw (Au (Aw J10 J11) (Aw J10 J11)) (Au (Lt 121665#64) (Ax (Au (Aw J10 J11) (Aw J10 J11)) (Au (Ax J10 J11) (Ax J10 J11))))) AD AD) Bb ?_;refine Gv ?_;refine EJ ?_;rw [show (Au (Au (Aw J10 J11) (Aw J10 J11)) (Au (Ax J10 J11) (Ax J10 J11)))=E7 J10 J11 from rfl]
  have hX35:(E7 J10 J11).length=5:=An
  generalize E7 J10 J11=X35 at*
  rw [show (Au (Ax (Au (Aw J10 J11) (Aw J10 J11)) (Au (Ax J10 J11) (Ax J10 J11))) (Aw (Au (Aw J10 J11) (Aw J10 J11)) (Au (Lt 121665#64) (Ax (Au (Aw J10 J11) (Aw J10 J11)) (Au (Ax J10 J11) (Ax J10 J11))))))=EU J10 J11 from rfl]
  have hX36:(EU J10 J11).length=5:=An
  generalize EU J10 J11=X36 at*
  refine A9 ?_;refine FA ?_;refine I1 [4,5,6,7,8,9,10,11] (fun (zz:AB 64×AB 64×AB 64×AB 64)=>⟨115,AS [4,5,6,7,8,9,10,11] [Al 0,Al 1,Al 2,Al 3,Al 4,Al 5,Al 6,Ae (((254-j6:Nat):Int))],[CM (Ag 32),CM (Cf key),CH (gu (put place 31 ((nth place 31)&&&127#8))),CH (zz.1),CH (zz.2.1),CH (zz.2.2.1),CH (zz.2.2.2)]⟩) ((if ((((nth (Cf key) ((254-j6)/8))>>>((254-j6)%8))&&&1#8)==1#8)=true then X28 else X35,if ((((nth (Cf key) ((254-j6)/8))>>>((254-j6)%8))&&&1#8)==1#8)=true then X29 else X36,if ((((nth (Cf key) ((254-j6)/8))>>>((254-j6)%8))&&&1#8)==1#8)=true then X35 else X28,if ((((nth (Cf key) ((254-j6)/8))>>>((254-j6)%8))&&&1#8)==1#8)=true then X36 else X29)) rfl (fun hb=>?_) (fun hb=>?_) ?_
  ·refine S_ ?_
   refine qu ?_;refine Sn ?_;refine U0 [3] K_ (Bj rfl rfl GM Fe C1 D_) rfl ?_;refine Sn ?_;refine Sn ?_;refine I2 ?_;refine I2 ?_;refine I2 ?_;refine I2 ?_;refine pu ?_;refine S_ ?_;refine ⟨(X28,X29,X35,X36),K_,?_⟩
   (simp only [if_pos (hb)];done)
  ·refine S_ ?_
   refine ⟨(X35,X36,X28,X29),K_,?_⟩
   (simp only [hb,Bool.false_eq_true,if_false];done)
  have hJ37:(if ((((nth (Cf key) ((254-j6)/8))>>>((254-j6)%8))&&&1#8)==1#8)=true then X28 else X35).length=5:=by split<;>simp [*]
  generalize (if ((((nth (Cf key) ((254-j6)/8))>>>((254-j6)%8))&&&1#8)==1#8)=true then X28 else X35)=J37 at*
  have hJ38:(if ((((nth (Cf key) ((254-j6)/8))>>>((254-j6)%8))&&&1#8)==1#8)=true then X29 else X36).length=5:=by split<;>simp [*]
  generalize (if ((((nth (Cf key) ((254-j6)/8))>>>((254-j6)%8))&&&1#8)==1#8)=true then X29 else X36)=J38 at*
  have hJ39:(if ((((nth (Cf key) ((254-j6)/8))>>>((254-j6)%8))&&&1#8)==1#8)=true then X35 else X28).length=5:=by split<;>simp [*]
  generalize (if ((((nth (Cf key) ((254-j6)/8))>>>((254-j6)%8))&&&1#8)==1#8)=true then X35 else X28)=J39 at*
  have hJ40:(if ((((nth (Cf key) ((254-j6)/8))>>>((254-j6)%8))&&&1#8)==1#8)=true then X36 else X29).length=5:=by split<;>simp [*]
  generalize (if ((((nth (Cf key) ((254-j6)/8))>>>((254-j6)%8))&&&1#8)==1#8)=true then X36 else X29)=J40 at*
  refine A9 ?_;refine Nv ?_;refine Bc ?_;refine ⟨(j6+1,_),(by
   dsimp only
   rw [show ((254:Nat):Int)-((j6+1:Nat):Int)=((254-j6:Nat):Int)-1 from by omega]
   kernel_rfl),rfl⟩
 ·try dsimp only
  have hY41:(A4 key place 255).1.length=5:=by rw [PB key place hkey hplace _];try omega
  have hY42:(A4 key place 255).2.1.length=5:=by rw [N7 key place hkey hplace _];try omega
  have hY43:(A4 key place 255).2.2.1.length=5:=by rw [PR key place hkey hplace _];try omega
  have hY44:(A4 key place 255).2.2.2.length=5:=by rw [OV key place hkey hplace _];try omega
  generalize A4 key place 255=Z45 at*
  obtain ⟨Y41,Y42,Y43,Y44⟩:=Z45
  try dsimp only at*
  refine A9 ?_;refine QP ?_;refine AN ?_;have hQ46:(W9 Y42).length=5:=An
  have hQ47:(Au Y41 (W9 Y42)).length=5:=An
  have hQ48:(zc (Au Y41 (W9 Y42))).length=32:=An
  refine S_ ?_;refine Ez 5 mixed K_ rfl rfl rfl ?_;refine Cc ?_;refine Am (uF Y42 AD) Ss ?_;refine Am (Hp Y41 (W9 Y42) AD AD) Bb ?_;refine Am (wk (Au Y41 (W9 Y42)) AD) LV ?_;refine Bn ?_;refine Em ?_;rw [hP.out]
  exact FC
attribute [irreducible] Vu
def D8(b:AB 8):Nat→Nat
 |0=>0
 |n+1=>D8 b n+(nth b n).toNat*256^n
theorem O2(b:AB 8)(n:Nat):D8 b n<256^n:=by
 induction n with
 |zero=>exact Nat.one_pos
 |succ n ih=>
  rw [D8,Nat.pow_succ]
  have h:=(nth b n).isLt
  have:(nth b n).toNat*256^n≤255*256^n:=Nat.mul_le_mul_right _ O_
  omega
theorem MA(b:AB 8)(n i:Nat)(h:i<n):D8 b n/256^i%256=(nth b i).toNat:=by
 induction n with
 |zero=>omega
 |succ n ih=>
  rw [D8]
  have hp:0<256^i:=Nat.pow_pos D_
  by_cases e:i=n
  ·subst e
   rw [Nat.add_mul_div_right _ _ hp,Nat.div_eq_of_lt (O2 b i),Nat.zero_add,Nat.mod_eq_of_lt (nth b i).isLt]
  ·obtain ⟨k,hk⟩:∃k,n=i+(k+1):=⟨n-i-1,by omega⟩
   rw [←ih O_,hk,Nat.pow_add,Nat.pow_succ,show (nth b (i+(k+1))).toNat*(256^i*(256^k*256))=((nth b (i+(k+1))).toNat*256^k*256)*256^i from by grobner,Nat.add_mul_div_right _ _ hp,Nat.add_mul_mod_self_right]
def XZ(n:Nat):AB 8:=(List.range 32).map fun i=>BitVec.ofNat 8 (n/256^i)
@[simp] theorem Kr(n:Nat):(XZ n).length=32:=by simp [XZ]
theorem SV(n i:Nat)(h:i<32):nth (XZ n) i=BitVec.ofNat 8 (n/256^i):=by
 rw [Qj _ _ (by rw [Kr];exact h)]
 simp [XZ]
theorem QB(n k:Nat)(h:k≤32):D8 (XZ n) k=n%256^k:=by
 induction k with
 |zero=>rw [D8,Nat.pow_zero,Nat.mod_one]
 |succ k ih=>
  have e:= @Nat.mod_mul (256^k) 256 n
  rw [D8,ih O_,SV _ _ O_,BitVec.toNat_ofNat,show (256:Nat)^(k+1)=256^k*256 from Nat.pow_succ ..,e,Nat.mul_comm (256^k)]
theorem im{b:AB 8}(h:b.length=32):XZ (D8 b 32)=b:=by
 refine Vx (by rw [Kr,h]) fun i hi=>?_
 rw [Kr] at hi
 rw [SV _ _ hi]
 apply BitVec.eq_of_toNat_eq
 rw [BitVec.toNat_ofNat]
 exact MA b 32 i hi
def jq(b:AB 8)(t:Nat):Nat→Nat
 |0=>0
 |m+1=>jq b t m+(nth b (8*t+m)).toNat*256^m
theorem ym(b:AB 8)(t m:Nat):jq b t m<256^m:=by
 induction m with
 |zero=>exact Nat.one_pos
 |succ m ih=>
  rw [jq,Nat.pow_succ]
  have h:=(nth b (8*t+m)).isLt
  have:(nth b (8*t+m)).toNat*256^m≤255*256^m:=Nat.mul_le_mul_right _ O_
  omega
theorem jW(b:AB 8):D8 b 32=jq b 0 8+jq b 1 8*18446744073709551616+jq b 2 8*340282366920938463463374607431768211456+jq b 3 8*6277101735386680763835789423207666416102355444464034512896:=by
 simp only [D8,jq,Nat.mul_zero,Nat.zero_add,Nat.reduceMul,Nat.reduceAdd,Nat.reducePow]
 omega
theorem se(x:BitVec 64)(b:BitVec 8)(k:Nat)(hk:k<8)(hx:x.toNat<256^k):(x ||| (b.setWidth 64<<<(8*k))).toNat=x.toNat+b.toNat*256^k:=by
 have e:(256:Nat)^k=2^(8*k):=by rw [Nat.pow_mul]
 rw [e] at hx ⊢
 have hb:=b.isLt
 have hp:b.toNat*2^(8*k)<2^64:=by
  have h1:b.toNat*2^(8*k)<2^8*2^(8*k):=Nat.mul_lt_mul_of_pos_right hb (Nat.pow_pos D_)
  rw [←Nat.pow_add] at h1
  exact Nat.lt_of_lt_of_le h1 (Nat.pow_le_pow_right D_ O_)
 rw [BitVec.toNat_or,BitVec.toNat_shiftLeft,BitVec.toNat_setWidth,Nat.mod_eq_of_lt (show b.toNat<2^64 by omega),Nat.shiftLeft_eq,Nat.mod_eq_of_lt hp,Nat.or_comm,←Nat.shiftLeft_eq,←Nat.shiftLeft_add_eq_or_of_lt hx,Nat.shiftLeft_eq,Nat.add_comm]
theorem D3(x:BitVec 64):(x&&&2251799813685247#64).toNat=x.toNat%2251799813685248:=by
 rw [BitVec.toNat_and]
 exact Nat.and_two_pow_sub_one_eq_mod x.toNat 51
end Go.Proofs.YtmbepikkgkcgkaaGreatDoor
namespace Go.Proofs.YtmbepikkgkcgkaaGreatDoor
variable {g r : Prop}
open Go.Proofs.Tryz
def Jg(p:Nat):Prop:=1<p∧ ∀m,m ∣ p→m=1∨m=p
theorem Jg.pos{p:Nat}(h:Jg p):0<p:=by have:=h.1;omega
theorem Jg.cop{p a:Nat}(h:Jg p)(ha:¬p ∣ a):Nat.gcd p a=1:=by
 rcases h.2 _ (Nat.gcd_dvd_left p a) with h1 | h1
 ·exact h1
 ·exact absurd (h1 ▸ Nat.gcd_dvd_right p a) ha
theorem Jg.euclid{p a b:Nat}(h:Jg p)(hd:p ∣ a*b):p ∣ a∨p ∣ b:=by
 by_cases ha:p ∣ a
 ·exact .inl ha
 ·exact .inr (Nat.Coprime.dvd_of_dvd_mul_left (h.cop ha) hd)
def W1:Nat→Nat→Nat
 |_,0=>1
 |0,_+1=>0
 |n+1,k+1=>W1 n k+W1 n (k+1)
theorem Ru(n:Nat):W1 n 0=1:=by cases n<;>rfl
theorem gV:∀n k:Nat,n<k→W1 n k=0:=by
 intro n
 induction n with
 |zero=>intro k hk;cases k with
  |zero=>omega
  |succ k=>rfl
 |succ n ih=>intro k hk;cases k with
  |zero=>omega
  |succ k=>rw [W1,ih k O_,ih (k+1) O_]
theorem oV(n:Nat):W1 n n=1:=by
 induction n with
 |zero=>rfl
 |succ n ih=>rw [W1,ih,gV n (n+1) O_]
theorem tv:∀n k:Nat,(k+1)*W1 (n+1) (k+1)=(n+1)*W1 n k:=by
 intro n
 induction n with
 |zero=>
  intro k
  cases k with
  |zero=>rfl
  |succ k=>simp [W1]
 |succ n ih=>
  intro k
  cases k with
  |zero=>
   have h:=ih 0
   rw [Ru] at h ⊢
   show (0+1)*(W1 (n+1) 0+W1 (n+1) (0+1))=_
   rw [Ru]
   omega
  |succ k=>
   have h1:=ih k
   have h2:=ih (k+1)
   rw [W1,Nat.mul_add,h2]
   have h3:W1 (n+1) (k+1)=W1 n k+W1 n (k+1):=rfl
   rw [h3] at h1 ⊢
   grind
def RL(a n:Nat):Nat→Nat
 |0=>0
 |m+1=>RL a n m+W1 n m*a^m
theorem lY(a n:Nat):∀m,RL a (n+1) (m+1)=RL a n (m+1)+a*RL a n m:=by
 intro m
 induction m with
 |zero=>simp [RL,Ru]
 |succ m ih=>
  rw [RL,ih]
  show _=RL a n (m+1)+W1 n (m+1)*a^(m+1)+a*(RL a n m+W1 n m*a^m)
  rw [W1,Nat.pow_succ]
  grind
theorem AAj(a n:Nat):(a+1)^n=RL a n (n+1):=by
 induction n with
 |zero=>rfl
 |succ n ih=>
  rw [Nat.pow_succ,ih,lY]
  rw [show RL a n (n+1+1)=RL a n (n+1)+W1 n (n+1)*a^(n+1) from rfl,gV n (n+1) O_]
  grind
theorem tT{p:Nat}(h:Jg p)(k:Nat)(h1:0<k)(h2:k<p):p ∣ W1 p k:=by
 obtain ⟨q,rfl⟩:∃q,p=q+1:=⟨p-1,by omega⟩
 obtain ⟨j,rfl⟩:∃j,k=j+1:=⟨k-1,by omega⟩
 have:=tv q j
 rcases h.euclid (a:=j+1) (b:=W1 (q+1) (j+1)) (by rw [this];exact Nat.dvd_mul_right _ _) with h3 | h3
 ·have:=Nat.le_of_dvd O_ h3;omega
 ·exact h3
theorem rE{p:Nat}(h:Jg p)(a:Nat):∀m,m<p→RL a p (m+1)%p=1%p:=by
 intro m
 induction m with
 |zero=>intro _;simp [RL,Ru]
 |succ m ih=>
  intro hm
  obtain ⟨c,hc⟩:=tT h (m+1) O_ hm
  rw [RL,hc,Nat.mul_assoc,Nat.add_mul_mod_self_left,ih O_]
theorem wT{p:Nat}(h:Jg p)(a:Nat):a^p%p=a%p:=by
 induction a with
 |zero=>rw [Nat.zero_pow h.pos]
 |succ a ih=>
  obtain ⟨q,rfl⟩:∃q,p=q+1:=⟨p-1,by have:=h.pos;omega⟩
  rw [AAj,RL,oV,Nat.one_mul,Nat.add_mod,rE h a q O_,ih,←Nat.add_mod,Nat.add_comm]
theorem fY{p x y:Nat}(h:x%p=y%p):p ∣ x-y:=Nat.dvd_of_mod_eq_zero (Nat.sub_mod_eq_zero_of_mod_eq h)
theorem fT{p x y:Nat}(h:p ∣ x-y)(hl:y≤x):x%p=y%p:=by
 obtain ⟨c,hc⟩:=h
 rw [show x=y+p*c from by omega,Nat.add_mul_mod_self_left]
theorem Jg.cancel{p a x y:Nat}(h:Jg p)(ha:¬p ∣ a)(he:a*x%p=a*y%p):x%p=y%p:=by
 have key:∀x y:Nat,y≤x→a*x%p=a*y%p→x%p=y%p:=fun x y hl he=>by
  have:=fY he
  rw [←Nat.mul_sub] at this
  rcases h.euclid this with h1 | h1
  ·exact absurd h1 ha
  ·exact fT h1 hl
 rcases Nat.le_total y x with hl | hl
 ·exact key x y hl he
 ·exact (key y x hl he.symm).symm
theorem YV{p a:Nat}(h:Jg p)(ha:¬p ∣ a):a^(p-1)%p=1:=by
 have h1:=wT h a
 obtain ⟨q,rfl⟩:∃q,p=q+1:=⟨p-1,by have:=h.pos;omega⟩
 rw [Nat.add_sub_cancel]
 have h2:a*a^q%(q+1)=a*1%(q+1):=by rw [←Nat.pow_succ',h1,Nat.mul_one]
 have h3:=h.cancel ha h2
 rw [h3,Nat.mod_eq_of_lt h.1]
theorem UM{n a k:Nat}(m:Nat)(hn:1<n)(h:a^k%n=1):a^(k*m)%n=1:=by
 rw [Nat.pow_mul,Nat.pow_mod,h,Nat.one_pow,Nat.mod_eq_of_lt hn]
theorem tq{n a:Nat}(hn:1<n):∀j k:Nat,a^j%n=1→a^k%n=1→a^Nat.gcd j k%n=1:=by
 intro j
 induction j using Nat.strongRecOn with
 |_ j ih=>
  intro k hj hk
  cases j with
  |zero=>rwa [Nat.gcd_zero_left]
  |succ j=>
   rw [Nat.gcd_succ]
   refine ih (k%(j+1)) (Nat.mod_lt _ O_) (j+1) ?_ hj
   have h1:a^k=a^((j+1)*(k/(j+1)))*a^(k%(j+1)):=by rw [←Nat.pow_add,Nat.div_add_mod]
   rw [h1,Nat.mul_mod,UM _ hn hj,Nat.one_mul,Nat.mod_mod] at hk
   exact hk
theorem WN:∀n:Nat,1<n→ ∃r,Jg r∧r ∣ n:=by
 intro n
 induction n using Nat.strongRecOn with
 |_ n ih=>
  intro hn
  by_cases h:Jg n
  ·exact ⟨n,h,Nat.dvd_refl n⟩
  ·have:∃m,m ∣ n∧m≠1∧m≠n:=by
    refine Classical.byContradiction fun hc=>h ⟨hn,fun m hm=>?_⟩
    refine Classical.byContradiction fun hc2=>hc ⟨m,hm,fun e=>hc2 (.inl e),fun e=>hc2 (.inr e)⟩
   obtain ⟨m,h1,h2,h3⟩:=this
   have hm0:0<m:=Nat.pos_of_dvd_of_pos h1 O_
   have hml:m≤n:=Nat.le_of_dvd O_ h1
   obtain ⟨r,hr,hrm⟩:=ih m O_ O_
   exact ⟨r,hr,Nat.dvd_trans hrm h1⟩
theorem Tm{n:Nat}(hn:1<n)(h:∀r,Jg r→r ∣ n→n<r*r):Jg n:=by
 refine ⟨hn,fun m hm=>?_⟩
 refine Classical.byContradiction fun hc=>?_
 obtain ⟨k,hk⟩:=hm
 have hm1:m≠1:=fun e=>hc (.inl e)
 have hmn:m≠n:=fun e=>hc (.inr e)
 have hm0:m≠0:=fun e=>by subst e;omega
 have hk0:k≠0:=fun e=>by subst e;omega
 have hk1:k≠1:=fun e=>by subst e;omega
 rcases Nat.le_total m k with hl | hl
 ·obtain ⟨r,hr,hrm⟩:=WN m O_
  have h1:=h r hr (Nat.dvd_trans hrm ⟨k,hk⟩)
  have h2:=Nat.le_of_dvd O_ hrm
  have h3:r*r≤m*k:=Nat.mul_le_mul h2 O_
  omega
 ·obtain ⟨r,hr,hrm⟩:=WN k O_
  have h1:=h r hr (Nat.dvd_trans hrm ⟨m,by rw [hk,Nat.mul_comm]⟩)
  have h2:=Nat.le_of_dvd O_ hrm
  have h3:r*r≤m*k:=Nat.mul_le_mul O_ h2
  omega
theorem yo{n q k a r:Nat}(hq:Jg q)(hn:n=q*k+1)(h1:a^(n-1)%n=1)(h2:Nat.gcd (a^k%n+(n-1)) n=1)(hr:Jg r)(hd:r ∣ n):q ∣ r-1:=by
 have hr1:=hr.1
 have hn1:1<n:=by have:=Nat.le_of_dvd O_ hd;omega
 have red:∀x,x%n=1→x%r=1:=fun x hx=>by
  obtain ⟨c,hc⟩:=hd
  have:x%n%r=x%r:=Nat.mod_mod_of_dvd x ⟨c,hc⟩
  rw [←this,hx,Nat.mod_eq_of_lt hr1]
 have g1:a^(q*k)%r=1:=red _ (by rw [←h1,hn,Nat.add_sub_cancel])
 refine Classical.byContradiction fun hc=>?_
 have hra:¬r ∣ a:=fun hh=>by
  have:a^(q*k)%r=0:=by
   have hpos:0<q*k:=by omega
   obtain ⟨e,he⟩:∃e,q*k=e+1:=⟨q*k-1,by omega⟩
   rw [he,Nat.pow_succ]
   exact Nat.mod_eq_zero_of_dvd (Nat.dvd_trans hh (Nat.dvd_mul_left _ _))
  omega
 have g2:a^(k*(r-1))%r=1:=by rw [Nat.mul_comm];exact UM k hr1 (YV hr hra)
 have g3:=tq hr1 (k*q) (k*(r-1)) (by rw [Nat.mul_comm k q];exact g1) g2
 rw [Nat.gcd_mul_left,hq.cop hc,Nat.mul_one] at g3
 have g4:r ∣ Nat.gcd (a^k%n+(n-1)) n:=by
  refine Nat.dvd_gcd ?_ hd
  refine Nat.dvd_of_mod_eq_zero ?_;have e1:(a^k%n)%r=1:=by rw [Nat.mod_mod_of_dvd _ hd];exact g3
  obtain ⟨c,hc⟩:=hd
  obtain ⟨c',rfl⟩:∃c',c=c'+1:=⟨c-1,by cases c with | zero=>simp at hc;omega | succ c=>omega⟩
  have e2:n-1=(r-1)+r*c':=by rw [hc,Nat.mul_add];omega
  rw [e2,←Nat.add_assoc,Nat.add_mul_mod_self_left,Nat.add_mod,e1,Nat.mod_eq_of_lt (show r-1<r by omega),show 1+(r-1)=r by omega,Nat.mod_self]
 rw [h2] at g4
 have:=Nat.le_of_dvd O_ g4
 omega
theorem AAp{n q k a:Nat}(hq:Jg q)(hn:n=q*k+1)(hk:0<k)(h1:a^(n-1)%n=1)(h2:Nat.gcd (a^k%n+(n-1)) n=1)(hl:n<q*q):Jg n:=by
 have hq1:=hq.1
 refine Tm (by have:=Nat.mul_le_mul (show 1≤q by omega) (show 1≤k by omega);omega) fun r hr hd=>?_
 have:=Nat.le_of_dvd (by have:=hr.1;omega) (yo hq hn h1 h2 hr hd)
 exact Nat.lt_of_lt_of_le hl (Nat.mul_le_mul O_ O_)
theorem AA9{n q k a q' k' a':Nat}(hq:Jg q)(hq':Jg q')(hne:¬q ∣ q')(hn:n=q*k+1)(hn':n=q'*k'+1)(hk:0<k)(h1:a^(n-1)%n=1)(h2:Nat.gcd (a^k%n+(n-1)) n=1)
  (h1':a'^(n-1)%n=1) (h2':Nat.gcd (a'^k'%n+(n-1)) n=1) (hl:n<(q*q')*(q*q')):Jg n:=by
 have hq1:=hq.1
 refine Tm (by have:=Nat.mul_le_mul (show 1≤q by omega) (show 1≤k by omega);omega) fun r hr hd=>?_
 have hc:Nat.Coprime q q':=hq.cop hne
 have:=Nat.le_of_dvd (by have:=hr.1;omega) (Nat.Coprime.mul_dvd_of_dvd_of_dvd hc (yo hq hn h1 h2 hr hd) (yo hq' hn' h1' h2' hr hd))
 exact Nat.lt_of_lt_of_le hl (Nat.mul_le_mul O_ O_)
def Sz(n:Nat):Nat→Nat→Nat→Nat→Nat
 |0,_,_,IK=>IK
 |f+1,b,e,IK=>if e%2=1 then Sz n f (b*b%n) (e/2) (IK*b%n) else Sz n f (b*b%n) (e/2) IK
theorem ja(n:Nat):∀f b e IK,e<2^f→Sz n f b e IK%n=IK*b^e%n:=by
 intro f
 induction f with
 |zero=>intro b e IK h;rw [show e=0 by omega];simp [Sz]
 |succ f ih=>
  intro b e IK h
  have h2:e/2<2^f:=by rw [Nat.pow_succ] at h;omega
  have sq:∀x,x*(b*b%n)^(e/2)%n=x*b^(2*(e/2))%n:=fun x=>by
   rw [Nat.mul_mod,←Nat.pow_mod,←Nat.mul_mod,Nat.pow_mul,show b^2=b*b from by rw [Nat.pow_succ,Nat.pow_one]]
  unfold Sz
  split
  ·rename_i h1
   rw [ih _ _ _ h2,sq,Nat.mul_mod,Nat.mod_mod,←Nat.mul_mod,Nat.mul_assoc,←Nat.pow_succ',show (2*(e/2)).succ=e by omega]
  ·rename_i h1
   rw [ih _ _ _ h2,sq,show 2*(e/2)=e by omega]
theorem Pr{n b e r:Nat}(f:Nat)(he:e<2^f)(h:Sz n f b e 1%n=r):b^e%n=r:=by
 rw [←h,ja n f b e 1 he,Nat.one_mul]
def gi(n:Nat):Nat→Nat→Bool
 |0,_=>true
 |f+1,d=>(n%d !=0)&&gi n f (d+1)
theorem ff(n:Nat):∀f d,gi n f d=true→ ∀m,d≤m→m<d+f→ ¬m ∣ n:=by
 intro f
 induction f with
 |zero=>intro d _ m h1 h2;omega
 |succ f ih=>
  intro d h m h1 h2
  simp only [gi,Bool.and_eq_true,bne_iff_ne,ne_eq] at h
  by_cases e:m=d
  ·subst e;exact fun hd=>h.1 (Nat.mod_eq_zero_of_dvd hd)
  ·exact ih (d+1) h.2 m O_ O_
theorem Jk{n:Nat}(f:Nat)(hn:1<n)(hf:n<(f+2)*(f+2))(h:gi n f 2=true):Jg n:=by
 refine Tm hn fun r hr hd=>?_
 have hr1:=hr.1
 refine Classical.byContradiction fun hc=>?_
 refine ff n f 2 h r O_ ?_ hd
 refine Classical.byContradiction fun hc2=>?_
 have:(f+2)*(f+2)≤r*r:=Nat.mul_le_mul O_ O_
 omega
theorem Xg{n q k a:Nat}(f:Nat)(hq:Jg q)(hf:n<2^f)(hn:n=q*k+1)(hk:0<k)(h1:Sz n f a (n-1) 1%n=1)(h2:Nat.gcd (Sz n f a k 1%n+(n-1)) n=1)(hl:n<q*q):Jg n:=
 AAp hq hn hk (Pr f O_ h1) (by rw [Pr f (by have:=Nat.mul_le_mul (show 1≤q from hq.pos) (Nat.le_refl k);omega) rfl];exact h2) hl
theorem iO{n q k a q' k' a':Nat}(f:Nat)(hq:Jg q)(hq':Jg q')(hf:n<2^f)(hne:¬q ∣ q')(hn:n=q*k+1)(hn':n=q'*k'+1)(hk:0<k)(h1:Sz n f a (n-1) 1%n=1)(h2:Nat.gcd (Sz n f a k 1%n+(n-1)) n=1)
  (h1':Sz n f a' (n-1) 1%n=1) (h2':Nat.gcd (Sz n f a' k' 1%n+(n-1)) n=1) (hl:n<(q*q')*(q*q')):Jg n:=
 AA9 hq hq' hne hn hn' hk (Pr f O_ h1) (by rw [Pr f (by have:=Nat.mul_le_mul (show 1≤q from hq.pos) (Nat.le_refl k);omega) rfl];exact h2)
  (Pr f O_ h1') (by rw [Pr f (by have:=Nat.mul_le_mul (show 1≤q' from hq'.pos) (Nat.le_refl k');omega) rfl];exact h2') hl
theorem pr0:Jg 8574133:=Jk 2929 D_ D_ (by decide+kernel)
theorem pr1:Jg 7:=Jk 3 D_ D_ (by decide+kernel)
theorem pr2:Jg 1919519569386763:=iO (q:=8574133) (k:=223873314) (a:=2) (q':=7) (k':=274217081340966) (a':=2) 51 pr0 pr1 (by decide+kernel) (by decide+kernel) (by decide+kernel) (by decide+kernel) (by decide+kernel) (by decide+kernel) (by decide+kernel) (by decide+kernel) (by decide+kernel) (by decide+kernel)
theorem pr3:Jg 75707:=Jk 276 D_ D_ (by decide+kernel)
theorem pr4:Jg 75445702479781427272750846543864801:=iO (q:=1919519569386763) (k:=39304471641247389600) (a:=2) (q':=75707) (k':=996548568557483816196003626400) (a':=2) 116 pr2 pr3 (by decide+kernel) (by decide+kernel) (by decide+kernel) (by decide+kernel) (by decide+kernel) (by decide+kernel) (by decide+kernel) (by decide+kernel) (by decide+kernel) (by decide+kernel)
theorem pr5:Jg 353:=Jk 19 D_ D_ (by decide+kernel)
theorem pr6:Jg 74058212732561358302231226437062788676166966415465897661863160754340907:=iO (q:=75445702479781427272750846543864801) (k:=981609426360740691344999861639072106) (a:=2) (q':=353) (k':=209796636636151156663544550813209033076960244803019540118592523383402) (a':=2) 236 pr4 pr5 (by decide+kernel) (by decide+kernel) (by decide+kernel) (by decide+kernel) (by decide+kernel) (by decide+kernel) (by decide+kernel) (by decide+kernel) (by decide+kernel) (by decide+kernel)
theorem prP:Jg 57896044618658097711785492504343953926634992332820282019728792003956564819949:=Xg (q:=74058212732561358302231226437062788676166966415465897661863160754340907) (k:=781764) (a:=2) 255 pr6 (by decide+kernel) (by decide+kernel) (by decide+kernel) (by decide+kernel) (by decide+kernel) (by decide+kernel)
abbrev PP:Nat:=57896044618658097711785492504343953926634992332820282019728792003956564819949
abbrev Fp:=Fin PP
def zf(n:Nat):Fp:=Fin.ofNat PP n
theorem IA(n:Nat):(zf n).val=n%PP:=rfl
theorem Wl{a b:Nat}:zf a=zf b↔a%PP=b%PP:=by
 rw [←Fin.val_inj,IA,IA]
theorem RR(a b:Nat):zf (a+b)=zf a+zf b:=by
 apply Fin.ext
 rw [Fin.val_add,IA,IA,IA,←Nat.add_mod]
theorem VW(a b:Nat):zf (a*b)=zf a*zf b:=by
 apply Fin.ext
 rw [Fin.val_mul,IA,IA,IA,←Nat.mul_mod]
theorem GL(u:Fp)(k:Nat):u^(k+1)=u^k*u:=by grobner
theorem GF(u:Fp):u^0=1:=by grobner
theorem R7(u:Fp)(j k:Nat):u^(j+k)=u^j*u^k:=by
 induction k with
 |zero=>rw [GF,Nat.add_zero];grobner
 |succ k ih=>rw [←Nat.add_assoc,GL,GL,ih];grobner
theorem pS(u v:Fp)(k:Nat):(u*v)^k=u^k*v^k:=by
 induction k with
 |zero=>rw [GF,GF,GF];grobner
 |succ k ih=>rw [GL,GL,GL,ih];grobner
theorem dB(u:Fp)(j k:Nat):u^(j*k)=(u^j)^k:=by
 induction k with
 |zero=>rw [Nat.mul_zero,GF,GF]
 |succ k ih=>rw [Nat.mul_succ,R7,ih,GL]
theorem jO:zf 0=0:=rfl
theorem ej:zf 1=1:=rfl
theorem mZ(a k:Nat):zf (a^k)=zf a^k:=by
 induction k with
 |zero=>rw [Nat.pow_zero,GF,ej]
 |succ k ih=>rw [Nat.pow_succ,VW,ih,GL]
theorem Kj(u:Fp):zf u.val=u:=by
 apply Fin.ext
 rw [IA,Nat.mod_eq_of_lt u.isLt]
theorem ABg:zf PP=0:=by apply Fin.ext;rw [IA,Nat.mod_self];rfl
theorem rZ(n:Nat):zf (n%PP)=zf n:=by rw [Wl,Nat.mod_mod]
theorem MY{n:Nat}:zf n=0↔PP ∣ n:=by
 rw [←jO,Wl,Nat.zero_mod]
 exact ⟨Nat.dvd_of_mod_eq_zero,Nat.mod_eq_zero_of_dvd⟩
theorem yI(a b:Nat)(h:b≤a):zf (a-b)=zf a-zf b:=by
 have h1:zf (a-b)+zf b=zf a:=by rw [←RR,Nat.sub_add_cancel h]
 rw [←h1];grobner
theorem Ga{u v:Fp}(h:u*v=0):u=0∨v=0:=by
 rw [←Kj u,←Kj v,←VW,MY] at h
 rcases prP.euclid h with h1 | h1
 ·exact .inl (by rw [←Kj u,MY];exact h1)
 ·exact .inr (by rw [←Kj v,MY];exact h1)
theorem S9(k:Nat):(0:Fp)^(k+1)=0:=by rw [GL];generalize (0:Fp)^k=x;grobner
def rD:Nat:=PP-1
def pA:Nat:=PP-2
def QQ:Nat:=(PP-1)/2
def K0:Nat:=(PP+3)/8
def eI:Nat:=(PP-1)/4
theorem pd:pA+1=rD:=by decide+kernel
theorem rV:∃k,pA=k+1:=⟨PP-3,by decide+kernel⟩
theorem kr:QQ+QQ=rD:=by decide+kernel
theorem kD:K0*4=QQ+2:=by decide+kernel
theorem lj:∃k,K0=k+1:=⟨(PP+3)/8-1,by decide+kernel⟩
theorem mL:∃k,QQ=k+1:=⟨(PP-1)/2-1,by decide+kernel⟩
theorem ABL:eI<2^255:=by decide+kernel
theorem ti:PP-1=rD:=rfl
theorem wh:eI=14474011154664524427946373126085988481658748083205070504932198000989141204987:=by decide+kernel
attribute [irreducible] rD pA QQ K0 eI
theorem ip{u:Fp}(h:u≠0):u^rD=1:=by
 have h1:¬PP ∣ u.val:=fun hd=>h (by rw [←Kj u,MY];exact hd)
 have h2:=YV prP h1
 rw [ti] at h2
 rw [←Kj u,←mZ,←ej,Wl,h2]
 decide+kernel
def CE(u:Fp):Fp:=u^pA
theorem Av{u:Fp}(h:u≠0):CE u*u=1:=by
 unfold CE
 rw [←GL,pd]
 exact ip h
theorem L6:CE 0=0:=by
 unfold CE
 obtain ⟨k,hk⟩:=rV
 rw [hk,S9]
attribute [irreducible] CE
theorem P9:(1:Fp)≠0:=by decide+kernel
theorem Zd{u:Fp}(h:u≠0):CE u≠0:=fun e=>by
 have:=Av h
 rw [e] at this
 exact P9 (by grobner)
theorem Pg{u v w:Fp}(h:u≠0)(e:u*v=u*w):v=w:=by
 have:u*(v-w)=0:=by grobner
 rcases Ga this with h1 | h1
 ·exact absurd h1 h
 ·clear e this;grobner
theorem br{u v:Fp}(h:u*v=1):v=CE u:=by
 have hu:u≠0:=fun e=>by rw [e] at h;exact P9 (by grobner)
 refine Pg hu ?_;have:=Av hu
 clear hu
 grobner
theorem DW{u v:Fp}(h:u≠0)(h':v≠0):u*v≠0:=fun e=>by
 rcases Ga e with h1 | h1
 ·exact h h1
 ·exact h' h1
theorem FY(v:Fp):0*v=0:=by grobner
theorem Pb(v:Fp):v*0=0:=by grobner
theorem ct(u v:Fp):CE (u*v)=CE u*CE v:=by
 by_cases h:u=0
 ·rw [h,L6,FY,L6,FY]
 ·by_cases h':v=0
  ·rw [h',L6,Pb,L6,Pb]
  ·refine (br ?_).symm
   have h1:=Av h
   have h2:=Av h'
   clear h h'
   grobner
theorem yT{u:Fp}(h:u*u=1):u=1∨u= -1:=by
 have:(u-1)*(u+1)=0:=by grobner
 rcases Ga this with h1 | h1
 ·exact .inl (by clear h this;grobner)
 ·exact .inr (by clear h this;grobner)
theorem uX{u v:Fp}(h:u*u=v*v):u=v∨u= -v:=by
 have:(u-v)*(u+v)=0:=by grobner
 rcases Ga this with h1 | h1
 ·exact .inl (by clear h this;grobner)
 ·exact .inr (by clear h this;grobner)
def iF:Fp:=zf 19681161376707505956807079304988542015446066515923890162744021073123829784752
theorem rd:iF*iF= -1:=by decide+kernel
theorem ay(b e r f:Nat)(he:e<2^f)(h:Sz PP f b e 1%PP=r):zf b^e=zf r:=by
 rw [←mZ,Wl,←h,Nat.mod_mod,ja PP f b e 1 he,Nat.one_mul]
theorem wu:(zf 2)^eI=iF:=ay 2 eI _ 255 ABL (by rw [wh];decide+kernel)
attribute [irreducible] iF
def Fm(a:Fp):Fp:=if a^K0*a^K0=a then a^K0 else a^K0*iF
theorem kY{a x:Fp}(hx:a^K0=x)(h:a^QQ=1):(x*x)*(x*x)=a*a:=by
 have e:(x*x)*(x*x)=a^(K0*4):=by
  rw [dB,hx];clear h hx;grobner
 rw [e,kD,R7,h]
 clear h hx e
 grobner
theorem lk{a x:Fp}(h0:¬x*x=a)(h4:(x*x)*(x*x)=a*a):x*iF*(x*iF)=a:=by
 rcases uX h4 with h5 | h5
 ·exact absurd h5 h0
 ·have:=rd
  clear h4 h0
  generalize iF=j at*
  grobner
theorem jg{s:Fp}(hs:s≠0):(s*s)^QQ=1:=by
 rw [pS,←R7,kr,ip hs]
theorem co(s:Fp):Fm (s*s)*Fm (s*s)=s*s:=by
 unfold Fm
 split
 ·assumption
 ·rename_i h
  by_cases hs:s=0
  ·exfalso
   apply h
   obtain ⟨k,hk⟩:=lj
   rw [hs,FY,hk,S9,FY]
  ·exact lk h (kY rfl (jg hs))
attribute [irreducible] Fm
end Go.Proofs.YtmbepikkgkcgkaaGreatDoor
