/- Merged and shortened by a program: part 8. -/
import Derived.Test.YtmbepikkgkcgkaaGreatDoorUL7
set_option maxRecDepth 100000
set_option maxHeartbeats 8000000
namespace Go.Proofs.YtmbepikkgkcgkaaGreatDoor
open Go.RowKit
variable {g r : Prop}
open Go.Proofs.Tryz
def QE(b X1:AB 64)(j3:Nat):AB 64:=put X1 j3 ((nth X1 j3)+((nth [9007199254740916#64,9007199254740988#64,9007199254740988#64,9007199254740988#64,9007199254740988#64] j3)-(nth b j3)))
def Et(a b:AB 64):Nat→AB 64
 |0=>a
 |j3+1=>QE b (Et a b j3) j3
theorem Ly(a b:AB 64)(ha:a.length=5)(j3:Nat):(Et a b j3).length=5:=by
 induction j3 with
 |zero=>(simp [Et, *];done)
 |succ j3 ih=>rw [Et.eq_2,QE];(simp [ih];done)
def Ak(a b:AB 64):AB 64:=A4 (Et a b 5)
theorem Gd(k:r)(h:Hid r→g:=by intro h;refine B0 rfl rfl rfl rfl E9 C7 C7 AK ?_;exact h.out):g:=h ⟨k⟩
theorem FP(a b:AB 64)(ha:a.length=5)(hb:b.length=5):Ev prog (.call 157 [EE (a),EE (b)] []) (.val (EE (Ak a b)) []):=by
 have hP:=Hid.mk (Ak.eq_1 a b)
 refine AJ func157 rfl ntmps157 rfl AN ?_;refine B5 ?_;refine C2 ?_;refine AS ?_;refine AA (PE (l:=[9007199254740916#64,9007199254740988#64,9007199254740988#64,9007199254740988#64,9007199254740988#64]) ny underlying160 BN rfl rfl D_) rfl ?_;refine C2 ?_;refine Gd ?_;refine DF ?_;refine AT [2,3,4,5,8] (fun (zz:Nat×AB 64)=>⟨26,AQ [2,3,4,5,8] [Ai 0,Ai 1,Ai 2,Ai 3,Aj (((zz.1:Nat):Int))],[CA (zz.2),CA (b),CA (Af 5),CA ([9007199254740916#64,9007199254740988#64,9007199254740988#64,9007199254740988#64,9007199254740988#64])]⟩) (fun j3=>(j3,Et a b j3)) (5) K_ ?_ ?_
 ·intro j3 hj3
  try dsimp only
  have hX1:(Et a b j3).length=5:=by rw [Ly a b ha _];try omega
  rw [Et.eq_2,QE]
  generalize Et a b j3=X1 at*
  refine Ef ?_;refine CU ?_;refine L4 ?_;refine A0 ?_;refine P3 ?_;refine Hm ?_;refine P3 ?_;refine Hm ?_;refine P3 ?_;refine G6 ?_;refine AE (YB rfl rfl) rfl ?_;refine Jq ?_;refine P3 ?_;refine Bc ?_;refine FR ?_;exact ⟨(j3+1,_),K_,rfl⟩
 ·try dsimp only
  have hY2:(Et a b 5).length=5:=by rw [Ly a b ha _];try omega
  generalize Et a b 5=Y2 at*
  refine AG ?_;refine QC ?_;refine AM ?_;have hQ3:(A4 Y2).length=5:=Au
  refine IW ?_;refine BL (LM Y2 AD) R7 ?_;refine K5 ?_;rw [hP.out]
  exact ME
@[simp] theorem vm(a b:AB 64)(ha:a.length=5)(_hb:b.length=5):(Ak a b).length=5:=by
 unfold Ak
 (simp [Ly, *];done)
attribute [irreducible] Ak
def Lz(a:AB 64)(e:AB 8)(X2:AB 64)(j3:Nat):AB 64:=(if ((((nth e ((255-j3)/8))>>>((255-j3)%8))&&&1#8)==1#8)=true then AF (AF X2 X2) a else AF X2 X2)
def Cw(a:AB 64)(e:AB 8):Nat→AB 64
 |0=>AH 1#64
 |j3+1=>Lz a e (Cw a e j3) j3
theorem MT(a:AB 64)(e:AB 8)(ha:a.length=5)(_he:e.length=32)(j3:Nat):(Cw a e j3).length=5:=by
 induction j3 with
 |zero=>(simp [Cw, *];done)
 |succ j3 ih=>rw [Cw.eq_2,Lz];(split<;>first | (simp [ih];done) | (simp [ih];omega) | (simp [*];done))
def A3(a:AB 64)(e:AB 8):AB 64:=(Cw a e 256)
theorem R0(k:r)(h:Hid r→g:=by intro h;refine AA (Ys (b:=1#8) rfl rfl) rfl ?_;exact h.out):g:=h ⟨k⟩
theorem UO(a:AB 64)(e:AB 8)(ha:a.length=5)(he:e.length=32):Ev prog (.call 188 [EE (a),Co (e)] []) (.val (EE (A3 a e)) []):=by
 have hP:=Hid.mk (A3.eq_1 a e)
 refine AJ func188 rfl ntmps188 rfl AN ?_;refine B5 ?_;refine C2 ?_;refine AM ?_;have hQ1:(AH 1#64).length=5:=Au
 refine AG ?_;refine BL (DA 1#64) Gt ?_;refine C2 ?_;refine Gd ?_;refine AS ?_;refine A7 ?_;refine AT [2,3,4,5,6] (fun (zz:Nat×AB 64)=>⟨28,AQ [2,3,4,5,6] [Ai 0,Ai 1,Ai 2,Ai 3,Aj (((255:Nat):Int)-((zz.1:Nat):Int))],[CA (a),CP (e),CA (Af 5),CA (zz.2)]⟩) (fun j3=>(j3,Cw a e j3)) (256) K_ ?_ ?_
 ·intro j3 hj3
  try dsimp only
  have hX2:(Cw a e j3).length=5:=by rw [MT a e ha he _];try omega
  rw [Cw.eq_2,Lz]
  generalize Cw a e j3=X2 at*
  rw [show ((255:Nat):Int)-((j3:Nat):Int)=((255-j3:Nat):Int) from by omega]
  refine BC ?_;refine RA ?_;refine AM ?_;have hQ3:(AF X2 X2).length=5:=Au
  refine IW ?_;refine F3 ?_;refine BL (Bd X2 X2 AD AD) BW ?_;refine Gd ?_;refine AW ?_;refine MW ?_;refine QB ?_;refine Fs ?_;refine AO ?_;refine NZ ?_;refine AA (Ql rfl rfl) rfl ?_;refine AA (Lr (b:=1#8) rfl rfl) rfl ?_;refine R0 ?_;refine E6 ?_;refine Id [2,3,4,5,6] (fun (zz:AB 64)=>⟨28,AQ [2,3,4,5,6] [Ai 0,Ai 1,Ai 2,Ai 3,Aj (((255-j3:Nat):Int))],[CA (a),CP (e),CA (Af 5),CA (zz)]⟩) (if ((((nth e ((255-j3)/8))>>>((255-j3)%8))&&&1#8)==1#8)=true then AF (AF X2 X2) a else AF X2 X2) rfl (fun hb=>?_) (fun hb=>?_) ?_
  ·have hQ5:(AF (AF X2 X2) a).length=5:=Au
   refine IW ?_;refine F3 ?_;refine BL (Bd (AF X2 X2) a AD AD) BW ?_;refine K5 ?_;refine ⟨(AF (AF X2 X2) a),K_,?_⟩
   rw [if_pos (hb)]
  ·refine S_ ?_
   refine ⟨(AF X2 X2),K_,?_⟩
   rw [if_neg (by (rw [hb];decide))]
  have hJ4:(if ((((nth e ((255-j3)/8))>>>((255-j3)%8))&&&1#8)==1#8)=true then AF (AF X2 X2) a else AF X2 X2).length=5:=by split<;>simp [*]
  generalize (if ((((nth e ((255-j3)/8))>>>((255-j3)%8))&&&1#8)==1#8)=true then AF (AF X2 X2) a else AF X2 X2)=J4 at*
  refine BC ?_;refine NG ?_;refine Bv ?_;refine ⟨(j3+1,_),(by
   dsimp only
   rw [show ((255:Nat):Int)-((j3+1:Nat):Int)=((255-j3:Nat):Int)-1 from by omega]
   kernel_rfl),rfl⟩
 ·try dsimp only
  have hY6:(Cw a e 256).length=5:=by rw [MT a e ha he _];try omega
  generalize Cw a e 256=Y6 at*
  refine BC ?_;refine PK ?_;refine AS ?_;refine F3 ?_;refine K5 ?_;rw [hP.out]
  exact ME
@[simp] theorem vo(a:AB 64)(e:AB 8)(ha:a.length=5)(he:e.length=32):(A3 a e).length=5:=by
 unfold A3
 (simp [MT, *];done)
attribute [irreducible] A3
def Nk(X1:AB 8)(j3:Nat):AB 8:=put X1 (j3/8) ((nth X1 (j3/8)) ||| (1#8<<<(j3%8)))
def D1:Nat→AB 8
 |0=>Am 32
 |j3+1=>Nk (D1 j3) j3
@[simp] theorem K0  (j3:Nat):(D1 j3).length=32:=by
 induction j3 with
 |zero=>(simp [D1, *];done)
 |succ j3 ih=>rw [D1.eq_2,Nk];(simp [ih];done)
def JY(k:BitVec 8):AB 8:=put (D1 255) 0 ((nth (D1 255) 0)-(k-1#8))
theorem Rq(k:r)(h:Hid r→g:=by intro h;refine AE (SD (b:=8) rfl rfl O_ O_) rfl ?_;exact h.out):g:=h ⟨k⟩
theorem OD(k:r)(h:Hid r→g:=by intro h;refine AE (AP rfl rfl underlying37 CE O_) rfl ?_;exact h.out):g:=h ⟨k⟩
theorem Rl(k:r)(h:Hid r→g:=by intro h;refine AE (IS (b:=8) rfl rfl O_ O_) rfl ?_;exact h.out):g:=h ⟨k⟩
theorem Nt(k:r)(h:Hid r→g:=by intro h;refine AA (AP (j:=0) rfl rfl underlying37 CE O_) rfl ?_;exact h.out):g:=h ⟨k⟩
theorem gW(k:BitVec 8):Ev prog (.call 189 [Aj ((255:Nat):Int),.c (.val (U8 k))] []) (.val (Co (JY k)) []):=by
 have hP:=Hid.mk (JY.eq_1 k)
 refine AJ func189 rfl ntmps189 rfl AN ?_;refine JU ?_;refine AS ?_;refine E7 ?_;refine FK ?_;refine A1 ?_;refine AT [1,4,5,7,8] (fun (zz:Nat×AB 8)=>⟨28,AQ [1,4,5,7,8] [.c (.val (U8 (k))),Ai 0,Ai 1,Aj (((255:Nat):Int)),Aj (((zz.1:Nat):Int))],[CP (Am 32),CP (zz.2)]⟩) (fun j3=>(j3,D1 j3)) (255) K_ ?_ ?_
 ·intro j3 hj3
  try dsimp only
  have hX1:(D1 j3).length=32:=by rw [K0 _];try omega
  rw [D1.eq_2,Nk]
  generalize D1 j3=X1 at*
  refine AG ?_;refine AA (BE (b:=255) rfl rfl) rfl ?_;refine CU ?_;refine KA ?_;refine A0 ?_;refine Rq ?_;refine OD ?_;refine Kx ?_;refine A0 ?_;refine Rl ?_;refine AE (Xq (a:=1#8) rfl rfl) rfl ?_;refine AE (bJ rfl rfl) rfl ?_;refine OD ?_;refine Bc ?_;refine Cq ?_;refine Do ?_;exact ⟨(j3+1,_),K_,rfl⟩
 ·try dsimp only
  have hY2:(D1 255).length=32:=by rw [K0 _];try omega
  generalize D1 255=Y2 at*
  refine AG ?_;refine AA (BE (a:=255) (b:=255) rfl rfl) rfl ?_;refine AS ?_;refine Nt ?_;refine Fs ?_;refine AO ?_;refine AA (R4 (b:=1#8) rfl rfl) rfl ?_;refine AA (R4 rfl rfl) rfl ?_;refine Nt ?_;refine Cq ?_;refine HV ?_;refine EW ?_;rw [hP.out]
  exact Eo
@[simp] theorem sm(k:BitVec 8):(JY k).length=32:=by
 unfold JY
 (simp [K0, *];done)
attribute [irreducible] JY
def N9(X1:AB 8)(j3:Nat):AB 8:=put X1 (j3/8) ((nth X1 (j3/8)) ||| (1#8<<<(j3%8)))
def Dz:Nat→AB 8
 |0=>Am 32
 |j3+1=>N9 (Dz j3) j3
@[simp] theorem Kw  (j3:Nat):(Dz j3).length=32:=by
 induction j3 with
 |zero=>(simp [Dz, *];done)
 |succ j3 ih=>rw [Dz.eq_2,N9];(simp [ih];done)
def Ax(k:BitVec 8):AB 8:=put (Dz 252) 0 ((nth (Dz 252) 0)-(k-1#8))
theorem jH(k:BitVec 8):Ev prog (.call 189 [Aj ((252:Nat):Int),.c (.val (U8 k))] []) (.val (Co (Ax k)) []):=by
 have hP:=Hid.mk (Ax.eq_1 k)
 refine AJ func189 rfl ntmps189 rfl AN ?_;refine JU ?_;refine AS ?_;refine E7 ?_;refine FK ?_;refine A1 ?_;refine AT [1,4,5,7,8] (fun (zz:Nat×AB 8)=>⟨28,AQ [1,4,5,7,8] [.c (.val (U8 (k))),Ai 0,Ai 1,Aj (((252:Nat):Int)),Aj (((zz.1:Nat):Int))],[CP (Am 32),CP (zz.2)]⟩) (fun j3=>(j3,Dz j3)) (252) K_ ?_ ?_
 ·intro j3 hj3
  try dsimp only
  have hX1:(Dz j3).length=32:=by rw [Kw _];try omega
  rw [Dz.eq_2,N9]
  generalize Dz j3=X1 at*
  refine AG ?_;refine AA (BE (b:=252) rfl rfl) rfl ?_;refine CU ?_;refine KA ?_;refine A0 ?_;refine Rq ?_;refine OD ?_;refine Kx ?_;refine A0 ?_;refine Rl ?_;refine AE (Xq (a:=1#8) rfl rfl) rfl ?_;refine AE (bJ rfl rfl) rfl ?_;refine OD ?_;refine Bc ?_;refine Cq ?_;refine Do ?_;exact ⟨(j3+1,_),K_,rfl⟩
 ·try dsimp only
  have hY2:(Dz 252).length=32:=by rw [Kw _];try omega
  generalize Dz 252=Y2 at*
  refine AG ?_;refine AA (BE (a:=252) (b:=252) rfl rfl) rfl ?_;refine AS ?_;refine Nt ?_;refine Fs ?_;refine AO ?_;refine AA (R4 (b:=1#8) rfl rfl) rfl ?_;refine AA (R4 rfl rfl) rfl ?_;refine Nt ?_;refine Cq ?_;refine HV ?_;refine EW ?_;rw [hP.out]
  exact Eo
@[simp] theorem uS(k:BitVec 8):(Ax k).length=32:=by
 unfold Ax
 (simp [Kw, *];done)
attribute [irreducible] Ax
def Nv(X1:AB 8)(j3:Nat):AB 8:=put X1 (j3/8) ((nth X1 (j3/8)) ||| (1#8<<<(j3%8)))
def D2:Nat→AB 8
 |0=>Am 32
 |j3+1=>Nv (D2 j3) j3
@[simp] theorem Kq  (j3:Nat):(D2 j3).length=32:=by
 induction j3 with
 |zero=>(simp [D2, *];done)
 |succ j3 ih=>rw [D2.eq_2,Nv];(simp [ih];done)
def Ds(k:BitVec 8):AB 8:=put (D2 253) 0 ((nth (D2 253) 0)-(k-1#8))
theorem iU(k:BitVec 8):Ev prog (.call 189 [Aj ((253:Nat):Int),.c (.val (U8 k))] []) (.val (Co (Ds k)) []):=by
 have hP:=Hid.mk (Ds.eq_1 k)
 refine AJ func189 rfl ntmps189 rfl AN ?_;refine JU ?_;refine AS ?_;refine E7 ?_;refine FK ?_;refine A1 ?_;refine AT [1,4,5,7,8] (fun (zz:Nat×AB 8)=>⟨28,AQ [1,4,5,7,8] [.c (.val (U8 (k))),Ai 0,Ai 1,Aj (((253:Nat):Int)),Aj (((zz.1:Nat):Int))],[CP (Am 32),CP (zz.2)]⟩) (fun j3=>(j3,D2 j3)) (253) K_ ?_ ?_
 ·intro j3 hj3
  try dsimp only
  have hX1:(D2 j3).length=32:=by rw [Kq _];try omega
  rw [D2.eq_2,Nv]
  generalize D2 j3=X1 at*
  refine AG ?_;refine AA (BE (b:=253) rfl rfl) rfl ?_;refine CU ?_;refine KA ?_;refine A0 ?_;refine Rq ?_;refine OD ?_;refine Kx ?_;refine A0 ?_;refine Rl ?_;refine AE (Xq (a:=1#8) rfl rfl) rfl ?_;refine AE (bJ rfl rfl) rfl ?_;refine OD ?_;refine Bc ?_;refine Cq ?_;refine Do ?_;exact ⟨(j3+1,_),K_,rfl⟩
 ·try dsimp only
  have hY2:(D2 253).length=32:=by rw [Kq _];try omega
  generalize D2 253=Y2 at*
  refine AG ?_;refine AA (BE (a:=253) (b:=253) rfl rfl) rfl ?_;refine AS ?_;refine Nt ?_;refine Fs ?_;refine AO ?_;refine AA (R4 (b:=1#8) rfl rfl) rfl ?_;refine AA (R4 rfl rfl) rfl ?_;refine Nt ?_;refine Cq ?_;refine HV ?_;refine EW ?_;rw [hP.out]
  exact Eo
@[simp] theorem vI(k:BitVec 8):(Ds k).length=32:=by
 unfold Ds
 (simp [Kq, *];done)
attribute [irreducible] Ds
def Mi(X4:BitVec 64)(X5:AB 64)(j6:Nat):BitVec 64×AB 64:=((nth (put X5 j6 ((nth X5 j6)+X4)) j6)>>>51,put (put X5 j6 ((nth X5 j6)+X4)) j6 ((nth (put X5 j6 ((nth X5 j6)+X4)) j6)&&&2251799813685247#64))
def CN(a:AB 64):Nat→BitVec 64×AB 64
 |0=>(0#64,put (A4 (A4 (A4 a))) 0 ((nth (A4 (A4 (A4 a))) 0)+19#64))
 |j6+1=>Mi (CN a j6).1 (CN a j6).2 j6
theorem Ij(a:AB 64)(ha:a.length=5)(j6:Nat):(CN a j6).2.length=5:=by
 induction j6 with
 |zero=>(simp (maxDischargeDepth:=9) [CN, *];done)
 |succ j6 ih=>rw [CN.eq_2,Mi];(simp (maxDischargeDepth:=9) [ih];done)
def Kf(J10:AB 64)(X11:AB 8)(j17:Nat):AB 8:=put X11 j17 (((nth [(nth J10 0) ||| ((nth J10 1)<<<51),((nth J10 1)>>>13) ||| ((nth J10 2)<<<38),((nth J10 2)>>>26) ||| ((nth J10 3)<<<25),((nth J10 3)>>>39) ||| ((nth J10 4)<<<12)] (j17/8))>>>(8*(j17%8))).setWidth 8)
def CO(J10:AB 64):Nat→AB 8
 |0=>Am 32
 |j17+1=>Kf J10 (CO J10 j17) j17
@[simp] theorem Im(J10:AB 64)(j17:Nat):(CO J10 j17).length=32:=by
 induction j17 with
 |zero=>(simp (maxDischargeDepth:=9) [CO, *];done)
 |succ j17 ih=>rw [CO.eq_2,Kf];(simp (maxDischargeDepth:=9) [ih];done)
def AL(a:AB 64):AB 8:=(CO (if (0#64).toNat<((CN a 5).1).toNat then ((CN a 5).2) else A4 (A4 (A4 a))) 32)
theorem EA(a:AB 64)(ha:a.length=5):Ev prog (.call 160 [EE (a)] []) (.val (Co (AL a)) []):=by
 have hP:=Hid.mk (AL.eq_1 a)
 refine AJ func160 rfl ntmps160 rfl AN ?_;refine Bk ?_;refine E7 ?_;refine AM ?_;have hQ1:(A4 a).length=5:=Au
 have hQ2:(A4 (A4 a)).length=5:=Au
 have hQ3:(A4 (A4 (A4 a))).length=5:=Au
 refine IW ?_;refine BL (LM a AD) R7 ?_;refine BL (LM (A4 a) AD) R7 ?_;refine BL (LM (A4 (A4 a)) AD) R7 ?_;refine Gd ?_;refine AS ?_;refine F3 ?_;refine C2 ?_;refine Gd ?_;refine AS ?_;refine M5 ?_;refine BM ?_;refine AA (TB (b:=19#64) rfl rfl) rfl ?_;refine M5 ?_;refine FO ?_;refine AS ?_;refine AY ?_;refine A1 ?_;refine AT [1,2,3,4,18] (fun (zz:Nat×BitVec 64×AB 64)=>⟨84,AQ [1,2,3,4,18] [Ai 0,Ai 1,Ai 2,.c (.val (BP (zz.2.1))),Aj (((zz.1:Nat):Int))],[CA (A4 (A4 (A4 a))),CP (Am 32),CA (zz.2.2)]⟩) (fun j6=>(j6,CN a j6)) (5) K_ ?_ ?_
 ·intro j6 hj6
  try dsimp only
  have hX5:(CN a j6).2.length=5:=by rw [Ij a ha _];try omega
  rw [CN.eq_2,Mi]
  generalize CN a j6=Z6 at*
  obtain ⟨X4,X5⟩:=Z6
  try dsimp only at*
  refine Ef ?_;refine AW ?_;refine AY ?_;refine Hf ?_;refine Db ?_;refine DR ?_;refine Hf ?_;refine FO ?_;refine AW ?_;refine Hf ?_;refine BM ?_;refine Uj ?_;refine AY ?_;refine Hf ?_;refine BM ?_;refine Mf ?_;refine Hf ?_;refine FR ?_;exact ⟨(j6+1,_),K_,rfl⟩
 ·try dsimp only
  have hY8:(CN a 5).2.length=5:=by rw [Ij a ha _];try omega
  generalize CN a 5=Z9 at*
  obtain ⟨Y7,Y8⟩:=Z9
  try dsimp only at*
  refine AG ?_;refine QC ?_;refine AW ?_;refine AA (gH (b:=0#64) rfl rfl) rfl ?_;refine E6 ?_;refine Id [1,2] (fun (zz:AB 64)=>⟨84,AQ [1,2] [Ai 0,Ai 1],[CA (zz),CP (Am 32)]⟩) (if (0#64).toNat<Y7.toNat then Y8 else A4 (A4 (A4 a))) rfl (fun hb=>?_) (fun hb=>?_) ?_
  ·have hb_:=of_decide_eq_true hb
   refine IW ?_;refine K5 ?_;refine ⟨Y8,K_,?_⟩
   rw [if_pos (of_decide_eq_true hb)]
  ·have hb_:=of_decide_eq_false hb
   refine S_ ?_;refine ⟨(A4 (A4 (A4 a))),K_,?_⟩
   rw [if_neg (of_decide_eq_false hb)]
  have hJ10:(if (0#64).toNat<Y7.toNat then Y8 else A4 (A4 (A4 a))).length=5:=by split<;>simp [*]
  generalize (if (0#64).toNat<Y7.toNat then Y8 else A4 (A4 (A4 a)))=J10 at*
  refine AG ?_;refine M5 ?_;refine BM ?_;refine XC ?_;refine BM ?_;refine AA (B2 (j:=51) rfl rfl) rfl ?_;refine FY ?_;refine XC ?_;refine BM ?_;refine AA (CQ (j:=13) rfl rfl) rfl ?_;refine AA (AP (j:=2) rfl rfl underlying160 BN O_) rfl ?_;refine BM ?_;refine AA (B2 (j:=38) rfl rfl) rfl ?_;refine FY ?_;refine AA (AP (j:=2) rfl rfl underlying160 BN O_) rfl ?_;refine BM ?_;refine AA (CQ (j:=26) rfl rfl) rfl ?_;refine AA (AP (j:=3) rfl rfl underlying160 BN O_) rfl ?_;refine BM ?_;refine AA (B2 (j:=25) rfl rfl) rfl ?_;refine FY ?_;refine AA (AP (j:=3) rfl rfl underlying160 BN O_) rfl ?_;refine BM ?_;refine AA (CQ (j:=39) rfl rfl) rfl ?_;refine AA (AP (j:=4) rfl rfl underlying160 BN O_) rfl ?_;refine BM ?_;refine AA (B2 (j:=12) rfl rfl) rfl ?_;refine FY ?_;refine AA (PE (l:=[_,_,_,_]) tm underlying127 BN rfl rfl D_) rfl ?_;refine A2 (BR lD AN) AK rfl ?_;refine B0 rfl rfl rfl rfl vT C7 C7 AK ?_;refine AS ?_;refine E7 ?_;refine DF ?_;refine AT [2,6,7,68] (fun (zz:Nat×AB 8)=>⟨84,AQ [2,6,7,68] [Ai 0,Ai 1,Ai 2,Aj (((zz.1:Nat):Int))],[CP (Am 32),CA ([(nth J10 0) ||| ((nth J10 1)<<<51),((nth J10 1)>>>13) ||| ((nth J10 2)<<<38),((nth J10 2)>>>26) ||| ((nth J10 3)<<<25),((nth J10 3)>>>39) ||| ((nth J10 4)<<<12)]),CP (zz.2)]⟩) (fun j17=>(j17,CO J10 j17)) (32) K_ ?_ ?_
  ·intro j17 hj17
   try dsimp only
   have hX11:(CO J10 j17).length=32:=by rw [Im J10 _];try omega
   rw [CO.eq_2,Kf]
   generalize CO J10 j17=X11 at*
   refine AG ?_;refine Rc ?_;refine AW ?_;refine BB ?_;refine MW ?_;refine AA (AP rfl rfl underlying127 BN O_) rfl ?_;refine Db ?_;refine NZ ?_;refine JP ?_;refine Qn ?_;refine SZ ?_;refine QB ?_;refine Cq ?_;refine Do ?_;exact ⟨(j17+1,_),K_,rfl⟩
  ·try dsimp only
   have hY12:(CO J10 32).length=32:=by rw [Im J10 _];try omega
   generalize CO J10 32=Y12 at*
   refine AG ?_;refine Rn ?_;refine HV ?_;refine EW ?_;rw [hP.out]
   exact Eo
@[simp] theorem rZ(a:AB 64)(_ha:a.length=5):(AL a).length=32:=by
 unfold AL
 (simp (maxDischargeDepth:=9) [Im, *];done)
attribute [irreducible] AL
def Br(a:AB 64):AB 64:=A3 a (JY 21#8)
theorem Ck(k:r)(h:Hid r→g:=by intro h;refine AE (Bi rfl rfl Fd E9 C7 D_) rfl ?_;exact h.out):g:=h ⟨k⟩
theorem GI(k:r)(h:Hid r→g:=by intro h;refine Bc ?_;refine B0 rfl rfl rfl rfl E9 C7 C7 AK ?_;exact h.out):g:=h ⟨k⟩
theorem Lh(a:AB 64)(ha:a.length=5):Ev prog (.call 159 [EE (a)] []) (.val (EE (Br a)) []):=by
 have hP:=Hid.mk (Br.eq_1 a)
 refine AJ func159 rfl ntmps159 rfl AN ?_;refine Bk ?_;refine C2 ?_;refine AM ?_;have hQ1:(JY 21#8).length=32:=Au
 have hQ2:(A3 a (JY 21#8)).length=5:=Au
 refine S_ ?_;refine Pq ?_;refine Ck ?_;refine At (gW 21#8) bV ?_;refine At (UO a (JY 21#8) AD AD) db ?_;refine GI ?_;refine A1 ?_;rw [hP.out]
 exact ME
@[simp] theorem vp(a:AB 64)(ha:a.length=5):(Br a).length=5:=by
 unfold Br
 (simp [*];done)
attribute [irreducible] Br
theorem RM(a b:AB 64)(ha:a.length=5)(hb:b.length=5):Ev prog (.call 166 [EE (a),EE (b)] []) (.val (.c (.val (.bool (decide (AL a=AL b))))) []):=by
 refine AJ func166 rfl ntmps166 rfl AN ?_;refine B5 ?_;refine Bv ?_;have hQ1:(AL a).length=32:=Au
 have hQ2:(AL b).length=32:=Au
 refine S_ ?_;refine R9 ?_;refine Ck ?_;refine At (EA a AD) Ka ?_;refine Ck ?_;refine At (EA b AD) Ka ?_;refine AE (fW rfl rfl underlying37 underlying5 CE C7 C7) rfl ?_;refine Mh ?_;refine A1 ?_;exact FB
theorem Tu(a:AB 64)(ha:a.length=5):Ev prog (.call 167 [EE (a)] []) (.val (.c (.val (.bool ((((nth (AL a) 0)&&&1#8)==1#8))))) []):=by
 refine AJ func167 rfl ntmps167 rfl AN ?_;refine Bk ?_;refine Bv ?_;have hQ1:(AL a).length=32:=Au
 refine IW ?_;refine BL (EA a AD) Ka ?_;refine AA (xu (j:=0) rfl rfl underlying37 CE bB O_ Dp) rfl ?_;refine AA (Lr (b:=1#8) rfl rfl) rfl ?_;refine R0 ?_;exact DP
def Ri(b:AB 8)(X1:AB 64)(j3:Nat):AB 64:=put X1 (j3/8) ((nth X1 (j3/8)) ||| (((nth b j3).setWidth 64)<<<(8*(j3%8))))
def Bg(b:AB 8):Nat→AB 64
 |0=>Af 4
 |j3+1=>Ri b (Bg b j3) j3
@[simp] theorem Nw(b:AB 8)(j3:Nat):(Bg b j3).length=4:=by
 induction j3 with
 |zero=>(simp [Bg, *];done)
 |succ j3 ih=>rw [Bg.eq_2,Ri];(simp [ih];done)
def NL(b:AB 8):AB 64:=put [(nth (Bg b 32) 0)&&&2251799813685247#64,(((nth (Bg b 32) 0)>>>51) ||| ((nth (Bg b 32) 1)<<<13))&&&2251799813685247#64,(((nth (Bg b 32) 1)>>>38) ||| ((nth (Bg b 32) 2)<<<26))&&&2251799813685247#64,(((nth (Bg b 32) 2)>>>25) ||| ((nth (Bg b 32) 3)<<<39))&&&2251799813685247#64,((nth (Bg b 32) 3)>>>12)&&&2251799813685247#64] 0 ((nth [(nth (Bg b 32) 0)&&&2251799813685247#64,(((nth (Bg b 32) 0)>>>51) ||| ((nth (Bg b 32) 1)<<<13))&&&2251799813685247#64,(((nth (Bg b 32) 1)>>>38) ||| ((nth (Bg b 32) 2)<<<26))&&&2251799813685247#64,(((nth (Bg b 32) 2)>>>25) ||| ((nth (Bg b 32) 3)<<<39))&&&2251799813685247#64,((nth (Bg b 32) 3)>>>12)&&&2251799813685247#64] 0)+(19#64*((nth (Bg b 32) 3)>>>63)))
theorem be(k:r)(h:Hid r→g:=by intro h;refine AE (HA rfl underlying5 underlying70 (sP _)) rfl ?_;exact h.out):g:=h ⟨k⟩
theorem cx(k:r)(h:Hid r→g:=by intro h;refine AA (AP (j:=3) rfl rfl underlying127 BN O_) rfl ?_;exact h.out):g:=h ⟨k⟩
theorem Xg(b:AB 8)(hb:b.length=32):Ev prog (.call 154 [Co (b)] []) (.val (EE (NL b)) []):=by
 have hP:=Hid.mk (NL.eq_1 b)
 refine AJ func154 rfl ntmps154 rfl AN ?_;refine Bk ?_;refine C2 ?_;refine AS ?_;refine A2 (BR lD AN) AK rfl ?_;refine DF ?_;refine AT [1,2,3,6] (fun (zz:Nat×AB 64)=>⟨65,AQ [1,2,3,6] [Ai 0,Ai 1,Ai 2,Aj (((zz.1:Nat):Int))],[CP (b),CA (Af 5),CA (zz.2)]⟩) (fun j3=>(j3,Bg b j3)) (32) K_ ?_ ?_
 ·intro j3 hj3
  try dsimp only
  have hX1:(Bg b j3).length=4:=by rw [Nw b _];try omega
  rw [Bg.eq_2,Ri]
  generalize Bg b j3=X1 at*
  refine AG ?_;refine Rc ?_;refine CU ?_;refine EQ 14 mixed K_ rfl rfl rfl ?_;refine A0 ?_;refine Rq ?_;refine AE (AP rfl rfl underlying127 BN O_) rfl ?_;refine Hm ?_;refine OD ?_;refine Kx ?_;refine be ?_;refine A0 ?_;refine Rl ?_;refine AE (Ls (a:=8) rfl rfl O_) rfl ?_;refine AE (B2 rfl rfl) rfl ?_;refine AE (VD rfl rfl) rfl ?_;refine AE (AP rfl rfl underlying127 BN O_) rfl ?_;refine Bc ?_;refine FR ?_;exact ⟨(j3+1,_),K_,rfl⟩
 ·try dsimp only
  have hY2:(Bg b 32).length=4:=by rw [Nw b _];try omega
  generalize Bg b 32=Y2 at*
  refine AG ?_;refine Rn ?_;refine AS ?_;refine AA (AP (j:=0) rfl rfl underlying127 BN O_) rfl ?_;refine BM ?_;refine Mf ?_;refine AA (AP (j:=0) rfl rfl underlying127 BN O_) rfl ?_;refine BM ?_;refine Uj ?_;refine AA (AP (j:=1) rfl rfl underlying127 BN O_) rfl ?_;refine BM ?_;refine AA (B2 (j:=13) rfl rfl) rfl ?_;refine FY ?_;refine Mf ?_;refine AA (AP (j:=1) rfl rfl underlying127 BN O_) rfl ?_;refine BM ?_;refine AA (CQ (j:=38) rfl rfl) rfl ?_;refine AA (AP (j:=2) rfl rfl underlying127 BN O_) rfl ?_;refine BM ?_;refine AA (B2 (j:=26) rfl rfl) rfl ?_;refine FY ?_;refine Mf ?_;refine AA (AP (j:=2) rfl rfl underlying127 BN O_) rfl ?_;refine BM ?_;refine AA (CQ (j:=25) rfl rfl) rfl ?_;refine cx ?_;refine BM ?_;refine AA (B2 (j:=39) rfl rfl) rfl ?_;refine FY ?_;refine Mf ?_;refine cx ?_;refine BM ?_;refine AA (CQ (j:=12) rfl rfl) rfl ?_;refine Mf ?_;refine AA (PE (l:=[_,_,_,_,_]) ny underlying160 BN rfl rfl D_) rfl ?_;refine C2 ?_;refine Gd ?_;refine AS ?_;refine M5 ?_;refine BM ?_;refine cx ?_;refine BM ?_;refine AA (CQ (j:=63) rfl rfl) rfl ?_;refine AA (GX (a:=19#64) rfl rfl) rfl ?_;refine DR ?_;refine M5 ?_;refine FO ?_;refine AS ?_;refine F3 ?_;refine K5 ?_;rw [hP.out]
  exact ME
@[simp] theorem xj(b:AB 8)(_hb:b.length=32):(NL b).length=5:=by
 unfold NL
 (simp [*];done)
attribute [irreducible] NL
def Fr(key:AB 8):AB 8:=put (put key 0 ((nth key 0)&&&248#8)) 31 (((nth (put key 0 ((nth key 0)&&&248#8)) 31)&&&127#8) ||| 64#8)
theorem Hg(k:r)(h:Hid r→g:=by intro h;refine AA (AP (j:=31) rfl rfl underlying37 CE O_) rfl ?_;refine AA (Xy rfl rfl bB Dp) rfl ?_;exact h.out):g:=h ⟨k⟩
theorem Pv(k:r)(h:Hid r→g:=by intro h;refine AA (Lr (b:=127#8) rfl rfl) rfl ?_;exact h.out):g:=h ⟨k⟩
theorem Nz(k:r)(h:Hid r→g:=by intro h;refine AA (AP (j:=31) rfl rfl underlying37 CE O_) rfl ?_;exact h.out):g:=h ⟨k⟩
theorem ZK(key:AB 8)(hkey:key.length=32):Ev prog (.call 153 [Co (key)] []) (.val (Co (Fr key)) []):=by
 have hP:=Hid.mk (Fr.eq_1 key)
 refine AJ func153 rfl ntmps153 rfl AN ?_;refine Bk ?_;refine E7 ?_;refine AS ?_;refine Nt ?_;refine Fs ?_;refine AA (Lr (b:=248#8) rfl rfl) rfl ?_;refine Nt ?_;refine Cq ?_;refine AS ?_;refine Hg ?_;refine Pv ?_;refine AA (bJ (b:=64#8) rfl rfl) rfl ?_;refine Nz ?_;refine Cq ?_;refine HV ?_;refine EW ?_;rw [hP.out]
 exact Eo
@[simp] theorem vr(key:AB 8)(hkey:key.length=32):(Fr key).length=32:=by
 unfold Fr
 (simp [*];done)
attribute [irreducible] Fr
theorem Yq:∃f:AB 64→AB 64→AB 64,(∀a b,(f a b).length=5)∧ ∀a b,a.length=5→b.length=5→f a b=AF a b:=⟨fun a b=>if a.length=5∧b.length=5 then AF a b else Af 5,fun a b=>by dsimp only;split<;>simp [*],fun a b ha hb=>if_pos ⟨ha,hb⟩⟩
noncomputable def Ap:AB 64→AB 64→AB 64:=Classical.choose Yq
@[simp] theorem xC(a b:AB 64):(Ap a b).length=5:=(Classical.choose_spec Yq).1 a b
theorem ek(a b:AB 64)(ha:a.length=5)(hb:b.length=5):Ap a b=AF a b:=(Classical.choose_spec Yq).2 a b ha hb
theorem Gc(a b:AB 64)(ha:a.length=5)(hb:b.length=5):Ev prog (.call 158 [EE a,EE b] []) (.val (EE (Ap a b)) []):=by
 rw [ek a b ha hb]
 exact Bd a b ha hb
theorem Xl:∃f:AB 64→AB 64→AB 64,(∀a b,(f a b).length=5)∧ ∀a b,a.length=5→b.length=5→f a b=Ak a b:=⟨fun a b=>if a.length=5∧b.length=5 then Ak a b else Af 5,fun a b=>by dsimp only;split<;>simp [*],fun a b ha hb=>if_pos ⟨ha,hb⟩⟩
noncomputable def Ar:AB 64→AB 64→AB 64:=Classical.choose Xl
@[simp] theorem xw(a b:AB 64):(Ar a b).length=5:=(Classical.choose_spec Xl).1 a b
theorem fj(a b:AB 64)(ha:a.length=5)(hb:b.length=5):Ar a b=Ak a b:=(Classical.choose_spec Xl).2 a b ha hb
theorem TN(a b:AB 64)(ha:a.length=5)(hb:b.length=5):Ev prog (.call 157 [EE a,EE b] []) (.val (EE (Ar a b)) []):=by
 rw [fj a b ha hb]
 exact FP a b ha hb
theorem Yk:∃f:AB 64→AB 64→AB 64,(∀a b,(f a b).length=5)∧ ∀a b,a.length=5→b.length=5→f a b=AU a b:=⟨fun a b=>if a.length=5∧b.length=5 then AU a b else Af 5,fun a b=>by dsimp only;split<;>simp [*],fun a b ha hb=>if_pos ⟨ha,hb⟩⟩
noncomputable def As:AB 64→AB 64→AB 64:=Classical.choose Yk
@[simp] theorem wG(a b:AB 64):(As a b).length=5:=(Classical.choose_spec Yk).1 a b
theorem eG(a b:AB 64)(ha:a.length=5)(hb:b.length=5):As a b=AU a b:=(Classical.choose_spec Yk).2 a b ha hb
theorem TX(a b:AB 64)(ha:a.length=5)(hb:b.length=5):Ev prog (.call 156 [EE a,EE b] []) (.val (EE (As a b)) []):=by
 rw [eG a b ha hb]
 exact FS a b ha hb
theorem XM:∃f:BitVec 64→AB 64,(∀a,(f a).length=5)∧ ∀a,f a=AH a:=⟨AH,fun a=>by simp,fun a=>rfl⟩
noncomputable def Ld:BitVec 64→AB 64:=Classical.choose XM
@[simp] theorem xr(a:BitVec 64):(Ld a).length=5:=(Classical.choose_spec XM).1 a
theorem TU(a:BitVec 64):Ld a=AH a:=(Classical.choose_spec XM).2 a
theorem XR(a:BitVec 64):Ev prog (.call 155 [.c (.val (BP a))] []) (.val (EE (Ld a)) []):=by
 rw [TU a ]
 exact DA a
theorem Yl:∃f:AB 64→AB 64,(∀a,(f a).length=5)∧ ∀a,a.length=5→f a=Br a:=⟨fun a=>if a.length=5 then Br a else Af 5,fun a=>by dsimp only;split<;>simp [*],fun a ha=>if_pos ha⟩
noncomputable def Va:AB 64→AB 64:=Classical.choose Yl
@[simp] theorem xX(a:AB 64):(Va a).length=5:=(Classical.choose_spec Yl).1 a
theorem eV(a:AB 64)(ha:a.length=5):Va a=Br a:=(Classical.choose_spec Yl).2 a ha
theorem pt(a:AB 64)(ha:a.length=5):Ev prog (.call 159 [EE a] []) (.val (EE (Va a)) []):=by
 rw [eV a ha]
 exact Lh a ha
theorem dB:∃f:AB 64→AB 8,(∀a,(f a).length=32)∧ ∀a,a.length=5→f a=AL a:=⟨fun a=>if a.length=5 then AL a else Am 32,fun a=>by dsimp only;split<;>simp [*],fun a ha=>if_pos ha⟩
noncomputable def wL:AB 64→AB 8:=Classical.choose dB
@[simp] theorem yc(a:AB 64):(wL a).length=32:=(Classical.choose_spec dB).1 a
theorem lu(a:AB 64)(ha:a.length=5):wL a=AL a:=(Classical.choose_spec dB).2 a ha
theorem uI(a:AB 64)(ha:a.length=5):Ev prog (.call 160 [EE a] []) (.val (Co (wL a)) []):=by
 rw [lu a ha]
 exact EA a ha
theorem cO:∃f:AB 8→AB 64,(∀a,(f a).length=5)∧ ∀a,a.length=32→f a=NL a:=⟨fun a=>if a.length=32 then NL a else Af 5,fun a=>by dsimp only;split<;>simp [*],fun a ha=>if_pos ha⟩
noncomputable def eH:AB 8→AB 64:=Classical.choose cO
@[simp] theorem ye(a:AB 8):(eH a).length=5:=(Classical.choose_spec cO).1 a
theorem mL(a:AB 8)(ha:a.length=32):eH a=NL a:=(Classical.choose_spec cO).2 a ha
theorem sh(a:AB 8)(ha:a.length=32):Ev prog (.call 154 [Co a] []) (.val (EE (eH a)) []):=by
 rw [mL a ha]
 exact Xg a ha
theorem Xp:∃f:AB 8→AB 8,(∀a,(f a).length=32)∧ ∀a,a.length=32→f a=Fr a:=⟨fun a=>if a.length=32 then Fr a else Am 32,fun a=>by dsimp only;split<;>simp [*],fun a ha=>if_pos ha⟩
noncomputable def CY:AB 8→AB 8:=Classical.choose Xp
@[simp] theorem wx(a:AB 8):(CY a).length=32:=(Classical.choose_spec Xp).1 a
theorem fH(a:AB 8)(ha:a.length=32):CY a=Fr a:=(Classical.choose_spec Xp).2 a ha
theorem qz(a:AB 8)(ha:a.length=32):Ev prog (.call 153 [Co a] []) (.val (Co (CY a)) []):=by
 rw [fH a ha]
 exact ZK a ha
def Yx(gs:List (Nat×Nat))(i:Nat):Bool:=gs.any fun p=>p.1==i
theorem Emb.upd_up{ι:Emb}{b:Nat}(h:ι b=none)(l:Loc):ι.le (ι.upd b l):=
 ⟨fun b' x hb=>by
  have:b'≠b:=fun e=>by rw [e,h] at hb;cases hb
  rw [Emb.upd_ne this];exact hb,fun _ _ _ h=>h⟩
theorem alloc_at{k:Nat}{ι:Emb}{M:Ag}{w w':World}(hR:R ι M w){b:Nat}{cs:Array Value}{t:TypeId}{x:Arr}(hb0:ι b=none)(hm0:M[b]?=some (.row true x))(hk:k≤b)(hh:w'.heap=w.heap.push (.cells cs t (0,0)))(ho:w'.os=w.os)(ht:w'.tape=w.tape)(hu:w'.output=w.output)
  (hs:x.size≤cs.size) (hx:x.relAt ι cs 0) (hmp:x.isMap=false):Step k ι M w (ι.upd b ⟨w.heap.size,0,cs.size⟩) M w':=by
 have hle:=Emb.upd_up hb0 ⟨w.heap.size,0,cs.size⟩
 have hbl:b<M.length:=(List.getElem?_eq_some_iff.1 hm0).1
 have old:∀c,c<w.heap.size→w'.heap[c]?=w.heap[c]?:=fun c hc=>by rw [hh,Array.getElem?_push,if_neg O_]
 refine Step.make hR (fun b1 hb=>?_) (fun b1 l own y hb hm=>?_) (fun b1 b' l l' own own' y y' hne hb hb' hm hm' ho=>?_) ⟨ho,ht,hu,by rw [hh];simp,fun c hc _=>old c hc,fun c hc=>?_⟩ rfl (fun b1 hb=>Emb.upd_ne O_) O_ (fun _ _ _ h=>h) (fun _ _ x _ h=>⟨x,h⟩) (fun b1 l own y hb h1 h2=>?_)
 ·rw [Emb.upd_ne O_];exact hR.dom b1 hb
 ·by_cases e:b1=b
  ·subst e
   rw [Emb.upd_eq] at hb
   cases hb
   rw [hm0] at hm
   cases hm
   exact .of hmp ⟨cs,t,(0,0),by rw [hh,Array.getElem?_push,if_pos rfl],hs,hx.mono' hle,fun _=>⟨rfl,by simp⟩⟩
  ·rw [Emb.upd_ne e] at hb
   exact (hR.rows b1 l own y hb hm).heap (old _ (hR.lt hb hm)) hle
 ·by_cases e:b1=b
  ·subst e
   rw [Emb.upd_eq] at hb
   rw [Emb.upd_ne (fun e=>hne e.symm)] at hb'
   cases hb
   have:=hR.lt hb' hm'
   show w.heap.size≠l'.c
   omega
  ·rw [Emb.upd_ne e] at hb
   by_cases e':b'=b
   ·subst e'
    rw [Emb.upd_eq] at hb'
    cases hb'
    have:=hR.lt hb hm
    show l.c≠w.heap.size
    omega
   ·rw [Emb.upd_ne e'] at hb'
    exact hR.inj b1 b' l l' own own' y y' hne hb hb' hm hm' ho
 ·obtain ⟨b1,l,y,hb,hm,rfl⟩:=hc
  by_cases e:b1=b
  ·subst e
   rw [Emb.upd_eq] at hb
   cases hb
   exact .inl (Nat.le_refl _)
  ·rw [Emb.upd_ne e] at hb
   exact .inr ⟨b1,l,y,hb,hm,rfl⟩
 ·by_cases e:b1=b
  ·subst e
   rw [Emb.upd_eq] at h1
   cases h1
   exact .inl (Nat.le_refl _)
  ·rw [Emb.upd_ne e] at h1
   exact .inr (.inr ⟨b1,l,own,y,hb,h1,h2,rfl⟩)
def yl(P:Program)(k:Nat)(o:Oper)(b:Nat)(e:Operand→AV)(m:Ag)(v:AV):Prop:= ∀(ι:Emb) (w:World) (ρ:Operand→Value),R ι m w→ι b=none→(∀x∈o.op.operands,(e x).rel ι (ρ x))→ ∃u w' ι',(execOp ρ o).run P w= .ok (.value u) w'∧v.rel ι' u∧Step k ι m w ι' m w'∧ι.le ι'∧ ∀b',b'≠b→ι' b'=ι b'
theorem qh{P:Program}{k:Nat}{e:Operand→AV}{m:Ag}{b:Nat}{x:Arr}{t ty:TypeId}{dst:Option Tmp}{pos:String}{af:Array Edge}(hz:∀m,Cf P m t=some (.c (.ptr m.length 0),m++[.row true x]))(hm:m[b]?=some (.row true x))(hk:k≤b):yl P k ⟨dst,.alloc t,ty,pos,af,none⟩ b e m (.c (.ptr b 0)):=by
 intro ι w ρ hR hb _
 have h:=hz []
 unfold Cf at h
 split at h
 ·rename_i i hi
  split at h
  ·rename_i z hz'
   simp only [Option.some.injEq,Prod.mk.injEq,List.nil_append,List.cons.injEq,Row.row.injEq,and_true,true_and] at h
   subst h
   have hst:=alloc_at (k:=k) (w':=w.alloc (.cells z.cells t)) (t:=t) hR hb hm hk rfl rfl rfl rfl (by rw [(Dc ι z.cells.toList).1];simp) (JK ι z.cells) (Gw _)
   refine ⟨.pointer (some ⟨w.heap.size,0,none⟩),_,_,?_,⟨_,Emb.upd_eq _ _ _,rfl⟩,hst,Emb.upd_up hb _,fun b' hb'=>Emb.upd_ne hb'⟩
   simp [execOp,Instr.alloc,zeroValue,typeInfo,hi,hz',newVar,newRow]
  ·cases h
 ·cases h
structure Gi(P:Program)(ops:Array Oper)(cs:List Nat)(gs:List (Nat×Nat))(k:Nat)(A:Nat→St)(V:Nat→AV)(N0:Nat):Prop where
 h0:(A 0).n=N0
 gone:∀p∈gs,p.1<ops.size∧p.2<(A 0).m.length
 uniq:∀p∈gs,∀q∈gs,p.2=q.2→p.1=q.1
 gbef:∀(l i:Nat),l<ops.size→cs.contains l=true→Yx gs i=true→Ra ops l i=true
 pure:∀(i:Nat) (o:Oper),ops[i]?=some o→cs.contains i=false→Yx gs i=false→(∀c,c≤ops.size→(∀j,j<c→cs.contains j=true→Ra ops j i=false)→NO P o (AC (A i).t) (A c).m (V i))∧A (i+1)=⟨N0,CZ (A i).t o.dst (V i),(A i).m⟩
 made:∀(i:Nat) (o:Oper),ops[i]?=some o→Yx gs i=true→cs.contains i=false∧(∃b,(i,b)∈gs∧yl P k o b (AC (A i).t) (A 0).m (V i))∧A (i+1)=⟨N0,CZ (A i).t o.dst (V i),(A i).m⟩
 chain:∀(i:Nat) (o:Oper),ops[i]?=some o→cs.contains i=true→ ∃m',OH P (.op o.op (AC (A i).t) (A i).m) (.val (V i) m')∧A (i+1)=⟨N0,CZ (A i).t o.dst (V i),m'⟩
theorem qI{gs:List (Nat×Nat)}{i:Nat}(h:Yx gs i=true):∃b,(i,b)∈gs:=by
 unfold Yx at h
 obtain ⟨⟨a,b⟩,h1,h2⟩:=List.any_eq_true.1 h
 exact ⟨b,by simp at h2;subst h2;exact h1⟩
theorem uF{gs:List (Nat×Nat)}{p:Nat×Nat}(h:p∈gs):Yx gs p.1=true:=List.any_eq_true.2 ⟨p,h,by simp⟩
section
variable {P:Program} {ops:Array Oper} {cs:List Nat} {gs:List (Nat×Nat)} {M0:Ag} {A:Nat→St} {V:Nat→AV} {N0 k:Nat}
theorem Gi.next(h:Gi P ops cs gs k A V N0){i:Nat}{o:Oper}(ho:ops[i]?=some o):∃m',A (i+1)=⟨N0,CZ (A i).t o.dst (V i),m'⟩:=by
 cases hs:cs.contains i with
 |true=>obtain ⟨m',_,e⟩:=h.chain i o ho hs;exact ⟨m',e⟩
 |false=>cases hg:Yx gs i with
  |true=>exact ⟨_,(h.made i o ho hg).2.2⟩
  |false=>exact ⟨_,(h.pure i o ho hs hg).2⟩
theorem Gi.tmp1(h:Gi P ops cs gs k A V N0){i:Nat}(hi:i<ops.size){t:Nat}(ht:BG ops i≠some t):(A (i+1)).t t=(A i).t t:=by
 have ho:ops[i]?=some (ops[i]'hi):=Array.getElem?_eq_getElem hi
 have hd:BG ops i=(ops[i]'hi).dst:=by simp [BG,ho]
 rw [hd] at ht
 obtain ⟨m',e⟩:=h.next ho
 rw [e]
 show CZ (A i).t (ops[i]'hi).dst (V i) t=_
 cases hdd:(ops[i]'hi).dst with
 |none=>rfl
 |some d=>rw [hdd] at ht;exact upd_ne _ _ (fun e=>ht (by rw [e]))
theorem Gi.slot(h:Gi P ops cs gs k A V N0){i t:Nat}:∀d,i+d≤ops.size→(∀j,i≤j→j<i+d→BG ops j≠some t)→(A (i+d)).t t=(A i).t t
 |0,_,_=>rfl
 |d+1,hd,hno=>by
  rw [show i+(d+1)=i+d+1 by omega,h.tmp1 O_ (hno _ O_ O_),Gi.slot h d O_ fun j h1 h2=>hno j h1 O_]
theorem Gi.slot'(h:Gi P ops cs gs k A V N0){i j t:Nat}(hij:i≤j)(hj:j≤ops.size)(hno:∀l,i≤l→l<j→BG ops l≠some t):(A j).t t=(A i).t t:=by
 have:=h.slot (i:=i) (t:=t) (j-i) O_ (fun l h1 h2=>hno l h1 O_)
 rwa [show i+(j-i)=j by omega] at this
theorem Gi.mem(h:Gi P ops cs gs k A V N0){i:Nat}:∀d,i+d≤ops.size→(∀j,i≤j→j<i+d→cs.contains j=false)→(A (i+d)).m=(A i).m
 |0,_,_=>rfl
 |d+1,hd,hno=>by
  have hlt:i+d<ops.size:=by omega
  have ho:ops[i+d]?=some (ops[i+d]'hlt):=Array.getElem?_eq_getElem hlt
  have e:A (i+d+1)=⟨N0,CZ (A (i+d)).t (ops[i+d]'hlt).dst (V (i+d)),(A (i+d)).m⟩:=by
   cases hg:Yx gs (i+d) with
   |true=>exact (h.made (i+d) _ ho hg).2.2
   |false=>exact (h.pure (i+d) _ ho (hno _ O_ O_) hg).2
  rw [show i+(d+1)=i+d+1 by omega,e]
  exact Gi.mem h d O_ fun j h1 h2=>hno j h1 O_
theorem Gi.mem'(h:Gi P ops cs gs k A V N0){i j:Nat}(hij:i≤j)(hj:j≤ops.size)(hno:∀l,i≤l→l<j→cs.contains l=false):(A j).m=(A i).m:=by
 have:=h.mem (i:=i) (j-i) O_ (fun l h1 h2=>hno l h1 O_)
 rwa [show i+(j-i)=j by omega] at this
structure S4(ops:Array Oper)(cs:List Nat)(gs:List (Nat×Nat))(M0:Ag)(A:Nat→St)(k:Nat)(ι0:Emb)(w0:World)(a0:Act)(listed:Array Bool)(ι:Emb)(a:Act)(w:World):Prop where
 cut:∃j,j≤ops.size∧(∀i,i<ops.size→cs.contains i=true→(listed.getD i false=true↔i<j))∧(A 0).m.length≤(A j).m.length∧Step k ι0 M0 w0 ι (A j).m w
 unp:∀p∈gs,listed.getD p.1 false=false→ι p.2=none
 le:ι0.le ι
 hit:∀j,j<ops.size→listed.getD j false=true→ ∀d,BG ops j=some d→((A (j+1)).t d).rel ι (a.tmps.getD d undef)
 miss:∀t,(∀j,j<ops.size→listed.getD j false=true→BG ops j≠some t)→a.tmps.getD t undef=a0.tmps.getD t undef
 size:a.tmps.size=a0.tmps.size
 defers:a.defers=a0.defers
 head:HeadInv .any ops ops.size listed
theorem S4.agree(hl:Gi P ops cs gs k A V N0){ι0:Emb}{w0:World}{a0:Act}(hok:jh ops ops.size a0.tmps.size)(hf:DB ι0 (A 0) a0){listed:Array Bool}{ι:Emb}{a:Act}{w:World}(h:S4 ops cs gs M0 A k ι0 w0 a0 listed ι a w)
  {i:Nat} (hin:i<ops.size) {o:Oper} (ho:ops[i]?=some o) (hb:∀j,Ra ops i j=true→listed.getD j false=true) (hun:listed.getD i false=false):
  ∀t∈o.looksAt ops,((A i).t t).rel ι (a.tmps.getD t undef):=by
 intro t ht
 by_cases hex:∃j,j<ops.size∧BG ops j=some t
 ·obtain ⟨j,hj,hd⟩:=hex
  rcases hok.look i o t j hin ho ht hj hd with ⟨hji,hbij⟩ | ⟨hij,hbji⟩
  ·have hlj:=hb j hbij
   rw [hl.slot' (i:=j+1) O_ (Nat.le_of_lt hin) (fun l h1 h2 hd'=>by have:=hok.uniq l j t O_ hj hd' hd;omega)]
   exact h.hit j hj hlj t hd
  ·have hnl:listed.getD j false≠true:=fun hlt=>by
    have:=DX h.head.closed hbji (Array.getElem?_eq_getElem hj) (h.head.closed j _ (Array.getElem?_eq_getElem hj) hlt)
    rw [hun] at this;cases this
   rw [h.miss t (fun j' hj' hl' hd'=>hnl (by rw [←hok.uniq j' j t hj' hj hd' hd];exact hl')),hl.slot' (i:=0) (Nat.zero_le i) (Nat.le_of_lt hin) (fun l _ h2 hd'=>by have:=hok.uniq l j t O_ hj hd' hd;omega)]
   exact AV.rel_mono h.le (hf.rel t)
 ·have hno:∀j,j<ops.size→BG ops j≠some t:=fun j hj hd=>hex ⟨j,hj,hd⟩
  rw [h.miss t (fun j hj _=>hno j hj),hl.slot' (i:=0) (Nat.zero_le i) (Nat.le_of_lt hin) (fun l _ h2=>hno l O_)]
  exact AV.rel_mono h.le (hf.rel t)
theorem S4.next{ι0:Emb}{w0:World}{a0:Act}(hok:jh ops ops.size a0.tmps.size){listed:Array Bool}{ι ι':Emb}{a:Act}{w:World}(h:S4 ops cs gs M0 A k ι0 w0 a0 listed ι a w)(hle:ι.le ι')
  {i:Nat} (hi:i∈Region.ready .any ops listed) {o:Oper} (ho:ops[i]?=some o) {u:Value} {w':World}
  (hcut:∃j,j≤ops.size∧(∀i',i'<ops.size→cs.contains i'=true→((listed.setIfInBounds i true).getD i' false=true↔i'<j))∧(A 0).m.length≤(A j).m.length∧Step k ι0 M0 w0 ι' (A j).m w')
  (hnone:∀p∈gs,(listed.setIfInBounds i true).getD p.1 false=false→ι' p.2=none)
  (hu:∀d,o.dst=some d→((A (i+1)).t d).rel ι' u):S4 ops cs gs M0 A k ι0 w0 a0 (listed.setIfInBounds i true) ι' (a.put o.dst u) w':=by
 have hin:i<ops.size:=(Array.getElem?_eq_some_iff.1 ho).1
 have his:i<listed.size:=by rw [h.head.size];exact hin
 have hd:BG ops i=o.dst:=by simp [BG,ho]
 have hset:∀j,(listed.setIfInBounds i true).getD j false=true→j=i∨listed.getD j false=true:=fun j hj=>by
  by_cases hji:i=j
  ·exact .inl hji.symm
  ·rw [getD_set_ne false hji] at hj;exact .inr hj
 have hseti:(listed.setIfInBounds i true).getD i false=true:=by simp [his]
 refine ⟨hcut,hnone,⟨fun b l hb=>hle.f b l (h.le.f b l hb),fun c o v hc=>hle.tx c o v (h.le.tx c o v hc)⟩,fun j hj hlj d hdj=>?_,fun t ht=>?_,by rw [show (a.put o.dst u).tmps.size=a.tmps.size by cases o.dst<;>simp [Act.put]];exact h.size,by rw [show (a.put o.dst u).defers=a.defers by cases o.dst<;>rfl];exact h.defers,h.head.set hi hin⟩
 ·by_cases hji:j=i
  ·subst hji
   rw [hd] at hdj
   rw [hdj,NX a d d u (by rw [h.size];exact hok.lt j d hj (by rw [hd];exact hdj)),if_pos rfl]
   exact hu d hdj
  ·have hlj':=(hset j hlj).resolve_left hji
   have hne:o.dst≠some d:=fun e=>hji (hok.uniq j i d hj hin hdj (by rw [hd];exact e))
   rw [JH a u hne]
   exact AV.rel_mono hle (h.hit j hj hlj' d hdj)
 ·have h1:o.dst≠some t:=by rw [←hd];exact ht i hin hseti
  rw [JH a u h1]
  exact h.miss t fun j hj hlj=>ht j hj (getD_set_true hlj)
theorem S4.run{Q':Exit→Act→World→Prop}(hl:Gi P ops cs gs k A V N0){ι0:Emb}{w0:World}{a0:Act}(hS:wY ops cs a0.tmps.size)(hf:DB ι0 (A 0) a0){listed:Array Bool}{ι:Emb}{a:Act}{w:World}(h:S4 ops cs gs M0 A k ι0 w0 a0 listed ι a w)
  {i:Nat} (hi:i∈Region.ready .any ops listed) {K:Act→World→Prop} (hK:∀ι' a' w',S4 ops cs gs M0 A k ι0 w0 a0 (listed.setIfInBounds i true) ι' a' w'→K a' w'):wpOp P ops Q' i K a w:=by
 have hok:=hS.ok
 have hr:=mem_ready.1 hi
 have hun:listed.getD i false=false:=getD_both hr.1
 obtain ⟨_,o,ho,hall⟩:=hr
 have hin:i<ops.size:=(Array.getElem?_eq_some_iff.1 ho).1
 have hd:BG ops i=o.dst:=by simp [BG,ho]
 have hdeps:∀j,Ra ops i j=true→listed.getD j false=true:=fun j hb=>DX h.head.closed hb ho hall
 have hag:=h.agree hl hok hf hin ho hdeps hun
 have hopnd:∀x∈o.op.operands,(AC (A i).t x).rel ι (a.eval x):=by
  intro x hx
  cases x with
  |tmp t=>exact hag t (List.mem_append_left _ (List.mem_filterMap.2 ⟨.tmp t,by simpa using hx,rfl⟩))
  |const v=>exact AV.rel_of0 (OC _ v)
  |global g=>trivial
  |func f=>rfl
 obtain ⟨c,hc,hcl,hcn,hst⟩:=h.cut
 have his:i<listed.size:=by rw [h.head.size];exact hin
 unfold wpOp
 simp only [ho]
 rw [show Region.wanted o (yielded ops a.tmps)=true by unfold Region.wanted;rw [hS.guard i o ho],if_pos rfl]
 refine .inl ?_;have hval:∀ {ι':Emb} {u:Value},(V i).rel ι' u→ ∀d,o.dst=some d→((A (i+1)).t d).rel ι' u:=fun hv d hdd=>by
  obtain ⟨m',e⟩:=hl.next ho
  rw [e]
  show (CZ (A i).t o.dst (V i) d).rel _ _
  rw [hdd]
  show (upd (A i).t d (V i) d).rel _ _
  rw [upd_eq]
  exact hv
 have hlow:∀j,(listed.setIfInBounds i true).getD j false=false→listed.getD j false=false:=fun j hj=>by
  cases hb:listed.getD j false with
  |false=>rfl
  |true=>rw [getD_set_true hb] at hj;cases hj
 cases hs:cs.contains i with
 |false=>
  cases hg:Yx gs i with
  |false=>
   obtain ⟨hv,hstep⟩:=hl.pure i o ho hs hg
   have hfree:∀j,j<c→cs.contains j=true→Ra ops j i=false:=fun j hj hs'=>by
    have hjn:j<ops.size:=by omega
    have hlj:=(hcl j hjn hs').2 hj
    cases hb:Ra ops j i with
    |false=>rfl
    |true=>
     have:=DX h.head.closed hb (Array.getElem?_eq_getElem hjn) (h.head.closed j _ (Array.getElem?_eq_getElem hjn) hlj)
     rw [hun] at this;cases this
   refine (hv c hc hfree ι w a.eval hst.r hopnd).wp rfl fun u w' ι1 hv1 hst2=>?_
   refine hK ι1 _ _ (h.next hok (hst2.le hst.r) hi ho ⟨c,hc,fun i' hi' hs'=>?_,hcn,hst.comp (hst2.low hst.len)⟩ (fun p hp hl'=>?_) (hval hv1))
   rotate_left
   ·rw [hst2.ext p.2 (Nat.lt_of_lt_of_le (hl.gone p hp).2 hcn)];exact h.unp p hp (hlow p.1 hl')
   have hne:i≠i':=fun e=>by subst e;rw [hs] at hs';cases hs'
   rw [getD_set_ne false hne]
   exact hcl i' hi' hs'
  |true=>
   obtain ⟨_,hv,hstep⟩:=hl.made i o ho hg
   have hm:(A c).m=(A 0).m:=by
    refine hl.mem' (Nat.zero_le _) hc fun l _ h2=>?_
    cases hs':cs.contains l with
    |false=>rfl
    |true=>
     have hln:l<ops.size:=by omega
     have hll:=(hcl l hln hs').2 h2
     have:=DX h.head.closed (hl.gbef l i hln hs' hg) (Array.getElem?_eq_getElem hln) (h.head.closed l _ (Array.getElem?_eq_getElem hln) hll)
     rw [hun] at this;cases this
   obtain ⟨bb,hbb,hv⟩:=hv
   have hst0:=hst
   rw [hm] at hst
   obtain ⟨u,w',ι1,hrun,hv1,hst2,hle2,hext2⟩:=hv ι w a.eval hst.r (h.unp _ hbb hun) hopnd
   unfold Oper.wp
   rw [hrun]
   refine hK ι1 _ _ (h.next hok hle2 hi ho ⟨c,hc,fun i' hi' hs'=>?_,hcn,by rw [hm];exact hst.comp hst2⟩ (fun p hp hl'=>?_) (hval hv1))
   rotate_left
   ·rw [hext2 p.2 (fun e=>by
     have e1:p.1=i:=hl.uniq p hp (i,bb) hbb e
     rw [e1] at hl'
     simp [his] at hl')]
    exact h.unp p hp (hlow p.1 hl')
   have hne:i≠i':=fun e=>by subst e;rw [hs] at hs';cases hs'
   rw [getD_set_ne false hne]
   exact hcl i' hi' hs'
 |true=>
  obtain ⟨m',hv,hstep⟩:=hl.chain i o ho hs
  have hci:c≤i:=by
   have:=(hcl i hin hs).2
   rcases Nat.lt_or_ge i c with h' | h'
   ·rw [this h'] at hun;cases hun
   ·exact h'
  have hm:(A i).m=(A c).m:=by
   refine hl.mem' hci (Nat.le_of_lt hin) fun l h1 h2=>?_
   cases hs':cs.contains l with
   |false=>rfl
   |true=>
    have:=(hcl l O_ hs').1 (hdeps l (hS.chain l i h2 hin hs' hs))
    omega
  rw [←hm] at hst
  refine (hv o ι w a.eval rfl hst.r hopnd).wp rfl fun u w' ι1 hv1 hst2=>?_
  have hst3:Step k ι0 M0 w0 ι1 (A (i+1)).m w':=by
   rw [hstep]
   exact hst.comp (hst2.low hst.len)
  refine hK ι1 _ _ (h.next hok (hst2.le hst.r) hi ho ⟨i+1,hin,fun i' hi' hs'=>?_,by rw [hstep];exact Nat.le_trans hcn (by rw [←hm];exact hst2.len),hst3⟩ (fun p hp hl'=>?_) (hval hv1))
  rotate_left
  ·rw [hst2.ext p.2 (Nat.lt_of_lt_of_le (hl.gone p hp).2 (by rw [hm];exact hcn))];exact h.unp p hp (hlow p.1 hl')
  by_cases hne:i=i'
  ·subst hne;simp [his]
  ·rw [getD_set_ne false hne]
   constructor
   ·intro hli
    rcases Nat.lt_or_ge i' (i+1) with h' | h'
    ·exact h'
    ·have:=DX h.head.closed (hS.chain i i' O_ hi' hs hs') (Array.getElem?_eq_getElem hi') (h.head.closed i' _ (Array.getElem?_eq_getElem hi') hli)
     rw [hun] at this;cases this
   ·intro hlt
    exact hdeps i' (hS.chain i' i O_ hin hs' hs)
theorem S4.any{Q':Exit→Act→World→Prop}(hl:Gi P ops cs gs k A V N0){ι0:Emb}{w0:World}{a0:Act}(hS:wY ops cs a0.tmps.size)(hf:DB ι0 (A 0) a0)
  (hQ:∀ι' a' w',DB ι' (A ops.size) a'→a'.defers=a0.defers→Step k ι0 M0 w0 ι' (A ops.size).m w'→Q' .normal a' w'):
  ∀(f:Nat) (un:List Nat) (listed:Array Bool) (ι:Emb) (a:Act) (w:World),un.length=f→un.Nodup→(∀j,j∈un↔j<ops.size∧listed.getD j false=false)→S4 ops cs gs M0 A k ι0 w0 a0 listed ι a w→wpAny P .any ops Q' f listed a w:=by
 have hok:=hS.ok
 intro f
 induction f with
 |zero=>
  intro un listed ι a w hlu _ hun h
  obtain rfl:un=[]:=List.length_eq_zero_iff.1 hlu
  have hdone:∀j,j<ops.size→listed.getD j false=true:=fun j hj=>by
   cases hb:listed.getD j false with
   |true=>rfl
   |false=>have:=(hun j).2 ⟨hj,hb⟩;simp at this
  have hnil:Region.ready .any ops listed=[]:=by
   cases hr:Region.ready .any ops listed with
   |nil=>rfl
   |cons x xs=>
    have hx:x∈Region.ready .any ops listed:=by rw [hr];exact List.mem_cons_self
    obtain ⟨h1,o,ho,_⟩:=mem_ready.1 hx
    have:=hdone x (Array.getElem?_eq_some_iff.1 ho).1
    rw [getD_both h1] at this;cases this
  refine ⟨hnil,?_⟩
  obtain ⟨c,hc,hcl,hcn,hst⟩:=h.cut
  have hm:(A ops.size).m=(A c).m:=by
   refine hl.mem' hc (Nat.le_refl _) fun l h1 h2=>?_
   cases hs':cs.contains l with
   |false=>rfl
   |true=>have:=(hcl l h2 hs').1 (hdone l h2);omega
  rw [←hm] at hst
  have hnn:(A ops.size).n=N0:=by
   cases hz:ops.size with
   |zero=>exact hl.h0
   |succ z=>
    have hlt:z<ops.size:=by omega
    obtain ⟨m',e⟩:=hl.next (Array.getElem?_eq_getElem hlt)
    rw [e]
  refine hQ ι a w ⟨by rw [h.size,hf.size,hl.h0,hnn],fun t=>?_⟩ h.defers hst
  by_cases hex:∃j,j<ops.size∧BG ops j=some t
  ·obtain ⟨j,hj,hd⟩:=hex
   rw [hl.slot' (i:=j+1) O_ (Nat.le_refl _) (fun l h1 h2 hd'=>by have:=hok.uniq l j t O_ hj hd' hd;omega)]
   exact h.hit j hj (hdone j hj) t hd
  ·have hno:∀j,j<ops.size→BG ops j≠some t:=fun j hj hd=>hex ⟨j,hj,hd⟩
   rw [h.miss t (fun j hj _=>hno j hj),hl.slot' (i:=0) (Nat.zero_le _) (Nat.le_refl _) (fun l _ h2=>hno l O_)]
   exact AV.rel_mono h.le (hf.rel t)
 |succ f ih=>
  intro un listed ι a w hlu hnd hun h
  refine ⟨fun hnil=>?_,fun i hi=>?_⟩
  ·obtain ⟨i0,hi0⟩:∃i0,i0∈un:=by cases un with | nil=>simp at hlu | cons x _=>exact ⟨x,List.mem_cons_self⟩
   have least:∀m i,i≤m→i∈un→ ∃j,j∈Region.ready .any ops listed:=by
    intro m
    induction m with
    |zero=>
     intro i him hiu
     obtain ⟨hin,hb⟩:=(hun i).1 hiu
     refine ⟨i,mem_ready.2 ⟨getD_in (by rw [h.head.size];exact hin) hb,ops[i]'hin,Array.getElem?_eq_getElem hin,fun e he hbind=>?_⟩⟩
     have:=hS.back i _ e (Array.getElem?_eq_getElem hin) he hbind
     omega
    |succ m ihm=>
     intro i him hiu
     obtain ⟨hin,hb⟩:=(hun i).1 hiu
     by_cases hall:∀e∈(ops[i]'hin).after,Region.binds .any e=true→listed.getD e.on false=true
     ·exact ⟨i,mem_ready.2 ⟨getD_in (by rw [h.head.size];exact hin) hb,_,Array.getElem?_eq_getElem hin,hall⟩⟩
     ·have:∃e∈(ops[i]'hin).after,Region.binds .any e=true∧listed.getD e.on false=false:=by
       apply Classical.byContradiction
       intro hc
       apply hall
       intro e he hbind
       cases hlb:listed.getD e.on false with
       |true=>rfl
       |false=>exact absurd ⟨e,he,hbind,hlb⟩ hc
      obtain ⟨e,he,hbind,hlb⟩:=this
      have hlt:=hS.back i _ e (Array.getElem?_eq_getElem hin) he hbind
      exact ihm e.on O_ ((hun e.on).2 ⟨by omega,hlb⟩)
   obtain ⟨j,hj⟩:=least i0 i0 (Nat.le_refl _) hi0
   rw [hnil] at hj;cases hj
  ·obtain ⟨hun0,o,ho,_⟩:=mem_ready.1 hi
   have hin:i<ops.size:=(Array.getElem?_eq_some_iff.1 ho).1
   refine h.run hl hS hf hi fun ι' a' w' h'=>?_
   have himem:i∈un:=(hun i).2 ⟨hin,getD_both hun0⟩
   refine ih (un.erase i) _ ι' a' w' (by rw [List.length_erase_of_mem himem,hlu];rfl) (hnd.erase i) (fun j=>?_) h'
   rw [hnd.mem_erase_iff,hun j]
   by_cases hji:j=i
   ·subst hji
    have his:j<listed.size:=by rw [h.head.size];exact hin
    simp [his]
   ·rw [getD_set_ne false (fun e=>hji e.symm)]
    simp [hji]
theorem Vw{k:Nat}{ι:Emb}{w:World}:∀(G M:Ag),R ι M w→k≤M.length→Step k ι M w ι (M++G) w
 |[],M,hR,hk=>by rw [List.append_nil];exact Step.refl hR hk
 |r::G,M,hR,hk=>by
  have h:=Qw hR r hk
  rw [List.append_cons]
  exact h.comp (Vw G (M++[r]) h.r (by simp;omega))
theorem bH {Q : Exit → Act → World → Prop} {id : Nat} (G : Ag) (hm : P.follows .mixedOrders = true) (hl : Gi P ops cs gs k A V (A 0).n) (hall : Region.okChain ops cs (A 0).n = true) (hD : (A 0).m = M0 ++ G) (hgs : ∀ p ∈ gs, M0.length ≤ p.2) {ι : Emb} {w : World} {a : Act} (hf : DB ι (A 0) a) (hR : R ι M0 w) (hk : k ≤ M0.length)
    (hQ : ∀ ι' a' w', DB ι' (A ops.size) a' → a'.defers = a.defers → Step k ι M0 w ι' (A ops.size).m w' → Q .normal a' w') : (Code.region id ops true).wp P Q a w := by
  refine wp_region_any hm ?_
  have hRd : R ι M0 w.drew := ⟨hR.dom, hR.rows, hR.inj, hR.stay⟩
  have hinv : S4 ops cs gs M0 A k ι w.drew a (Array.replicate ops.size false) ι a w.drew :=
    ⟨⟨0, Nat.zero_le _, fun i _ _ => by rw [getD_replicate_false]; simp, Nat.le_refl _, by rw [hD]; exact Vw G _ hRd hk⟩, fun p hp _ => hR.dom _ (hgs p hp), .refl _, fun j _ hl => (by rw [getD_replicate_false] at hl; cases hl), fun _ _ => rfl, rfl, rfl,
      ⟨by simp, fun j oj _ hl => (by rw [getD_replicate_false] at hl; cases hl), fun t ht ht' => by omega⟩⟩
  exact S4.any (w0 := w.drew) (Q' := Q) hl (Region.okChain_spec (by rw [hf.size]; exact hall)) hf
    (fun ι' a' w' h1 h2 h3 => hQ ι' a' w' h1 h2 ⟨h3.r, ⟨h3.trans.os, h3.trans.tape, h3.trans.output, h3.trans.size, h3.trans.keep, h3.trans.fresh⟩, h3.tx, h3.txn, h3.ext, h3.len, h3.ro, h3.old, h3.news⟩) ops.size (List.range ops.size) _ _ _ _ (by simp) List.nodup_range (fun j => by rw [getD_replicate_false]; simp) hinv
end
def pu (P : Program) (ops : Array Oper) (S : List Nat) (D k : Nat) (M0 : Ag) (cs : List (Nat × List Nat)) (gs : List (Nat × Nat)) (K : St → Prop) : Nat → List Oper → St → Prop
  | _, [], s => K s
  | i, o :: l, s => ((cs.map (·.1)).contains i = true ∧ Yx gs i = false ∧ ∃ v m' rs, (i, rs) ∈ cs ∧ Ev P (.op o.op (AC s.t) s.m) (.val v m') ∧ (m'.length = s.m.length ∧ ∀ c, rs.contains c = false → m'[c]? = s.m[c]?) ∧ pu P ops S D k M0 cs gs K (i + 1) l ⟨s.n, CZ s.t o.dst v, m'⟩) ∨
      ((cs.map (·.1)).contains i = false ∧ Yx gs i = false ∧ ∃ v, (∀ m, (Cx S D M0 m ∧ Cx (OJ ops cs i) D M0 m) → NO P o (AC s.t) m v) ∧ pu P ops S D k M0 cs gs K (i + 1) l ⟨s.n, CZ s.t o.dst v, s.m⟩) ∨
      ((cs.map (·.1)).contains i = false ∧ Yx gs i = true ∧ ∃ b v, (i, b) ∈ gs ∧ yl P k o b (AC s.t) M0 v ∧ pu P ops S D k M0 cs gs K (i + 1) l ⟨s.n, CZ s.t o.dst v, s.m⟩)
structure jg(P:Program)(ops:Array Oper)(S:List Nat)(D k:Nat)(M0:Ag)(cs:List (Nat×List Nat))(gs:List (Nat×Nat))(i:Nat)(l:List Oper)(s:St)(K:St→Prop):Prop where
 h:pu P ops S D k M0 cs gs K i l s
def kI(P:Program)(ops:Array Oper)(S:List Nat)(D k:Nat)(M0:Ag)(cs:List (Nat×List Nat))(gs:List (Nat×Nat))(N0 i:Nat)(o:Oper)(s s':St)(v:AV):Prop:=
 ((cs.map (·.1)).contains i=false→Yx gs i=false→(∀m,(Cx S D M0 m∧Cx (OJ ops cs i) D M0 m)→NO P o (AC s.t) m v)∧s'=⟨N0,CZ s.t o.dst v,s.m⟩)∧
 (Yx gs i=true→(cs.map (·.1)).contains i=false∧(∃b,(i,b)∈gs∧yl P k o b (AC s.t) M0 v)∧s'=⟨N0,CZ s.t o.dst v,s.m⟩)∧
 ((cs.map (·.1)).contains i=true→ ∃m',Ev P (.op o.op (AC s.t) s.m) (.val v m')∧s'=⟨N0,CZ s.t o.dst v,m'⟩)
theorem pu.line{P:Program}{ops:Array Oper}{S:List Nat}{D k:Nat}{M0:Ag}{cs:List (Nat×List Nat)}{gs:List (Nat×Nat)}{K:St→Prop}{N0:Nat}:∀ {l:List Oper} {i:Nat} {s:St},pu P ops S D k M0 cs gs K i l s→s.n=N0→Cx (DH cs i) D M0 s.m→ ∃(A:Nat→St) (V:Nat→AV),A 0=s∧(∀c,c≤l.length→Cx (DH cs (i+c)) D M0 (A c).m)∧
  (∀j o,l[j]?=some o→kI P ops S D k M0 cs gs N0 (i+j) o (A j) (A (j+1)) (V j))∧K (A l.length)
 |[],i,s,h,_,ha=>⟨fun _=>s,fun _=> .c .any,rfl,fun c hc=>ha.sub (Fe cs O_),fun j o h=>by simp at h,h⟩
 |o::l,i,s,h,hn,ha=>by
  have hor:∃v m',Cx (DH cs (i+1)) D M0 m'∧pu P ops S D k M0 cs gs K (i+1) l ⟨s.n,CZ s.t o.dst v,m'⟩∧kI P ops S D k M0 cs gs N0 i o s ⟨s.n,CZ s.t o.dst v,m'⟩ v:=by
   rcases h with ⟨hs,hg,v,m',rs,hin,hv,hag0,hr⟩ | ⟨hs,hg,v,hv,hr⟩ | ⟨hs,hg,b,v,hb,hv,hr⟩
   ·have hag:Cx (DH cs (i+1)) D M0 m':=by
     refine ⟨by rw [hag0.1];exact ha.1,fun b hb hn=>?_⟩
     have h1:rs.contains b=false:=by
      cases hc:rs.contains b with
      |false=>rfl
      |true=>
       have:b∈DH cs (i+1):=by
        simp only [DH,List.mem_flatMap,List.mem_filter,decide_eq_true_eq]
        exact ⟨(i,rs),⟨hin,by simp⟩,by simpa using hc⟩
       rw [show (DH cs (i+1)).contains b=true by simpa using this] at hn
       cases hn
     rw [hag0.2 b h1]
     exact (ha.sub (Fe cs (Nat.le_succ i))).2 b hb hn
    exact ⟨v,m',hag,hr,fun h=>(by rw [hs] at h;cases h),fun h=>(by rw [hg] at h;cases h),fun _=>⟨m',hv,by rw [hn]⟩⟩
   ·exact ⟨v,s.m,ha.sub (Fe cs O_),hr,fun _ _=>⟨hv,by rw [hn]⟩,fun h=>(by rw [hg] at h;cases h),fun h=>by rw [hs] at h;cases h⟩
   ·exact ⟨v,s.m,ha.sub (Fe cs O_),hr,fun _ h=>(by rw [hg] at h;cases h),fun _=>⟨hs,⟨b,hb,hv⟩,by rw [hn]⟩,fun h=>by rw [hs] at h;cases h⟩
  obtain ⟨v,m',hag,hr,hz⟩:=hor
  obtain ⟨A,V,h0,hc,h1,h2⟩:=pu.line (s:=⟨s.n,CZ s.t o.dst v,m'⟩) hr hn hag
  refine ⟨fun i=>match i with | 0=>s | i+1=>A i,fun i=>match i with | 0=>v | i+1=>V i,rfl,fun c hcl=>?_,fun j o' h=>?_,h2⟩
  ·cases c with
   |zero=>exact ha
   |succ c=>have:=hc c (by simpa using hcl);rwa [show i+1+c=i+(c+1) by omega] at this
  ·cases j with
   |zero=>simp at h;subst h;simp only;rw [h0];exact hz
   |succ j=>rw [show i+(j+1)=i+1+j by omega];exact h1 j o' (by simpa using h)
def fV(ops:Array Oper)(cs:List Nat)(gs:List (Nat×Nat))(n lo hi:Nat):Bool:=
 gs.all fun p=>decide (p.1<n)&&decide (lo≤p.2)&&decide (p.2<hi)&&(gs.all fun q=> !(p.2==q.2) || p.1==q.1)&&cs.all fun l=>Ra ops l p.1
theorem gR{P:Program}{k id:Nat}{l:List Oper}{s:St}{Φ:Ex→St→Prop}(G:Ag)(gs:List (Nat×Nat))(cs:List (Nat×List Nat))(S:List Nat)(D:Nat)(M0:Ag)(hM0:s.m++G=M0)(hm:P.follows .mixedOrders=true)(hok:Region.okChain l.toArray (cs.map (·.1)) s.n=true)(hS:(cs.flatMap (·.2)).all (S.contains ·)=true)(hG:fV l.toArray (cs.map (·.1)) gs l.length s.m.length M0.length=true)
  (h:jg P l.toArray S D s.m.length M0 cs gs 0 l ⟨s.n,s.t,M0⟩ (Φ .normal)):WC P k (.region id l.toArray true) s Φ:=by
 subst hM0
 simp only [fV,List.all_eq_true,Bool.and_eq_true,decide_eq_true_eq,Bool.or_eq_true,Bool.not_eq_true',beq_eq_false_iff_ne,beq_iff_eq,ne_eq] at hG
 obtain ⟨A,V,h0,hc,h1,h3⟩:=pu.line (N0:=s.n) h.h rfl ⟨Nat.le_add_right _ _,fun _ _ _=>rfl⟩
 have hA:(A 0).m=s.m++G:=by rw [h0]
 have hAn:(A 0).n=s.n:=by rw [h0]
 refine ⟨⟨.normal,A l.length,Ev.snd ?_,h3⟩⟩
 intro ι w a hk hR hf Q hQ
 have hl:Gi P l.toArray (cs.map (·.1)) gs k A V (A 0).n:=by
  refine ⟨rfl,fun p hp=>⟨by simpa using (hG p hp).1.1.1.1,by rw [hA];exact (hG p hp).1.1.2⟩,fun p hp q hq e=>((hG p hp).1.2 q hq).resolve_left (fun h=>h e),fun l' i hl' hs hg=>?_,fun i o ho hs hg=>?_,fun i o ho hg=>?_,fun i o ho hs=>?_⟩
  ·obtain ⟨b,hb⟩:=qI hg
   exact (hG (i,b) hb).2 l' (by simpa using hs)
  ·have hz:=h1 i o (by simpa using ho)
   rw [Nat.zero_add] at hz
   obtain ⟨g1,g2⟩:=hz.1 hs hg
   refine ⟨fun c hcl hfree=>g1 _ ?_,by rw [hAn];exact g2⟩
   have hag:=hc c (by simpa using hcl)
   rw [Nat.zero_add] at hag
   refine ⟨hag.sub fun x hx=>?_,hag.sub fun x hx=>?_⟩
   ·simp only [DH,List.mem_flatMap,List.mem_filter] at hx
    obtain ⟨p,⟨q1,_⟩,q2⟩:=hx
    have:=List.all_eq_true.1 hS x (List.mem_flatMap.2 ⟨p,q1,q2⟩)
    simpa using this
   ·simp only [DH,OJ,List.mem_flatMap,List.mem_filter,decide_eq_true_eq] at hx ⊢
    obtain ⟨p,⟨q1,q3⟩,q2⟩:=hx
    refine ⟨p,⟨q1,?_⟩,q2⟩
    rw [hfree p.1 q3 (by simp only [List.contains_iff_mem];exact List.mem_map.2 ⟨p,q1,rfl⟩)]
    rfl
  ·have hz:=h1 i o (by simpa using ho)
   rw [Nat.zero_add] at hz
   obtain ⟨g1,⟨b,g2,g3⟩,g4⟩:=hz.2.1 hg
   refine ⟨g1,⟨b,g2,fun ι w ρ q1 q2 q3=>?_⟩,by rw [hAn];exact g4⟩
   rw [hA] at q1 ⊢
   obtain ⟨u,w',ι',r1,r2,r3,r4,r5⟩:=g3 ι w ρ q1 q2 q3
   exact ⟨u,w',ι',r1,r2,r3.low hk,r4,r5⟩
  ·have hz:=h1 i o (by simpa using ho)
   rw [Nat.zero_add] at hz
   obtain ⟨m',g1,g2⟩:=hz.2.2 hs
   exact ⟨m',sound g1,by rw [hAn];exact g2⟩
 have hf':DB ι (A 0) a:=by rw [h0];exact ⟨hf.size,hf.rel⟩
 exact bH (Q:=Q) (M0:=s.m) G hm hl (by rw [hAn];exact hok) hA (fun p hp=>(hG p hp).1.1.1.2) hf' hR hk fun ι' a' w' g1 g2 g3=>hQ ι' a' w' (by simpa using g1) g2 (by simpa using g3)
section
variable {P:Program} {ops:Array Oper} {S:List Nat} {D kk:Nat} {M0 M M':Ag} {cs:List (Nat×List Nat)} {gs:List (Nat×Nat)} {i N d:Nat} {l:List Oper} {T:Nat→AV} {K:St→Prop} {op:Op} {v:AV} {ty:TypeId} {pos:String} {af:Array Edge}
theorem lE{s:St}(h:K s):jg P ops S D kk M0 cs gs i [] s K:=⟨h⟩
theorem TE(S':List Nat)(hS:(OJ ops cs i).all (S'.contains ·)=true)(h:AI P (AC T) (Gv S' D M0) op=some v)(hs:(cs.map (·.1)).contains i=false)(hk:jg P ops S D kk M0 cs gs (i+1) l ⟨N,upd T d v,M⟩ K)(hg:Yx gs i=false:=by rfl):jg P ops S D kk M0 cs gs i (⟨some d,op,ty,pos,af,none⟩::l) ⟨N,T,M⟩ K:=
 ⟨.inr (.inl ⟨hs,hg,v,fun _ ha=>UH (ha.2.sub fun x hx=>by have:=List.all_eq_true.1 hS x hx;simpa using this) h,hk.h⟩)⟩
theorem lK(h:Ev P (.op op (AC T) (BT (Gv S D M0))) (.val v (BT (Gv S D M0)++[])))(hn:∀ρ,v.ren ρ=v)(hs:(cs.map (·.1)).contains i=false)(hk:jg P ops S D kk M0 cs gs (i+1) l ⟨N,upd T d v,M⟩ K)(hg:Yx gs i=false:=by rfl):jg P ops S D kk M0 cs gs i (⟨some d,op,ty,pos,af,none⟩::l) ⟨N,T,M⟩ K:=
 ⟨.inr (.inl ⟨hs,hg,v,fun _ ha=>fv ha.1 (by rwa [List.append_nil] at h) hn,hk.h⟩)⟩
theorem TT(b:Nat){t:TypeId}{x:Arr}(hz:∀m,Cf P m t=some (.c (.ptr m.length 0),m++[.row true x]))(hm:M0[b]?=some (.row true x))(hb:Nat.ble kk b=true)(hs:(cs.map (·.1)).contains i=false)(hg:gs.contains (i,b)=true)(hk:jg P ops S D kk M0 cs gs (i+1) l ⟨N,upd T d (.c (.ptr b 0)),M⟩ K):jg P ops S D kk M0 cs gs i (⟨some d,.alloc t,ty,pos,af,none⟩::l) ⟨N,T,M⟩ K:=
 ⟨.inr (.inr ⟨hs,uF (p:=(i,b)) (by simpa using hg),b,_,by simpa using hg,qh hz hm (Nat.le_of_ble_eq_true hb),hk.h⟩)⟩
theorem wW{b:Nat}{r:Row}(hM:M.set b r=M'):M'.length=M.length∧ ∀c,[b].contains c=false→M'[c]?=M[c]?:=by
 subst hM
 refine ⟨by simp,fun c hc=>List.getElem?_set_ne (fun e=>?_)⟩
 rw [e] at hc
 simp at hc
theorem ua{b:Nat}{r:Row}(h:CK P (AC T) M op=some (v,M'))(hM:M.set b r=M')(hk:jg P ops S D kk M0 cs gs (i+1) l ⟨N,T,M'⟩ K)(hs:cs.contains (i,[b])=true)(hg:Yx gs i=false):jg P ops S D kk M0 cs gs i (⟨none,op,ty,pos,af,none⟩::l) ⟨N,T,M⟩ K:=by
 have hin:(i,[b])∈cs:=by simpa using hs
 exact ⟨.inl ⟨by simp only [List.contains_iff_mem];exact List.mem_map.2 ⟨_,hin,rfl⟩,hg,v,M',[b],hin,Ev.mem h,wW hM,hk.h⟩⟩
theorem ju{t:TypeId}{a v:Operand}{b:Nat}{x y:Arr}(ha:AC T a= .c (.ptr b 0))(hv:AC T v= .agg y)(hm:M[b]?=some (.row true x))(h1:y.one=true){n:Nat}(hsz:DN P t=some n)(hy:y.size=n)(hx:x.size=n)(hM:M.set b (.row true y)=M')
  (hk:jg P ops S D kk M0 cs gs (i+1) l ⟨N,T,M'⟩ K) (hxm:x.isMap=false:=by rfl) (hs:cs.contains (i,[b])=true:=by rfl) (hg:Yx gs i=false:=by rfl):jg P ops S D kk M0 cs gs i (⟨none,.store t a v,ty,pos,af,none⟩::l) ⟨N,T,M⟩ K:=
 ua (v:= .c .any) (by simp [CK,H4,ha,hv,hm,h1,hsz,hx,hy,hM,hxm]) hM hk hs hg
end
noncomputable def Ep(J5 J6 J7 J8:AB 64):AB 64:=Ap (As (Ap (Ar J7 J8) (As J5 J6)) (Ap (As J7 J8) (Ar J5 J6))) (As (Ap (Ar J7 J8) (As J5 J6)) (Ap (As J7 J8) (Ar J5 J6)))
@[simp] theorem NQ(J5 J6 J7 J8:AB 64):(Ep J5 J6 J7 J8).length=5:=by simp [Ep]
noncomputable def D8(place:AB 8)(J5 J6 J7 J8:AB 64):AB 64:=Ap (eH (put place 31 ((nth place 31)&&&127#8))) (Ap (Ar (Ap (Ar J7 J8) (As J5 J6)) (Ap (As J7 J8) (Ar J5 J6))) (Ar (Ap (Ar J7 J8) (As J5 J6)) (Ap (As J7 J8) (Ar J5 J6))))
@[simp] theorem NH(place:AB 8)(J5 J6 J7 J8:AB 64):(D8 place J5 J6 J7 J8).length=5:=by simp [D8]
noncomputable def Ej(J5 J6:AB 64):AB 64:=Ap (Ap (As J5 J6) (As J5 J6)) (Ap (Ar J5 J6) (Ar J5 J6))
@[simp] theorem OI(J5 J6:AB 64):(Ej J5 J6).length=5:=by simp [Ej]
noncomputable def D7(J5 J6:AB 64):AB 64:=Ap (Ar (Ap (As J5 J6) (As J5 J6)) (Ap (Ar J5 J6) (Ar J5 J6))) (As (Ap (As J5 J6) (As J5 J6)) (Ap (Ld 121665#64) (Ar (Ap (As J5 J6) (As J5 J6)) (Ap (Ar J5 J6) (Ar J5 J6)))))
@[simp] theorem NF(J5 J6:AB 64):(D7 J5 J6).length=5:=by simp [D7]
noncomputable def KM(key place:AB 8)(X5 X6 X7 X8:AB 64)(j6:Nat):AB 64×AB 64×AB 64×AB 64:=((if ((((nth (CY key) ((254-j6)/8))>>>((254-j6)%8))&&&1#8)==1#8)=true then (Ep (if ((((nth (CY key) ((254-j6)/8))>>>((254-j6)%8))&&&1#8)==1#8)=true then X7 else X5) (if ((((nth (CY key) ((254-j6)/8))>>>((254-j6)%8))&&&1#8)==1#8)=true then X8 else X6) (if ((((nth (CY key) ((254-j6)/8))>>>((254-j6)%8))&&&1#8)==1#8)=true then X5 else X7) (if ((((nth (CY key) ((254-j6)/8))>>>((254-j6)%8))&&&1#8)==1#8)=true then X6 else X8)) else (Ej (if ((((nth (CY key) ((254-j6)/8))>>>((254-j6)%8))&&&1#8)==1#8)=true then X7 else X5) (if ((((nth (CY key) ((254-j6)/8))>>>((254-j6)%8))&&&1#8)==1#8)=true then X8 else X6))),(if ((((nth (CY key) ((254-j6)/8))>>>((254-j6)%8))&&&1#8)==1#8)=true then (D8 place (if ((((nth (CY key) ((254-j6)/8))>>>((254-j6)%8))&&&1#8)==1#8)=true then X7 else X5) (if ((((nth (CY key) ((254-j6)/8))>>>((254-j6)%8))&&&1#8)==1#8)=true then X8 else X6) (if ((((nth (CY key) ((254-j6)/8))>>>((254-j6)%8))&&&1#8)==1#8)=true then X5 else X7) (if ((((nth (CY key) ((254-j6)/8))>>>((254-j6)%8))&&&1#8)==1#8)=true then X6 else X8)) else (D7 (if ((((nth (CY key) ((254-j6)/8))>>>((254-j6)%8))&&&1#8)==1#8)=true then X7 else X5) (if ((((nth (CY key) ((254-j6)/8))>>>((254-j6)%8))&&&1#8)==1#8)=true then X8 else X6))),(if ((((nth (CY key) ((254-j6)/8))>>>((254-j6)%8))&&&1#8)==1#8)=true then (Ej (if ((((nth (CY key) ((254-j6)/8))>>>((254-j6)%8))&&&1#8)==1#8)=true then X7 else X5) (if ((((nth (CY key) ((254-j6)/8))>>>((254-j6)%8))&&&1#8)==1#8)=true then X8 else X6)) else (Ep (if ((((nth (CY key) ((254-j6)/8))>>>((254-j6)%8))&&&1#8)==1#8)=true then X7 else X5) (if ((((nth (CY key) ((254-j6)/8))>>>((254-j6)%8))&&&1#8)==1#8)=true then X8 else X6) (if ((((nth (CY key) ((254-j6)/8))>>>((254-j6)%8))&&&1#8)==1#8)=true then X5 else X7) (if ((((nth (CY key) ((254-j6)/8))>>>((254-j6)%8))&&&1#8)==1#8)=true then X6 else X8))),(if ((((nth (CY key) ((254-j6)/8))>>>((254-j6)%8))&&&1#8)==1#8)=true then (D7 (if ((((nth (CY key) ((254-j6)/8))>>>((254-j6)%8))&&&1#8)==1#8)=true then X7 else X5) (if ((((nth (CY key) ((254-j6)/8))>>>((254-j6)%8))&&&1#8)==1#8)=true then X8 else X6)) else (D8 place (if ((((nth (CY key) ((254-j6)/8))>>>((254-j6)%8))&&&1#8)==1#8)=true then X7 else X5) (if ((((nth (CY key) ((254-j6)/8))>>>((254-j6)%8))&&&1#8)==1#8)=true then X8 else X6) (if ((((nth (CY key) ((254-j6)/8))>>>((254-j6)%8))&&&1#8)==1#8)=true then X5 else X7) (if ((((nth (CY key) ((254-j6)/8))>>>((254-j6)%8))&&&1#8)==1#8)=true then X6 else X8))))
noncomputable def Az(key place:AB 8):Nat→AB 64×AB 64×AB 64×AB 64
 |0=>(Ld 1#64,Ld 0#64,eH (put place 31 ((nth place 31)&&&127#8)),Ld 1#64)
 |j6+1=>KM key place (Az key place j6).1 (Az key place j6).2.1 (Az key place j6).2.2.1 (Az key place j6).2.2.2 j6
theorem G2(key place:AB 8)(_hkey:key.length=32)(_hplace:place.length=32)(j6:Nat):(Az key place j6).1.length=5∧(Az key place j6).2.1.length=5∧(Az key place j6).2.2.1.length=5∧(Az key place j6).2.2.2.length=5:=by
 induction j6 with
 |zero=>refine ⟨?_,?_,?_,?_⟩<;>(simp (maxDischargeDepth:=9) [Az, *];done)
 |succ j6 ih=>
  obtain ⟨ih0,ih1,ih2,ih3⟩:=ih
  rw [Az.eq_2,KM]
  refine ⟨?_,?_,?_,?_⟩<;>(split<;>first | (simp (maxDischargeDepth:=9) [NQ,NH,OI,NF, *];done) | (simp (maxDischargeDepth:=9) [NQ,NH,OI,NF, *];omega))
theorem Nx(key place:AB 8)(hkey:key.length=32)(hplace:place.length=32)(j6:Nat):(Az key place j6).1.length=5:=(G2 key place hkey hplace j6).1
theorem NY(key place:AB 8)(hkey:key.length=32)(hplace:place.length=32)(j6:Nat):(Az key place j6).2.1.length=5:=(G2 key place hkey hplace j6).2.1
theorem Nu(key place:AB 8)(hkey:key.length=32)(hplace:place.length=32)(j6:Nat):(Az key place j6).2.2.1.length=5:=(G2 key place hkey hplace j6).2.2.1
theorem OY(key place:AB 8)(hkey:key.length=32)(hplace:place.length=32)(j6:Nat):(Az key place j6).2.2.2.length=5:=(G2 key place hkey hplace j6).2.2.2
noncomputable def VU(key place:AB 8):AB 8:=wL (Ap ((Az key place 255).1) (Va ((Az key place 255).2.1)))
theorem UF{p:Prop}(h:p:=by first | exact (rfl:_=0) | exact (rfl:_=1) | exact (rfl:_=2) | exact (rfl:_=3) | exact (rfl:_=4) | exact (rfl:_=5) | exact (rfl:_=6) | exact (rfl:_=7) | exact (rfl:_=8) | exact (rfl:_=9) | exact (rfl:_=10) | exact (rfl:_=11) | exact (rfl:_=12) | exact (rfl:_=13) | exact (rfl:_=14) | exact (rfl:_=15) | exact (rfl:_=16) | exact (rfl:_=17) | exact (rfl:_=18) | exact (rfl:_=19) | exact (rfl:_=20) | exact (rfl:_=21) | exact (rfl:_=22) | exact (rfl:_=23) | exact (rfl:_=24) | exact (rfl:_=25) | exact (rfl:_=26) | exact (rfl:_=27) | exact (rfl:_=28) | exact (rfl:_=29) | exact (rfl:_=30) | exact (rfl:_=31) | exact (rfl:_=32) | exact (rfl:_=33) | exact (rfl:_=34) | exact (rfl:_=35) | exact (rfl:_=36) | exact (rfl:_=37) | exact (rfl:_=38) | exact (rfl:_=39)):p:=h
theorem Du(k:r)(h:Hid r→g:=by intro h;refine B0 rfl rfl rfl rfl E9 C7 C7 AK ?_;refine AM ?_;exact h.out):g:=h ⟨k⟩
theorem lv(k:r)(h:Hid r→g:=by intro h;refine lK (AZ (bs:=[]) (XR 1#64) Gt K_ K_ rfl Bb) (fun _=>rfl) rfl ?_;exact h.out):g:=h ⟨k⟩
theorem IY(k:r)(h:Hid r→g:=by intro h;refine ju rfl rfl rfl rfl E9 C7 C7 AK ?_;exact h.out):g:=h ⟨k⟩
theorem ke(k:r)(h:Hid r→g:=by intro h;refine gR [] [] [(4,[3]),(5,[4]),(6,[5]),(7,[6])] [3,4,5,6] 0 _ AK mixed K_ K_ K_ ?_;exact h.out):g:=h ⟨k⟩
theorem R1(k:r)(h:Hid r→g:=by intro h;refine TE [] K_ (Bi rfl rfl Fd E9 C7 D_) rfl ?_;exact h.out):g:=h ⟨k⟩
theorem CV(k:r)(h:Hid r→g:=by intro h;refine AE (Bi rfl rfl Fd E9 C7 D_) rfl ?_;refine AE (Bi rfl rfl Fd E9 C7 D_) rfl ?_;exact h.out):g:=h ⟨k⟩
theorem JO(k:r)(h:Hid r→g:=by intro h;refine Jz (BR N5 UF) AK rfl ?_;exact h.out):g:=h ⟨k⟩
theorem iG(key place:AB 8)(hkey:key.length=32)(hplace:place.length=32):Ev prog (.call 115 [Co (key),Co (place)] []) (.val (Co (VU key place)) []):=by
 have hP:=Hid.mk (VU.eq_1 key place)
 refine AJ func115 rfl ntmps115 rfl UF ?_;refine AG ?_;refine A2 (WZ vh UF) AK rfl ?_;refine A2 (WZ vh UF) AK rfl ?_;refine A2 (BR WV UF) AK rfl ?_;refine AM ?_;have hQ1:(CY key).length=32:=Au
 refine DV ?_;refine BL (qz key AD) nv ?_;refine A2 (BR WV UF) AK rfl ?_;refine Is ?_;refine AS ?_;refine Hg ?_;refine Pv ?_;refine Nz ?_;refine Cq ?_;refine AM ?_;have hQ2:(eH (put place 31 ((nth place 31)&&&127#8))).length=5:=Au
 refine DV ?_;refine BL (sh (put place 31 ((nth place 31)&&&127#8)) AD) Pd ?_;refine A2 (BR N5 UF) AK rfl ?_;refine Du ?_;have hQ3:(Ld 1#64).length=5:=Au
 have hQ4:(Ld 0#64).length=5:=Au
 refine S_ ?_;refine gR [.row true (.a64 (Af 5)),.row true (.a64 (Af 5)),.row true (.a64 (Af 5)),.row true (.a64 (Af 5))] [(4,5),(5,6),(6,7),(7,8)] [(8,[5]),(9,[6]),(10,[7]),(11,[8])] [5,6,7,8] 0 _ AK mixed K_ K_ K_ ?_;refine lv ?_;refine lK (AZ (bs:=[]) (XR 0#64) Gt K_ K_ rfl Bb) (fun _=>rfl) rfl ?_
 refine TE [5,6] K_ (Bi rfl rfl Fd E9 C7 D_) rfl ?_;refine lv ?_;refine TT 5 N5 rfl rfl rfl K_ ?_;refine TT 6 N5 rfl rfl rfl K_ ?_;refine TT 7 N5 rfl rfl rfl K_ ?_;refine TT 8 N5 rfl rfl rfl K_ ?_;refine IY ?_;refine IY ?_;refine IY ?_;refine IY ?_;refine lE ?_;refine AG ?_;refine A7 ?_;refine AT [4,5,6,7,8,9,10,11] (fun (zz:Nat×AB 64×AB 64×AB 64×AB 64)=>⟨115,AQ [4,5,6,7,8,9,10,11] [Ai 0,Ai 1,Ai 2,Ai 3,Ai 4,Ai 5,Ai 6,Aj (((254:Nat):Int)-((zz.1:Nat):Int))],[CP (Am 32),CP (CY key),CA (eH (put place 31 ((nth place 31)&&&127#8))),CA (zz.2.1),CA (zz.2.2.1),CA (zz.2.2.2.1),CA (zz.2.2.2.2)]⟩) (fun j6=>(j6,Az key place j6)) (255) K_ ?_ ?_
 ·intro j6 hj6
  try dsimp only
  have hX5:(Az key place j6).1.length=5:=by rw [Nx key place hkey hplace _];try omega
  have hX6:(Az key place j6).2.1.length=5:=by rw [NY key place hkey hplace _];try omega
  have hX7:(Az key place j6).2.2.1.length=5:=by rw [Nu key place hkey hplace _];try omega
  have hX8:(Az key place j6).2.2.2.length=5:=by rw [OY key place hkey hplace _];try omega
  rw [Az.eq_2,KM]
  generalize Az key place j6=Z9 at*
  obtain ⟨X5,X6,X7,X8⟩:=Z9
  try dsimp only at*
  rw [show ((254:Nat):Int)-((j6:Nat):Int)=((254-j6:Nat):Int) from by omega]
  refine BC ?_;refine RA ?_;refine AW ?_;refine MW ?_;refine QB ?_;refine Fs ?_;refine AO ?_;refine NZ ?_;refine AA (Ql rfl rfl) rfl ?_;refine AA (Lr (b:=1#8) rfl rfl) rfl ?_;refine R0 ?_;refine AY ?_;refine E6 ?_;refine Id [4,5,6,7,8,9,10,11,12] (fun (zz:AB 64×AB 64×AB 64×AB 64)=>⟨115,AQ [4,5,6,7,8,9,10,11,12] [Ai 0,Ai 1,Ai 2,Ai 3,Ai 4,Ai 5,Ai 6,Aj (((254-j6:Nat):Int)),.c (.val (.bool (((((nth (CY key) ((254-j6)/8))>>>((254-j6)%8))&&&1#8)==1#8))))],[CP (Am 32),CP (CY key),CA (eH (put place 31 ((nth place 31)&&&127#8))),CA (zz.1),CA (zz.2.1),CA (zz.2.2.1),CA (zz.2.2.2)]⟩) ((if ((((nth (CY key) ((254-j6)/8))>>>((254-j6)%8))&&&1#8)==1#8)=true then X7 else X5,if ((((nth (CY key) ((254-j6)/8))>>>((254-j6)%8))&&&1#8)==1#8)=true then X8 else X6,if ((((nth (CY key) ((254-j6)/8))>>>((254-j6)%8))&&&1#8)==1#8)=true then X5 else X7,if ((((nth (CY key) ((254-j6)/8))>>>((254-j6)%8))&&&1#8)==1#8)=true then X6 else X8)) rfl (fun hb=>?_) (fun hb=>?_) ?_
  ·refine S_ ?_
   refine ke ?_;refine R1 ?_;refine TE [3] K_ (Bi rfl rfl Fd E9 C7 D_) rfl ?_;refine R1 ?_;refine R1 ?_;refine IY ?_;refine IY ?_;refine IY ?_;refine IY ?_;refine lE ?_;refine S_ ?_;refine ⟨(X7,X8,X5,X6),K_,?_⟩
   (simp only [if_pos (hb)];done)
  ·refine S_ ?_
   refine ⟨(X5,X6,X7,X8),K_,?_⟩
   (simp only [hb,Bool.false_eq_true,if_false];done)
  have hJ10:(if ((((nth (CY key) ((254-j6)/8))>>>((254-j6)%8))&&&1#8)==1#8)=true then X7 else X5).length=5:=by split<;>simp [*]
  generalize (if ((((nth (CY key) ((254-j6)/8))>>>((254-j6)%8))&&&1#8)==1#8)=true then X7 else X5)=J10 at*
  have hJ11:(if ((((nth (CY key) ((254-j6)/8))>>>((254-j6)%8))&&&1#8)==1#8)=true then X8 else X6).length=5:=by split<;>simp [*]
  generalize (if ((((nth (CY key) ((254-j6)/8))>>>((254-j6)%8))&&&1#8)==1#8)=true then X8 else X6)=J11 at*
  have hJ12:(if ((((nth (CY key) ((254-j6)/8))>>>((254-j6)%8))&&&1#8)==1#8)=true then X5 else X7).length=5:=by split<;>simp [*]
  generalize (if ((((nth (CY key) ((254-j6)/8))>>>((254-j6)%8))&&&1#8)==1#8)=true then X5 else X7)=J12 at*
  have hJ13:(if ((((nth (CY key) ((254-j6)/8))>>>((254-j6)%8))&&&1#8)==1#8)=true then X6 else X8).length=5:=by split<;>simp [*]
  generalize (if ((((nth (CY key) ((254-j6)/8))>>>((254-j6)%8))&&&1#8)==1#8)=true then X6 else X8)=J13 at*
  have hQ14:(As J10 J11).length=5:=Au
  have hQ15:(Ar J10 J11).length=5:=Au
  have hQ16:(As J12 J13).length=5:=Au
  have hQ17:(Ar J12 J13).length=5:=Au
  refine S_ ?_;refine OS ?_;refine CV ?_;refine At (TX J10 J11 AD AD) G3 ?_;refine CV ?_;refine At (TN J10 J11 AD AD) GY ?_;refine CV ?_;refine At (TX J12 J13 AD AD) G3 ?_;refine CV ?_;refine At (TN J12 J13 AD AD) GY ?_;refine JO ?_;refine JO ?_;refine JO ?_;refine JO ?_;refine GI ?_;refine Gd ?_;refine Gd ?_;refine Du ?_;have hQ18:(Ap (As J10 J11) (As J10 J11)).length=5:=Au
  have hQ19:(Ap (Ar J10 J11) (Ar J10 J11)).length=5:=Au
  have hQ20:(Ap (Ar J12 J13) (As J10 J11)).length=5:=Au
  have hQ21:(Ap (As J12 J13) (Ar J10 J11)).length=5:=Au
  refine S_ ?_;refine OS ?_;refine CV ?_;refine At (Gc (As J10 J11) (As J10 J11) AD AD) BW ?_;refine CV ?_;refine At (Gc (Ar J10 J11) (Ar J10 J11) AD AD) BW ?_;refine CV ?_;refine At (Gc (Ar J12 J13) (As J10 J11) AD AD) BW ?_;refine CV ?_;refine At (Gc (As J12 J13) (Ar J10 J11) AD AD) BW ?_;refine JO ?_;refine JO ?_;refine JO ?_;refine JO ?_;refine GI ?_;refine Gd ?_;refine Gd ?_;refine Du ?_;have hQ22:(Ar (Ap (As J10 J11) (As J10 J11)) (Ap (Ar J10 J11) (Ar J10 J11))).length=5:=Au
  have hQ23:(As (Ap (Ar J12 J13) (As J10 J11)) (Ap (As J12 J13) (Ar J10 J11))).length=5:=Au
  have hQ24:(Ar (Ap (Ar J12 J13) (As J10 J11)) (Ap (As J12 J13) (Ar J10 J11))).length=5:=Au
  refine S_ ?_;refine L4 ?_;refine CV ?_;refine At (TN (Ap (As J10 J11) (As J10 J11)) (Ap (Ar J10 J11) (Ar J10 J11)) AD AD) GY ?_;refine CV ?_;refine At (TX (Ap (Ar J12 J13) (As J10 J11)) (Ap (As J12 J13) (Ar J10 J11)) AD AD) G3 ?_;refine CV ?_;refine At (TN (Ap (Ar J12 J13) (As J10 J11)) (Ap (As J12 J13) (Ar J10 J11)) AD AD) GY ?_;refine JO ?_;refine JO ?_;refine JO ?_;refine GI ?_;refine Gd ?_;refine Du ?_;have hQ25:(Ap (As (Ap (Ar J12 J13) (As J10 J11)) (Ap (As J12 J13) (Ar J10 J11))) (As (Ap (Ar J12 J13) (As J10 J11)) (Ap (As J12 J13) (Ar J10 J11)))).length=5:=Au
  have hQ26:(Ap (Ar (Ap (Ar J12 J13) (As J10 J11)) (Ap (As J12 J13) (Ar J10 J11))) (Ar (Ap (Ar J12 J13) (As J10 J11)) (Ap (As J12 J13) (Ar J10 J11)))).length=5:=Au
  have hQ27:(Ap (eH (put place 31 ((nth place 31)&&&127#8))) (Ap (Ar (Ap (Ar J12 J13) (As J10 J11)) (Ap (As J12 J13) (Ar J10 J11))) (Ar (Ap (Ar J12 J13) (As J10 J11)) (Ap (As J12 J13) (Ar J10 J11))))).length=5:=Au
  refine S_ ?_;refine QA ?_;refine CV ?_;refine At (Gc (As (Ap (Ar J12 J13) (As J10 J11)) (Ap (As J12 J13) (Ar J10 J11))) (As (Ap (Ar J12 J13) (As J10 J11)) (Ap (As J12 J13) (Ar J10 J11))) AD AD) BW ?_;refine CV ?_;refine Ck ?_;refine At (Gc (Ar (Ap (Ar J12 J13) (As J10 J11)) (Ap (As J12 J13) (Ar J10 J11))) (Ar (Ap (Ar J12 J13) (As J10 J11)) (Ap (As J12 J13) (Ar J10 J11))) AD AD) BW ?_;refine At (Gc (eH (put place 31 ((nth place 31)&&&127#8))) (Ap (Ar (Ap (Ar J12 J13) (As J10 J11)) (Ap (As J12 J13) (Ar J10 J11))) (Ar (Ap (Ar J12 J13) (As J10 J11)) (Ap (As J12 J13) (Ar J10 J11)))) AD AD) BW ?_;refine GI ?_;refine Du ?_;rw [show (Ap (As (Ap (Ar J12 J13) (As J10 J11)) (Ap (As J12 J13) (Ar J10 J11))) (As (Ap (Ar J12 J13) (As J10 J11)) (Ap (As J12 J13) (Ar J10 J11))))=Ep J10 J11 J12 J13 from rfl]
  have hX28:(Ep J10 J11 J12 J13).length=5:=Au
  generalize Ep J10 J11 J12 J13=X28 at*
  rw [show (Ap (eH (put place 31 ((nth place 31)&&&127#8))) (Ap (Ar (Ap (Ar J12 J13) (As J10 J11)) (Ap (As J12 J13) (Ar J10 J11))) (Ar (Ap (Ar J12 J13) (As J10 J11)) (Ap (As J12 J13) (Ar J10 J11)))))=D8 place J10 J11 J12 J13 from rfl]
  have hX29:(D8 place J10 J11 J12 J13).length=5:=Au
  generalize D8 place J10 J11 J12 J13=X29 at*
  have hQ30:(Ap (Ap (As J10 J11) (As J10 J11)) (Ap (Ar J10 J11) (Ar J10 J11))).length=5:=Au
  have hQ31:(Ld 121665#64).length=5:=Au
  have hQ32:(Ap (Ld 121665#64) (Ar (Ap (As J10 J11) (As J10 J11)) (Ap (Ar J10 J11) (Ar J10 J11)))).length=5:=Au
  have hQ33:(As (Ap (As J10 J11) (As J10 J11)) (Ap (Ld 121665#64) (Ar (Ap (As J10 J11) (As J10 J11)) (Ap (Ar J10 J11) (Ar J10 J11))))).length=5:=Au
  have hQ34:(Ap (Ar (Ap (As J10 J11) (As J10 J11)) (Ap (Ar J10 J11) (Ar J10 J11))) (As (Ap (As J10 J11) (As J10 J11)) (Ap (Ld 121665#64) (Ar (Ap (As J10 J11) (As J10 J11)) (Ap (Ar J10 J11) (Ar J10 J11)))))).length=5:=Au
  refine S_ ?_;refine RG ?_;refine CV ?_;refine At (Gc (Ap (As J10 J11) (As J10 J11)) (Ap (Ar J10 J11) (Ar J10 J11)) AD AD) BW ?_;refine CV ?_;refine At (XR 121665#64) Gt ?_;refine Ck ?_;refine At (Gc (Ld 121665#64) (Ar (Ap (As J10 J11) (As J10 J11)) (Ap (Ar J10 J11) (Ar J10 J11))) AD AD) BW ?_;refine At (TX (Ap (As J10 J11) (As J10 J11)) (Ap (Ld 121665#64) (Ar (Ap (As J10 J11) (As J10 J11)) (Ap (Ar J10 J11) (Ar J10 J11)))) AD AD) G3 ?_;refine At (Gc (Ar (Ap (As J10 J11) (As J10 J11)) (Ap (Ar J10 J11) (Ar J10 J11))) (As (Ap (As J10 J11) (As J10 J11)) (Ap (Ld 121665#64) (Ar (Ap (As J10 J11) (As J10 J11)) (Ap (Ar J10 J11) (Ar J10 J11))))) AD AD) BW ?_;refine GI ?_;refine Du ?_;rw [show (Ap (Ap (As J10 J11) (As J10 J11)) (Ap (Ar J10 J11) (Ar J10 J11)))=Ej J10 J11 from rfl]
  have hX35:(Ej J10 J11).length=5:=Au
  generalize Ej J10 J11=X35 at*
  rw [show (Ap (Ar (Ap (As J10 J11) (As J10 J11)) (Ap (Ar J10 J11) (Ar J10 J11))) (As (Ap (As J10 J11) (As J10 J11)) (Ap (Ld 121665#64) (Ar (Ap (As J10 J11) (As J10 J11)) (Ap (Ar J10 J11) (Ar J10 J11))))))=D7 J10 J11 from rfl]
  have hX36:(D7 J10 J11).length=5:=Au
  generalize D7 J10 J11=X36 at*
  refine BC ?_;refine E6 ?_;refine Id [4,5,6,7,8,9,10,11] (fun (zz:AB 64×AB 64×AB 64×AB 64)=>⟨115,AQ [4,5,6,7,8,9,10,11] [Ai 0,Ai 1,Ai 2,Ai 3,Ai 4,Ai 5,Ai 6,Aj (((254-j6:Nat):Int))],[CP (Am 32),CP (CY key),CA (eH (put place 31 ((nth place 31)&&&127#8))),CA (zz.1),CA (zz.2.1),CA (zz.2.2.1),CA (zz.2.2.2)]⟩) ((if ((((nth (CY key) ((254-j6)/8))>>>((254-j6)%8))&&&1#8)==1#8)=true then X28 else X35,if ((((nth (CY key) ((254-j6)/8))>>>((254-j6)%8))&&&1#8)==1#8)=true then X29 else X36,if ((((nth (CY key) ((254-j6)/8))>>>((254-j6)%8))&&&1#8)==1#8)=true then X35 else X28,if ((((nth (CY key) ((254-j6)/8))>>>((254-j6)%8))&&&1#8)==1#8)=true then X36 else X29)) rfl (fun hb=>?_) (fun hb=>?_) ?_
  ·refine S_ ?_
   refine ke ?_;refine R1 ?_;refine TE [3] K_ (Bi rfl rfl Fd E9 C7 D_) rfl ?_;refine R1 ?_;refine R1 ?_;refine IY ?_;refine IY ?_;refine IY ?_;refine IY ?_;refine lE ?_;refine S_ ?_;refine ⟨(X28,X29,X35,X36),K_,?_⟩
   (simp only [if_pos (hb)];done)
  ·refine S_ ?_
   refine ⟨(X35,X36,X28,X29),K_,?_⟩
   (simp only [hb,Bool.false_eq_true,if_false];done)
  have hJ37:(if ((((nth (CY key) ((254-j6)/8))>>>((254-j6)%8))&&&1#8)==1#8)=true then X28 else X35).length=5:=by split<;>simp [*]
  generalize (if ((((nth (CY key) ((254-j6)/8))>>>((254-j6)%8))&&&1#8)==1#8)=true then X28 else X35)=J37 at*
  have hJ38:(if ((((nth (CY key) ((254-j6)/8))>>>((254-j6)%8))&&&1#8)==1#8)=true then X29 else X36).length=5:=by split<;>simp [*]
  generalize (if ((((nth (CY key) ((254-j6)/8))>>>((254-j6)%8))&&&1#8)==1#8)=true then X29 else X36)=J38 at*
  have hJ39:(if ((((nth (CY key) ((254-j6)/8))>>>((254-j6)%8))&&&1#8)==1#8)=true then X35 else X28).length=5:=by split<;>simp [*]
  generalize (if ((((nth (CY key) ((254-j6)/8))>>>((254-j6)%8))&&&1#8)==1#8)=true then X35 else X28)=J39 at*
  have hJ40:(if ((((nth (CY key) ((254-j6)/8))>>>((254-j6)%8))&&&1#8)==1#8)=true then X36 else X29).length=5:=by split<;>simp [*]
  generalize (if ((((nth (CY key) ((254-j6)/8))>>>((254-j6)%8))&&&1#8)==1#8)=true then X36 else X29)=J40 at*
  refine BC ?_;refine NG ?_;refine Bv ?_;refine ⟨(j6+1,_),(by
   dsimp only
   rw [show ((254:Nat):Int)-((j6+1:Nat):Int)=((254-j6:Nat):Int)-1 from by omega]
   kernel_rfl),rfl⟩
 ·try dsimp only
  have hY41:(Az key place 255).1.length=5:=by rw [Nx key place hkey hplace _];try omega
  have hY42:(Az key place 255).2.1.length=5:=by rw [NY key place hkey hplace _];try omega
  have hY43:(Az key place 255).2.2.1.length=5:=by rw [Nu key place hkey hplace _];try omega
  have hY44:(Az key place 255).2.2.2.length=5:=by rw [OY key place hkey hplace _];try omega
  generalize Az key place 255=Z45 at*
  obtain ⟨Y41,Y42,Y43,Y44⟩:=Z45
  try dsimp only at*
  refine BC ?_;refine PK ?_;refine AM ?_;have hQ46:(Va Y42).length=5:=Au
  have hQ47:(Ap Y41 (Va Y42)).length=5:=Au
  have hQ48:(wL (Ap Y41 (Va Y42))).length=32:=Au
  refine S_ ?_;refine EQ 5 mixed K_ rfl rfl rfl ?_;refine CV ?_;refine At (pt Y42 AD) RV ?_;refine At (Gc Y41 (Va Y42) AD AD) BW ?_;refine At (uI (Ap Y41 (Va Y42)) AD) Ka ?_;refine Bc ?_;refine EW ?_;rw [hP.out]
  exact Eo
attribute [irreducible] VU
def EI(b:AB 8):Nat→Nat
 |0=>0
 |n+1=>EI b n+(nth b n).toNat*256^n
theorem OK(b:AB 8)(n:Nat):EI b n<256^n:=by
 induction n with
 |zero=>exact Nat.one_pos
 |succ n ih=>
  rw [EI,Nat.pow_succ]
  have h:=(nth b n).isLt
  have:(nth b n).toNat*256^n≤255*256^n:=Nat.mul_le_mul_right _ O_
  omega
theorem Lb(b:AB 8)(n i:Nat)(h:i<n):EI b n/256^i%256=(nth b i).toNat:=by
 induction n with
 |zero=>omega
 |succ n ih=>
  rw [EI]
  have hp:0<256^i:=Nat.pow_pos D_
  by_cases e:i=n
  ·subst e
   rw [Nat.add_mul_div_right _ _ hp,Nat.div_eq_of_lt (OK b i),Nat.zero_add,Nat.mod_eq_of_lt (nth b i).isLt]
  ·obtain ⟨k,hk⟩:∃k,n=i+(k+1):=⟨n-i-1,by omega⟩
   rw [←ih O_,hk,Nat.pow_add,Nat.pow_succ,show (nth b (i+(k+1))).toNat*(256^i*(256^k*256))=((nth b (i+(k+1))).toNat*256^k*256)*256^i from by grobner,Nat.add_mul_div_right _ _ hp,Nat.add_mul_mod_self_right]
def Yy(n:Nat):AB 8:=(List.range 32).map fun i=>BitVec.ofNat 8 (n/256^i)
@[simp] theorem KJ(n:Nat):(Yy n).length=32:=by simp [Yy]
theorem Qp(n i:Nat)(h:i<32):nth (Yy n) i=BitVec.ofNat 8 (n/256^i):=by
 rw [Pm _ _ (by rw [KJ];exact h)]
 simp [Yy]
theorem Qq(n k:Nat)(h:k≤32):EI (Yy n) k=n%256^k:=by
 induction k with
 |zero=>rw [EI,Nat.pow_zero,Nat.mod_one]
 |succ k ih=>
  have e:= @Nat.mod_mul (256^k) 256 n
  rw [EI,ih O_,Qp _ _ O_,BitVec.toNat_ofNat,show (256:Nat)^(k+1)=256^k*256 from Nat.pow_succ ..,e,Nat.mul_comm (256^k)]
theorem eo{b:AB 8}(h:b.length=32):Yy (EI b 32)=b:=by
 refine VQ (by rw [KJ,h]) fun i hi=>?_
 rw [KJ] at hi
 rw [Qp _ _ hi]
 apply BitVec.eq_of_toNat_eq
 rw [BitVec.toNat_ofNat]
 exact Lb b 32 i hi
def jF(b:AB 8)(t:Nat):Nat→Nat
 |0=>0
 |m+1=>jF b t m+(nth b (8*t+m)).toNat*256^m
theorem vc(b:AB 8)(t m:Nat):jF b t m<256^m:=by
 induction m with
 |zero=>exact Nat.one_pos
 |succ m ih=>
  rw [jF,Nat.pow_succ]
  have h:=(nth b (8*t+m)).isLt
  have:(nth b (8*t+m)).toNat*256^m≤255*256^m:=Nat.mul_le_mul_right _ O_
  omega
theorem gN(b:AB 8):EI b 32=jF b 0 8+jF b 1 8*18446744073709551616+jF b 2 8*340282366920938463463374607431768211456+jF b 3 8*6277101735386680763835789423207666416102355444464034512896:=by
 simp only [EI,jF,Nat.mul_zero,Nat.zero_add,Nat.reduceMul,Nat.reduceAdd,Nat.reducePow]
 omega
theorem rB(x:BitVec 64)(b:BitVec 8)(k:Nat)(hk:k<8)(hx:x.toNat<256^k):(x ||| (b.setWidth 64<<<(8*k))).toNat=x.toNat+b.toNat*256^k:=by
 have e:(256:Nat)^k=2^(8*k):=by rw [Nat.pow_mul]
 rw [e] at hx ⊢
 have hb:=b.isLt
 have hp:b.toNat*2^(8*k)<2^64:=by
  have h1:b.toNat*2^(8*k)<2^8*2^(8*k):=Nat.mul_lt_mul_of_pos_right hb (Nat.pow_pos D_)
  rw [←Nat.pow_add] at h1
  exact Nat.lt_of_lt_of_le h1 (Nat.pow_le_pow_right D_ O_)
 rw [BitVec.toNat_or,BitVec.toNat_shiftLeft,BitVec.toNat_setWidth,Nat.mod_eq_of_lt (show b.toNat<2^64 by omega),Nat.shiftLeft_eq,Nat.mod_eq_of_lt hp,Nat.or_comm,←Nat.shiftLeft_eq,←Nat.shiftLeft_add_eq_or_of_lt hx,Nat.shiftLeft_eq,Nat.add_comm]
theorem DS(x:BitVec 64):(x&&&2251799813685247#64).toNat=x.toNat%2251799813685248:=by
 rw [BitVec.toNat_and]
 exact Nat.and_two_pow_sub_one_eq_mod x.toNat 51
end Go.Proofs.YtmbepikkgkcgkaaGreatDoor
namespace Go.Proofs.YtmbepikkgkcgkaaGreatDoor
variable {g r : Prop}
open Go.Proofs.Tryz
def I1(p:Nat):Prop:=1<p∧ ∀m,m ∣ p→m=1∨m=p
theorem I1.pos{p:Nat}(h:I1 p):0<p:=by have:=h.1;omega
theorem I1.cop{p a:Nat}(h:I1 p)(ha:¬p ∣ a):Nat.gcd p a=1:=by
 rcases h.2 _ (Nat.gcd_dvd_left p a) with h1 | h1
 ·exact h1
 ·exact absurd (h1 ▸ Nat.gcd_dvd_right p a) ha
theorem I1.euclid{p a b:Nat}(h:I1 p)(hd:p ∣ a*b):p ∣ a∨p ∣ b:=by
 by_cases ha:p ∣ a
 ·exact .inl ha
 ·exact .inr (Nat.Coprime.dvd_of_dvd_mul_left (h.cop ha) hd)
def Ue:Nat→Nat→Nat
 |_,0=>1
 |0,_+1=>0
 |n+1,k+1=>Ue n k+Ue n (k+1)
theorem RJ(n:Nat):Ue n 0=1:=by cases n<;>rfl
theorem eX:∀n k:Nat,n<k→Ue n k=0:=by
 intro n
 induction n with
 |zero=>intro k hk;cases k with
  |zero=>omega
  |succ k=>rfl
 |succ n ih=>intro k hk;cases k with
  |zero=>omega
  |succ k=>rw [Ue,ih k O_,ih (k+1) O_]
theorem kT(n:Nat):Ue n n=1:=by
 induction n with
 |zero=>rfl
 |succ n ih=>rw [Ue,ih,eX n (n+1) O_]
theorem pT:∀n k:Nat,(k+1)*Ue (n+1) (k+1)=(n+1)*Ue n k:=by
 intro n
 induction n with
 |zero=>
  intro k
  cases k with
  |zero=>rfl
  |succ k=>simp [Ue]
 |succ n ih=>
  intro k
  cases k with
  |zero=>
   have h:=ih 0
   rw [RJ] at h ⊢
   show (0+1)*(Ue (n+1) 0+Ue (n+1) (0+1))=_
   rw [RJ]
   omega
  |succ k=>
   have h1:=ih k
   have h2:=ih (k+1)
   rw [Ue,Nat.mul_add,h2]
   have h3:Ue (n+1) (k+1)=Ue n k+Ue n (k+1):=rfl
   rw [h3] at h1 ⊢
   grind
def Pe(a n:Nat):Nat→Nat
 |0=>0
 |m+1=>Pe a n m+Ue n m*a^m
theorem gr(a n:Nat):∀m,Pe a (n+1) (m+1)=Pe a n (m+1)+a*Pe a n m:=by
 intro m
 induction m with
 |zero=>simp [Pe,RJ]
 |succ m ih=>
  rw [Pe,ih]
  show _=Pe a n (m+1)+Ue n (m+1)*a^(m+1)+a*(Pe a n m+Ue n m*a^m)
  rw [Ue,Nat.pow_succ]
  grind
theorem xk(a n:Nat):(a+1)^n=Pe a n (n+1):=by
 induction n with
 |zero=>rfl
 |succ n ih=>
  rw [Nat.pow_succ,ih,gr]
  rw [show Pe a n (n+1+1)=Pe a n (n+1)+Ue n (n+1)*a^(n+1) from rfl,eX n (n+1) O_]
  grind
theorem qP{p:Nat}(h:I1 p)(k:Nat)(h1:0<k)(h2:k<p):p ∣ Ue p k:=by
 obtain ⟨q,rfl⟩:∃q,p=q+1:=⟨p-1,by omega⟩
 obtain ⟨j,rfl⟩:∃j,k=j+1:=⟨k-1,by omega⟩
 have:=pT q j
 rcases h.euclid (a:=j+1) (b:=Ue (q+1) (j+1)) (by rw [this];exact Nat.dvd_mul_right _ _) with h3 | h3
 ·have:=Nat.le_of_dvd O_ h3;omega
 ·exact h3
theorem jv{p:Nat}(h:I1 p)(a:Nat):∀m,m<p→Pe a p (m+1)%p=1%p:=by
 intro m
 induction m with
 |zero=>intro _;simp [Pe,RJ]
 |succ m ih=>
  intro hm
  obtain ⟨c,hc⟩:=qP h (m+1) O_ hm
  rw [Pe,hc,Nat.mul_assoc,Nat.add_mul_mod_self_left,ih O_]
theorem sb{p:Nat}(h:I1 p)(a:Nat):a^p%p=a%p:=by
 induction a with
 |zero=>rw [Nat.zero_pow h.pos]
 |succ a ih=>
  obtain ⟨q,rfl⟩:∃q,p=q+1:=⟨p-1,by have:=h.pos;omega⟩
  rw [xk,Pe,kT,Nat.one_mul,Nat.add_mod,jv h a q O_,ih,←Nat.add_mod,Nat.add_comm]
theorem dm{p x y:Nat}(h:x%p=y%p):p ∣ x-y:=Nat.dvd_of_mod_eq_zero (Nat.sub_mod_eq_zero_of_mod_eq h)
theorem cX{p x y:Nat}(h:p ∣ x-y)(hl:y≤x):x%p=y%p:=by
 obtain ⟨c,hc⟩:=h
 rw [show x=y+p*c from by omega,Nat.add_mul_mod_self_left]
theorem I1.cancel{p a x y:Nat}(h:I1 p)(ha:¬p ∣ a)(he:a*x%p=a*y%p):x%p=y%p:=by
 have key:∀x y:Nat,y≤x→a*x%p=a*y%p→x%p=y%p:=fun x y hl he=>by
  have:=dm he
  rw [←Nat.mul_sub] at this
  rcases h.euclid this with h1 | h1
  ·exact absurd h1 ha
  ·exact cX h1 hl
 rcases Nat.le_total y x with hl | hl
 ·exact key x y hl he
 ·exact (key y x hl he.symm).symm
theorem XW{p a:Nat}(h:I1 p)(ha:¬p ∣ a):a^(p-1)%p=1:=by
 have h1:=sb h a
 obtain ⟨q,rfl⟩:∃q,p=q+1:=⟨p-1,by have:=h.pos;omega⟩
 rw [Nat.add_sub_cancel]
 have h2:a*a^q%(q+1)=a*1%(q+1):=by rw [←Nat.pow_succ',h1,Nat.mul_one]
 have h3:=h.cancel ha h2
 rw [h3,Nat.mod_eq_of_lt h.1]
theorem Sr{n a k:Nat}(m:Nat)(hn:1<n)(h:a^k%n=1):a^(k*m)%n=1:=by
 rw [Nat.pow_mul,Nat.pow_mod,h,Nat.one_pow,Nat.mod_eq_of_lt hn]
theorem qw{n a:Nat}(hn:1<n):∀j k:Nat,a^j%n=1→a^k%n=1→a^Nat.gcd j k%n=1:=by
 intro j
 induction j using Nat.strongRecOn with
 |_ j ih=>
  intro k hj hk
  cases j with
  |zero=>rwa [Nat.gcd_zero_left]
  |succ j=>
   rw [Nat.gcd_succ]
   refine ih (k%(j+1)) (Nat.mod_lt _ O_) (j+1) ?_ hj
   have h1:a^k=a^((j+1)*(k/(j+1)))*a^(k%(j+1)):=by rw [←Nat.pow_add,Nat.div_add_mod]
   rw [h1,Nat.mul_mod,Sr _ hn hj,Nat.one_mul,Nat.mod_mod] at hk
   exact hk
theorem Tk:∀n:Nat,1<n→ ∃r,I1 r∧r ∣ n:=by
 intro n
 induction n using Nat.strongRecOn with
 |_ n ih=>
  intro hn
  by_cases h:I1 n
  ·exact ⟨n,h,Nat.dvd_refl n⟩
  ·have:∃m,m ∣ n∧m≠1∧m≠n:=by
    refine Classical.byContradiction fun hc=>h ⟨hn,fun m hm=>?_⟩
    refine Classical.byContradiction fun hc2=>hc ⟨m,hm,fun e=>hc2 (.inl e),fun e=>hc2 (.inr e)⟩
   obtain ⟨m,h1,h2,h3⟩:=this
   have hm0:0<m:=Nat.pos_of_dvd_of_pos h1 O_
   have hml:m≤n:=Nat.le_of_dvd O_ h1
   obtain ⟨r,hr,hrm⟩:=ih m O_ O_
   exact ⟨r,hr,Nat.dvd_trans hrm h1⟩
theorem Rk{n:Nat}(hn:1<n)(h:∀r,I1 r→r ∣ n→n<r*r):I1 n:=by
 refine ⟨hn,fun m hm=>?_⟩
 refine Classical.byContradiction fun hc=>?_
 obtain ⟨k,hk⟩:=hm
 have hm1:m≠1:=fun e=>hc (.inl e)
 have hmn:m≠n:=fun e=>hc (.inr e)
 have hm0:m≠0:=fun e=>by subst e;omega
 have hk0:k≠0:=fun e=>by subst e;omega
 have hk1:k≠1:=fun e=>by subst e;omega
 rcases Nat.le_total m k with hl | hl
 ·obtain ⟨r,hr,hrm⟩:=Tk m O_
  have h1:=h r hr (Nat.dvd_trans hrm ⟨k,hk⟩)
  have h2:=Nat.le_of_dvd O_ hrm
  have h3:r*r≤m*k:=Nat.mul_le_mul h2 O_
  omega
 ·obtain ⟨r,hr,hrm⟩:=Tk k O_
  have h1:=h r hr (Nat.dvd_trans hrm ⟨m,by rw [hk,Nat.mul_comm]⟩)
  have h2:=Nat.le_of_dvd O_ hrm
  have h3:r*r≤m*k:=Nat.mul_le_mul O_ h2
  omega
theorem uB{n q k a r:Nat}(hq:I1 q)(hn:n=q*k+1)(h1:a^(n-1)%n=1)(h2:Nat.gcd (a^k%n+(n-1)) n=1)(hr:I1 r)(hd:r ∣ n):q ∣ r-1:=by
 have hr1:=hr.1
 have hn1:1<n:=by have:=Nat.le_of_dvd O_ hd;omega
 have red:∀x,x%n=1→x%r=1:=fun x hx=>by
  obtain ⟨c,hc⟩:=hd
  have:x%n%r=x%r:=Nat.mod_mod_of_dvd x ⟨c,hc⟩
  rw [←this,hx,Nat.mod_eq_of_lt hr1]
 have g1:a^(q*k)%r=1:=red _ (by rw [←h1,hn,Nat.add_sub_cancel])
 refine Classical.byContradiction fun hc=>?_
 have hra:¬r ∣ a:=fun hh=>by
  have:a^(q*k)%r=0:=by
   have hpos:0<q*k:=by omega
   obtain ⟨e,he⟩:∃e,q*k=e+1:=⟨q*k-1,by omega⟩
   rw [he,Nat.pow_succ]
   exact Nat.mod_eq_zero_of_dvd (Nat.dvd_trans hh (Nat.dvd_mul_left _ _))
  omega
 have g2:a^(k*(r-1))%r=1:=by rw [Nat.mul_comm];exact Sr k hr1 (XW hr hra)
 have g3:=qw hr1 (k*q) (k*(r-1)) (by rw [Nat.mul_comm k q];exact g1) g2
 rw [Nat.gcd_mul_left,hq.cop hc,Nat.mul_one] at g3
 have g4:r ∣ Nat.gcd (a^k%n+(n-1)) n:=by
  refine Nat.dvd_gcd ?_ hd
  refine Nat.dvd_of_mod_eq_zero ?_;have e1:(a^k%n)%r=1:=by rw [Nat.mod_mod_of_dvd _ hd];exact g3
  obtain ⟨c,hc⟩:=hd
  obtain ⟨c',rfl⟩:∃c',c=c'+1:=⟨c-1,by cases c with | zero=>simp at hc;omega | succ c=>omega⟩
  have e2:n-1=(r-1)+r*c':=by rw [hc,Nat.mul_add];omega
  rw [e2,←Nat.add_assoc,Nat.add_mul_mod_self_left,Nat.add_mod,e1,Nat.mod_eq_of_lt (show r-1<r by omega),show 1+(r-1)=r by omega,Nat.mod_self]
 rw [h2] at g4
 have:=Nat.le_of_dvd O_ g4
 omega
theorem yA{n q k a:Nat}(hq:I1 q)(hn:n=q*k+1)(hk:0<k)(h1:a^(n-1)%n=1)(h2:Nat.gcd (a^k%n+(n-1)) n=1)(hl:n<q*q):I1 n:=by
 have hq1:=hq.1
 refine Rk (by have:=Nat.mul_le_mul (show 1≤q by omega) (show 1≤k by omega);omega) fun r hr hd=>?_
 have:=Nat.le_of_dvd (by have:=hr.1;omega) (uB hq hn h1 h2 hr hd)
 exact Nat.lt_of_lt_of_le hl (Nat.mul_le_mul O_ O_)
theorem xY{n q k a q' k' a':Nat}(hq:I1 q)(hq':I1 q')(hne:¬q ∣ q')(hn:n=q*k+1)(hn':n=q'*k'+1)(hk:0<k)(h1:a^(n-1)%n=1)(h2:Nat.gcd (a^k%n+(n-1)) n=1)
  (h1':a'^(n-1)%n=1) (h2':Nat.gcd (a'^k'%n+(n-1)) n=1) (hl:n<(q*q')*(q*q')):I1 n:=by
 have hq1:=hq.1
 refine Rk (by have:=Nat.mul_le_mul (show 1≤q by omega) (show 1≤k by omega);omega) fun r hr hd=>?_
 have hc:Nat.Coprime q q':=hq.cop hne
 have:=Nat.le_of_dvd (by have:=hr.1;omega) (Nat.Coprime.mul_dvd_of_dvd_of_dvd hc (uB hq hn h1 h2 hr hd) (uB hq' hn' h1' h2' hr hd))
 exact Nat.lt_of_lt_of_le hl (Nat.mul_le_mul O_ O_)
def SH(n:Nat):Nat→Nat→Nat→Nat→Nat
 |0,_,_,Ht=>Ht
 |f+1,b,e,Ht=>if e%2=1 then SH n f (b*b%n) (e/2) (Ht*b%n) else SH n f (b*b%n) (e/2) Ht
theorem gL(n:Nat):∀f b e Ht,e<2^f→SH n f b e Ht%n=Ht*b^e%n:=by
 intro f
 induction f with
 |zero=>intro b e Ht h;rw [show e=0 by omega];simp [SH]
 |succ f ih=>
  intro b e Ht h
  have h2:e/2<2^f:=by rw [Nat.pow_succ] at h;omega
  have sq:∀x,x*(b*b%n)^(e/2)%n=x*b^(2*(e/2))%n:=fun x=>by
   rw [Nat.mul_mod,←Nat.pow_mod,←Nat.mul_mod,Nat.pow_mul,show b^2=b*b from by rw [Nat.pow_succ,Nat.pow_one]]
  unfold SH
  split
  ·rename_i h1
   rw [ih _ _ _ h2,sq,Nat.mul_mod,Nat.mod_mod,←Nat.mul_mod,Nat.mul_assoc,←Nat.pow_succ',show (2*(e/2)).succ=e by omega]
  ·rename_i h1
   rw [ih _ _ _ h2,sq,show 2*(e/2)=e by omega]
theorem Ot{n b e r:Nat}(f:Nat)(he:e<2^f)(h:SH n f b e 1%n=r):b^e%n=r:=by
 rw [←h,gL n f b e 1 he,Nat.one_mul]
def fq(n:Nat):Nat→Nat→Bool
 |0,_=>true
 |f+1,d=>(n%d !=0)&&fq n f (d+1)
theorem dU(n:Nat):∀f d,fq n f d=true→ ∀m,d≤m→m<d+f→ ¬m ∣ n:=by
 intro f
 induction f with
 |zero=>intro d _ m h1 h2;omega
 |succ f ih=>
  intro d h m h1 h2
  simp only [fq,Bool.and_eq_true,bne_iff_ne,ne_eq] at h
  by_cases e:m=d
  ·subst e;exact fun hd=>h.1 (Nat.mod_eq_zero_of_dvd hd)
  ·exact ih (d+1) h.2 m O_ O_
theorem JF{n:Nat}(f:Nat)(hn:1<n)(hf:n<(f+2)*(f+2))(h:fq n f 2=true):I1 n:=by
 refine Rk hn fun r hr hd=>?_
 have hr1:=hr.1
 refine Classical.byContradiction fun hc=>?_
 refine dU n f 2 h r O_ ?_ hd
 refine Classical.byContradiction fun hc2=>?_
 have:(f+2)*(f+2)≤r*r:=Nat.mul_le_mul O_ O_
 omega
theorem Vv{n q k a:Nat}(f:Nat)(hq:I1 q)(hf:n<2^f)(hn:n=q*k+1)(hk:0<k)(h1:SH n f a (n-1) 1%n=1)(h2:Nat.gcd (SH n f a k 1%n+(n-1)) n=1)(hl:n<q*q):I1 n:=
 yA hq hn hk (Ot f O_ h1) (by rw [Ot f (by have:=Nat.mul_le_mul (show 1≤q from hq.pos) (Nat.le_refl k);omega) rfl];exact h2) hl
theorem fE{n q k a q' k' a':Nat}(f:Nat)(hq:I1 q)(hq':I1 q')(hf:n<2^f)(hne:¬q ∣ q')(hn:n=q*k+1)(hn':n=q'*k'+1)(hk:0<k)(h1:SH n f a (n-1) 1%n=1)(h2:Nat.gcd (SH n f a k 1%n+(n-1)) n=1)
  (h1':SH n f a' (n-1) 1%n=1) (h2':Nat.gcd (SH n f a' k' 1%n+(n-1)) n=1) (hl:n<(q*q')*(q*q')):I1 n:=
 xY hq hq' hne hn hn' hk (Ot f O_ h1) (by rw [Ot f (by have:=Nat.mul_le_mul (show 1≤q from hq.pos) (Nat.le_refl k);omega) rfl];exact h2)
  (Ot f O_ h1') (by rw [Ot f (by have:=Nat.mul_le_mul (show 1≤q' from hq'.pos) (Nat.le_refl k');omega) rfl];exact h2') hl
theorem pr0:I1 8574133:=JF 2929 D_ D_ (by decide+kernel)
theorem pr1:I1 7:=JF 3 D_ D_ (by decide+kernel)
theorem pr2:I1 1919519569386763:=fE (q:=8574133) (k:=223873314) (a:=2) (q':=7) (k':=274217081340966) (a':=2) 51 pr0 pr1 (by decide+kernel) (by decide+kernel) (by decide+kernel) (by decide+kernel) (by decide+kernel) (by decide+kernel) (by decide+kernel) (by decide+kernel) (by decide+kernel) (by decide+kernel)
theorem pr3:I1 75707:=JF 276 D_ D_ (by decide+kernel)
theorem pr4:I1 75445702479781427272750846543864801:=fE (q:=1919519569386763) (k:=39304471641247389600) (a:=2) (q':=75707) (k':=996548568557483816196003626400) (a':=2) 116 pr2 pr3 (by decide+kernel) (by decide+kernel) (by decide+kernel) (by decide+kernel) (by decide+kernel) (by decide+kernel) (by decide+kernel) (by decide+kernel) (by decide+kernel) (by decide+kernel)
theorem pr5:I1 353:=JF 19 D_ D_ (by decide+kernel)
theorem pr6:I1 74058212732561358302231226437062788676166966415465897661863160754340907:=fE (q:=75445702479781427272750846543864801) (k:=981609426360740691344999861639072106) (a:=2) (q':=353) (k':=209796636636151156663544550813209033076960244803019540118592523383402) (a':=2) 236 pr4 pr5 (by decide+kernel) (by decide+kernel) (by decide+kernel) (by decide+kernel) (by decide+kernel) (by decide+kernel) (by decide+kernel) (by decide+kernel) (by decide+kernel) (by decide+kernel)
theorem prP:I1 57896044618658097711785492504343953926634992332820282019728792003956564819949:=Vv (q:=74058212732561358302231226437062788676166966415465897661863160754340907) (k:=781764) (a:=2) 255 pr6 (by decide+kernel) (by decide+kernel) (by decide+kernel) (by decide+kernel) (by decide+kernel) (by decide+kernel)
abbrev PP:Nat:=57896044618658097711785492504343953926634992332820282019728792003956564819949
abbrev Fp:=Fin PP
def zf(n:Nat):Fp:=Fin.ofNat PP n
theorem HZ(n:Nat):(zf n).val=n%PP:=rfl
theorem T9{a b:Nat}:zf a=zf b↔a%PP=b%PP:=by
 rw [←Fin.val_inj,HZ,HZ]
theorem P8(a b:Nat):zf (a+b)=zf a+zf b:=by
 apply Fin.ext
 rw [Fin.val_add,HZ,HZ,HZ,←Nat.add_mod]
theorem T4(a b:Nat):zf (a*b)=zf a*zf b:=by
 apply Fin.ext
 rw [Fin.val_mul,HZ,HZ,HZ,←Nat.mul_mod]
theorem Fh(u:Fp)(k:Nat):u^(k+1)=u^k*u:=by grobner
theorem Fg(u:Fp):u^0=1:=by grobner
theorem Q4(u:Fp)(j k:Nat):u^(j+k)=u^j*u^k:=by
 induction k with
 |zero=>rw [Fg,Nat.add_zero];grobner
 |succ k ih=>rw [←Nat.add_assoc,Fh,Fh,ih];grobner
theorem lZ(u v:Fp)(k:Nat):(u*v)^k=u^k*v^k:=by
 induction k with
 |zero=>rw [Fg,Fg,Fg];grobner
 |succ k ih=>rw [Fh,Fh,Fh,ih];grobner
theorem bT(u:Fp)(j k:Nat):u^(j*k)=(u^j)^k:=by
 induction k with
 |zero=>rw [Nat.mul_zero,Fg,Fg]
 |succ k ih=>rw [Nat.mul_succ,Q4,ih,Fh]
theorem eF:zf 0=0:=rfl
theorem dE:zf 1=1:=rfl
theorem kV(a k:Nat):zf (a^k)=zf a^k:=by
 induction k with
 |zero=>rw [Nat.pow_zero,Fg,dE]
 |succ k ih=>rw [Nat.pow_succ,T4,ih,Fh]
theorem KX(u:Fp):zf u.val=u:=by
 apply Fin.ext
 rw [HZ,Nat.mod_eq_of_lt u.isLt]
theorem zg:zf PP=0:=by apply Fin.ext;rw [HZ,Nat.mod_self];rfl
theorem kK(n:Nat):zf (n%PP)=zf n:=by rw [T9,Nat.mod_mod]
theorem MG{n:Nat}:zf n=0↔PP ∣ n:=by
 rw [←eF,T9,Nat.zero_mod]
 exact ⟨Nat.dvd_of_mod_eq_zero,Nat.mod_eq_zero_of_dvd⟩
theorem sW(a b:Nat)(h:b≤a):zf (a-b)=zf a-zf b:=by
 have h1:zf (a-b)+zf b=zf a:=by rw [←P8,Nat.sub_add_cancel h]
 rw [←h1];grobner
theorem Fw{u v:Fp}(h:u*v=0):u=0∨v=0:=by
 rw [←KX u,←KX v,←T4,MG] at h
 rcases prP.euclid h with h1 | h1
 ·exact .inl (by rw [←KX u,MG];exact h1)
 ·exact .inr (by rw [←KX v,MG];exact h1)
theorem Ry(k:Nat):(0:Fp)^(k+1)=0:=by rw [Fh];generalize (0:Fp)^k=x;grobner
def jy:Nat:=PP-1
def oL:Nat:=PP-2
def PQ:Nat:=(PP-1)/2
def KU:Nat:=(PP+3)/8
def eI:Nat:=(PP-1)/4
theorem nq:oL+1=jy:=by decide+kernel
theorem mT:∃k,oL=k+1:=⟨PP-3,by decide+kernel⟩
theorem gi:PQ+PQ=jy:=by decide+kernel
theorem iP:KU*4=PQ+2:=by decide+kernel
theorem iA:∃k,KU=k+1:=⟨(PP+3)/8-1,by decide+kernel⟩
theorem iO:∃k,PQ=k+1:=⟨(PP-1)/2-1,by decide+kernel⟩
theorem xf:eI<2^255:=by decide+kernel
theorem pD:PP-1=jy:=rfl
theorem td:eI=14474011154664524427946373126085988481658748083205070504932198000989141204987:=by decide+kernel
attribute [irreducible] jy oL PQ KU eI
theorem eM{u:Fp}(h:u≠0):u^jy=1:=by
 have h1:¬PP ∣ u.val:=fun hd=>h (by rw [←KX u,MG];exact hd)
 have h2:=XW prP h1
 rw [pD] at h2
 rw [←KX u,←kV,←dE,T9,h2]
 decide+kernel
def B9(u:Fp):Fp:=u^oL
theorem Aq{u:Fp}(h:u≠0):B9 u*u=1:=by
 unfold B9
 rw [←Fh,nq]
 exact eM h
theorem Le:B9 0=0:=by
 unfold B9
 obtain ⟨k,hk⟩:=mT
 rw [hk,Ry]
attribute [irreducible] B9
theorem O6:(1:Fp)≠0:=by decide+kernel
theorem Xh{u:Fp}(h:u≠0):B9 u≠0:=fun e=>by
 have:=Aq h
 rw [e] at this
 exact O6 (by grobner)
theorem O7{u v w:Fp}(h:u≠0)(e:u*v=u*w):v=w:=by
 have:u*(v-w)=0:=by grobner
 rcases Fw this with h1 | h1
 ·exact absurd h1 h
 ·clear e this;grobner
theorem aq{u v:Fp}(h:u*v=1):v=B9 u:=by
 have hu:u≠0:=fun e=>by rw [e] at h;exact O6 (by grobner)
 refine O7 hu ?_;have:=Aq hu
 clear hu
 grobner
theorem DI{u v:Fp}(h:u≠0)(h':v≠0):u*v≠0:=fun e=>by
 rcases Fw e with h1 | h1
 ·exact h h1
 ·exact h' h1
theorem E3(v:Fp):0*v=0:=by grobner
theorem Ol(v:Fp):v*0=0:=by grobner
theorem ao(u v:Fp):B9 (u*v)=B9 u*B9 v:=by
 by_cases h:u=0
 ·rw [h,Le,E3,Le,E3]
 ·by_cases h':v=0
  ·rw [h',Le,Ol,Le,Ol]
  ·refine (aq ?_).symm
   have h1:=Aq h
   have h2:=Aq h'
   clear h h'
   grobner
theorem st{u:Fp}(h:u*u=1):u=1∨u= -1:=by
 have:(u-1)*(u+1)=0:=by grobner
 rcases Fw this with h1 | h1
 ·exact .inl (by clear h this;grobner)
 ·exact .inr (by clear h this;grobner)
theorem sB{u v:Fp}(h:u*u=v*v):u=v∨u= -v:=by
 have:(u-v)*(u+v)=0:=by grobner
 rcases Fw this with h1 | h1
 ·exact .inl (by clear h this;grobner)
 ·exact .inr (by clear h this;grobner)
def iF:Fp:=zf 19681161376707505956807079304988542015446066515923890162744021073123829784752
theorem lJ:iF*iF= -1:=by decide+kernel
theorem ZX(b e r f:Nat)(he:e<2^f)(h:SH PP f b e 1%PP=r):zf b^e=zf r:=by
 rw [←kV,T9,←h,Nat.mod_mod,gL PP f b e 1 he,Nat.one_mul]
theorem tP:(zf 2)^eI=iF:=ZX 2 eI _ 255 xf (by rw [td];decide+kernel)
attribute [irreducible] iF
def FH(a:Fp):Fp:=if a^KU*a^KU=a then a^KU else a^KU*iF
theorem gX{a x:Fp}(hx:a^KU=x)(h:a^PQ=1):(x*x)*(x*x)=a*a:=by
 have e:(x*x)*(x*x)=a^(KU*4):=by
  rw [bT,hx];clear h hx;grobner
 rw [e,iP,Q4,h]
 clear h hx e
 grobner
theorem gm{a x:Fp}(h0:¬x*x=a)(h4:(x*x)*(x*x)=a*a):x*iF*(x*iF)=a:=by
 rcases sB h4 with h5 | h5
 ·exact absurd h5 h0
 ·have:=lJ
  clear h4 h0
  generalize iF=j at*
  grobner
theorem fA{s:Fp}(hs:s≠0):(s*s)^PQ=1:=by
 rw [lZ,←Q4,gi,eM hs]
theorem aC(s:Fp):FH (s*s)*FH (s*s)=s*s:=by
 unfold FH
 split
 ·assumption
 ·rename_i h
  by_cases hs:s=0
  ·exfalso
   apply h
   obtain ⟨k,hk⟩:=iA
   rw [hs,E3,hk,Ry,E3]
  ·exact gm h (gX rfl (fA hs))
attribute [irreducible] FH
end Go.Proofs.YtmbepikkgkcgkaaGreatDoor
namespace Go.Proofs.YtmbepikkgkcgkaaGreatDoor
open Go.RowKit
variable {g r : Prop}
open Go.Proofs.Tryz
def lV(a:AB 64):Nat:=(nth a 0).toNat+(nth a 1).toNat*2251799813685248+(nth a 2).toNat*5070602400912917605986812821504+(nth a 3).toNat*11417981541647679048466287755595961091061972992+(nth a 4).toNat*25711008708143844408671393477458601640355247900524685364822016
def wV(a:AB 64):Nat:=(nth a 0).toNat+(nth a 1).toNat*18446744073709551616+(nth a 2).toNat*340282366920938463463374607431768211456+(nth a 3).toNat*6277101735386680763835789423207666416102355444464034512896
def LF(a:AB 64):Fp:=zf (lV a)
def sL(n:Nat)(a:AB 64):Prop:=a.length=5∧(nth a 0).toNat<n∧(nth a 1).toNat<n∧(nth a 2).toNat<n∧(nth a 3).toNat<n∧(nth a 4).toNat<n
abbrev Ct(a:AB 64):Prop:=sL 4503599627370496 a
theorem S6{a:AB 64}(h:a.length=5):∃a0 a1 a2 a3 a4,a=[a0,a1,a2,a3,a4]:=by
 match a,h with
 |[a0,a1,a2,a3,a4],_=>exact ⟨_,_,_,_,_,rfl⟩
theorem Bx{x y:BitVec 64}(h:x.toNat+y.toNat<18446744073709551616):(x+y).toNat=x.toNat+y.toNat:=by
 rw [BitVec.toNat_add,Nat.mod_eq_of_lt O_]
theorem Ek(x:BitVec 64)(k:Nat):(x>>>k).toNat=x.toNat/2^k:=by
 rw [BitVec.toNat_ushiftRight,Nat.shiftRight_eq_div_pow]
theorem Wa(x:BitVec 64):(x>>>51).toNat=x.toNat/2251799813685248:=Ek x 51
theorem Md{x y:BitVec 64}(j:Nat)(hx:x.toNat<2^j):(x ||| y<<<j).toNat=x.toNat+y.toNat*2^j%18446744073709551616:=by
 rw [BitVec.toNat_or,BitVec.toNat_shiftLeft,Nat.shiftLeft_eq]
 rcases Nat.lt_or_ge 64 j with hj | hj
 ·have e:y.toNat*2^j%2^64=0:=by
   obtain ⟨k,rfl⟩:∃k,j=64+k:=⟨j-64,by omega⟩
   rw [Nat.pow_add,show y.toNat*(2^64*2^k)=2^64*(y.toNat*2^k) from by grobner,Nat.mul_mod_right]
  rw [e,Nat.or_zero,Nat.add_zero]
 ·have e:y.toNat*2^j%2^64=y.toNat%2^(64-j)*2^j:=by
   have:(2:Nat)^64=2^(64-j)*2^j:=by rw [←Nat.pow_add,show 64-j+j=64 by omega]
   rw [this,Nat.mul_mod_mul_right]
  rw [show (18446744073709551616:Nat)=2^64 from rfl,e,Nat.or_comm,←Nat.shiftLeft_eq,←Nat.shiftLeft_add_eq_or_of_lt hx,Nat.shiftLeft_eq,Nat.add_comm]
def vY(a0 a1 a2 a3 a4:BitVec 64):AB 64×BitVec 64:=
 let s0:=a0+0#64
 let s1:=a1+s0>>>51
 let s2:=a2+s1>>>51
 let s3:=a3+s2>>>51
 let s4:=a4+s3>>>51
 ([s0&&&2251799813685247#64,s1&&&2251799813685247#64,s2&&&2251799813685247#64,s3&&&2251799813685247#64,s4&&&2251799813685247#64],s4>>>51)
theorem gF(a0 a1 a2 a3 a4:BitVec 64):C0 [a0,a1,a2,a3,a4] 5=((vY a0 a1 a2 a3 a4).2,(vY a0 a1 a2 a3 a4).1):=by kernel_rfl
theorem V2(a0 a1 a2 a3 a4:BitVec 64)(h0:a0.toNat<9223372036854775808)(h1:a1.toNat<9223372036854775808)(h2:a2.toNat<9223372036854775808)(h3:a3.toNat<9223372036854775808)(h4:a4.toNat<9223372036854775808):
  ∃r0 r1 r2 r3 r4 c:BitVec 64,vY a0 a1 a2 a3 a4=([r0,r1,r2,r3,r4],c)∧r0.toNat<2251799813685248∧r1.toNat<2251799813685248∧r2.toNat<2251799813685248∧r3.toNat<2251799813685248∧r4.toNat<2251799813685248∧
   a0.toNat+a1.toNat*2251799813685248+a2.toNat*5070602400912917605986812821504+a3.toNat*11417981541647679048466287755595961091061972992+a4.toNat*25711008708143844408671393477458601640355247900524685364822016=
   r0.toNat+r1.toNat*2251799813685248+r2.toNat*5070602400912917605986812821504+r3.toNat*11417981541647679048466287755595961091061972992+r4.toNat*25711008708143844408671393477458601640355247900524685364822016+c.toNat*57896044618658097711785492504343953926634992332820282019728792003956564819968:=by
 refine ⟨_,_,_,_,_,_,rfl,?_⟩
 have e0:(a0+0#64).toNat=a0.toNat:=by rw [BitVec.add_zero]
 generalize a0+0#64=s0 at*
 have c0:=Wa s0
 have e1:=Bx (x:=a1) (y:=s0>>>51) O_
 generalize a1+s0>>>51=s1 at*
 have c1:=Wa s1
 have e2:=Bx (x:=a2) (y:=s1>>>51) O_
 generalize a2+s1>>>51=s2 at*
 have c2:=Wa s2
 have e3:=Bx (x:=a3) (y:=s2>>>51) O_
 generalize a3+s2>>>51=s3 at*
 have c3:=Wa s3
 have e4:=Bx (x:=a4) (y:=s3>>>51) O_
 generalize a4+s3>>>51=s4 at*
 have c4:=Wa s4
 have m0:=DS s0
 have m1:=DS s1
 have m2:=DS s2
 have m3:=DS s3
 have m4:=DS s4
 rw [m0,m1,m2,m3,m4]
 omega
theorem PB{a:AB 64}(h:sL 9223372036854775808 a):∃r0 r1 r2 r3 r4 c:Nat,(A4 a).length=5∧(nth (A4 a) 0).toNat=r0+19*c∧(nth (A4 a) 1).toNat=r1∧(nth (A4 a) 2).toNat=r2∧(nth (A4 a) 3).toNat=r3∧(nth (A4 a) 4).toNat=r4∧
  r0<2251799813685248∧r1<2251799813685248∧r2<2251799813685248∧r3<2251799813685248∧r4<2251799813685248∧
  lV a=r0+r1*2251799813685248+r2*5070602400912917605986812821504+r3*11417981541647679048466287755595961091061972992+r4*25711008708143844408671393477458601640355247900524685364822016+c*57896044618658097711785492504343953926634992332820282019728792003956564819968:=by
 obtain ⟨hl,h0,h1,h2,h3,h4⟩:=h
 obtain ⟨a0,a1,a2,a3,a4,rfl⟩:=S6 hl
 obtain ⟨r0,r1,r2,r3,r4,c,he,g0,g1,g2,g3,g4,g5⟩:=V2 a0 a1 a2 a3 a4 h0 h1 h2 h3 h4
 have hc:c.toNat≤8192:=by
  change a0.toNat<_ at h0
  change a1.toNat<_ at h1
  change a2.toNat<_ at h2
  change a3.toNat<_ at h3
  change a4.toNat<_ at h4
  omega
 have hm:(19#64*c).toNat=19*c.toNat:=by rw [BitVec.toNat_mul];show 19*c.toNat%_=_;rw [Nat.mod_eq_of_lt O_]
 have hs:A4 [a0,a1,a2,a3,a4]=[r0+19#64*c,r1,r2,r3,r4]:=by
  unfold A4
  rw [gF,he]
  rfl
 rw [hs]
 refine ⟨r0.toNat,r1.toNat,r2.toNat,r3.toNat,r4.toNat,c.toNat,rfl,?_,rfl,rfl,rfl,rfl,g0,g1,g2,g3,g4,g5⟩
 show (r0+19#64*c).toNat=_
 rw [Bx (by rw [hm];omega),hm]
theorem wh{a:AB 64}{n:Nat}(h:sL n a):lV a<n*25711008708143855827028953938453824840009041150452446465556481+1:=by
 obtain ⟨hl,h0,h1,h2,h3,h4⟩:=h
 unfold lV
 omega
theorem bj{x y c:Nat}(h:x=y+c*57896044618658097711785492504343953926634992332820282019728792003956564819968):zf x=zf (y+19*c):=by
 rw [T9,h]
 show _%57896044618658097711785492504343953926634992332820282019728792003956564819949=_%57896044618658097711785492504343953926634992332820282019728792003956564819949
 omega
theorem N3{a:AB 64}(h:sL 72057594037927936 a):Ct (A4 a)∧LF (A4 a)=LF a:=by
 have hlt:=wh h
 obtain ⟨hl,h0,h1,h2,h3,h4⟩:=h
 obtain ⟨r0,r1,r2,r3,r4,c,gl,e0,e1,e2,e3,e4,g0,g1,g2,g3,g4,g5⟩:=PB (a:=a) ⟨hl,by omega,by omega,by omega,by omega,by omega⟩
 have hc:c≤32:=by omega
 refine ⟨⟨gl,by omega,by omega,by omega,by omega,by omega⟩,?_⟩
 unfold LF
 rw [bj g5]
 congr 1
 unfold lV
 rw [e0,e1,e2,e3,e4]
 omega
theorem vW(a0 a1 a2 a3 a4 b0 b1 b2 b3 b4:BitVec 64):E0 [a0,a1,a2,a3,a4] [b0,b1,b2,b3,b4] 5=[a0+b0,a1+b1,a2+b2,a3+b3,a4+b4]:=by kernel_rfl
theorem IQ{a b:AB 64}(ha:Ct a)(hb:Ct b):Ct (AU a b)∧LF (AU a b)=LF a+LF b:=by
 obtain ⟨hl,h0,h1,h2,h3,h4⟩:=ha
 obtain ⟨gl,g0,g1,g2,g3,g4⟩:=hb
 obtain ⟨a0,a1,a2,a3,a4,rfl⟩:=S6 hl
 obtain ⟨b0,b1,b2,b3,b4,rfl⟩:=S6 gl
 unfold AU
 rw [vW]
 change a0.toNat<_ at h0;change a1.toNat<_ at h1;change a2.toNat<_ at h2;change a3.toNat<_ at h3;change a4.toNat<_ at h4
 change b0.toNat<_ at g0;change b1.toNat<_ at g1;change b2.toNat<_ at g2;change b3.toNat<_ at g3;change b4.toNat<_ at g4
 have e0:=Bx (x:=a0) (y:=b0) O_
 have e1:=Bx (x:=a1) (y:=b1) O_
 have e2:=Bx (x:=a2) (y:=b2) O_
 have e3:=Bx (x:=a3) (y:=b3) O_
 have e4:=Bx (x:=a4) (y:=b4) O_
 have hlow:sL 72057594037927936 [a0+b0,a1+b1,a2+b2,a3+b3,a4+b4]:=⟨rfl,by show (a0+b0).toNat<_;omega,by show (a1+b1).toNat<_;omega,by show (a2+b2).toNat<_;omega,by show (a3+b3).toNat<_;omega,by show (a4+b4).toNat<_;omega⟩
 obtain ⟨f1,f2⟩:=N3 hlow
 refine ⟨f1,f2.trans ?_⟩
 unfold LF
 rw [←P8]
 congr 1
 show (a0+b0).toNat+(a1+b1).toNat*_+(a2+b2).toNat*_+(a3+b3).toNat*_+(a4+b4).toNat*_=a0.toNat+a1.toNat*_+a2.toNat*_+a3.toNat*_+a4.toNat*_+(b0.toNat+b1.toNat*_+b2.toNat*_+b3.toNat*_+b4.toNat*_)
 rw [e0,e1,e2,e3,e4]
 omega
theorem se(a0 a1 a2 a3 a4 b0 b1 b2 b3 b4:BitVec 64):Et [a0,a1,a2,a3,a4] [b0,b1,b2,b3,b4] 5=[a0+(9007199254740916#64-b0),a1+(9007199254740988#64-b1),a2+(9007199254740988#64-b2),a3+(9007199254740988#64-b3),a4+(9007199254740988#64-b4)]:=by kernel_rfl
theorem Q8{x y:BitVec 64}(h:y.toNat≤x.toNat):(x-y).toNat=x.toNat-y.toNat:=BitVec.toNat_sub_of_le (by rw [BitVec.le_def];exact h)
theorem JT{a b:AB 64}(ha:Ct a)(hb:Ct b):Ct (Ak a b)∧LF (Ak a b)=LF a-LF b:=by
 obtain ⟨hl,h0,h1,h2,h3,h4⟩:=ha
 obtain ⟨gl,g0,g1,g2,g3,g4⟩:=hb
 obtain ⟨a0,a1,a2,a3,a4,rfl⟩:=S6 hl
 obtain ⟨b0,b1,b2,b3,b4,rfl⟩:=S6 gl
 unfold Ak
 rw [se]
 change a0.toNat<_ at h0;change a1.toNat<_ at h1;change a2.toNat<_ at h2;change a3.toNat<_ at h3;change a4.toNat<_ at h4
 change b0.toNat<_ at g0;change b1.toNat<_ at g1;change b2.toNat<_ at g2;change b3.toNat<_ at g3;change b4.toNat<_ at g4
 have p0:(9007199254740916#64:BitVec 64).toNat=9007199254740916:=rfl
 have p1:(9007199254740988#64:BitVec 64).toNat=9007199254740988:=rfl
 have d0:=Q8 (x:=9007199254740916#64) (y:=b0) O_
 have d1:=Q8 (x:=9007199254740988#64) (y:=b1) O_
 have d2:=Q8 (x:=9007199254740988#64) (y:=b2) O_
 have d3:=Q8 (x:=9007199254740988#64) (y:=b3) O_
 have d4:=Q8 (x:=9007199254740988#64) (y:=b4) O_
 have e0:=Bx (x:=a0) (y:=9007199254740916#64-b0) O_
 have e1:=Bx (x:=a1) (y:=9007199254740988#64-b1) O_
 have e2:=Bx (x:=a2) (y:=9007199254740988#64-b2) O_
 have e3:=Bx (x:=a3) (y:=9007199254740988#64-b3) O_
 have e4:=Bx (x:=a4) (y:=9007199254740988#64-b4) O_
 generalize a0+(9007199254740916#64-b0)=s0 at*
 generalize a1+(9007199254740988#64-b1)=s1 at*
 generalize a2+(9007199254740988#64-b2)=s2 at*
 generalize a3+(9007199254740988#64-b3)=s3 at*
 generalize a4+(9007199254740988#64-b4)=s4 at*
 have hlow:sL 72057594037927936 [s0,s1,s2,s3,s4]:=⟨rfl,by show s0.toNat<_;omega,by show s1.toNat<_;omega,by show s2.toNat<_;omega,by show s3.toNat<_;omega,by show s4.toNat<_;omega⟩
 obtain ⟨f1,f2⟩:=N3 hlow
 refine ⟨f1,f2.trans ?_⟩
 have key:LF [s0,s1,s2,s3,s4]+LF [b0,b1,b2,b3,b4]=LF [a0,a1,a2,a3,a4]:=by
  unfold LF
  rw [←P8,T9]
  have:lV [s0,s1,s2,s3,s4]+lV [b0,b1,b2,b3,b4]=lV [a0,a1,a2,a3,a4]+57896044618658097711785492504343953926634992332820282019728792003956564819949*4:=by
   show s0.toNat+s1.toNat*_+s2.toNat*_+s3.toNat*_+s4.toNat*_+(b0.toNat+b1.toNat*_+b2.toNat*_+b3.toNat*_+b4.toNat*_)=a0.toNat+a1.toNat*_+a2.toNat*_+a3.toNat*_+a4.toNat*_+_
   omega
  rw [this,Nat.add_mul_mod_self_left]
 rw [←key]
 grobner
theorem Di{x:BitVec 64}(h:x.toNat<4503599627370496):Ct (AH x)∧LF (AH x)=zf x.toNat:=by
 have e:AH x=[x,0#64,0#64,0#64,0#64]:=by unfold AH;rfl
 rw [e]
 have z:(0#64:BitVec 64).toNat<4503599627370496:=by decide
 refine ⟨⟨rfl,h,z,z,z,z⟩,?_⟩
 have:lV [x,0#64,0#64,0#64,0#64]=x.toNat:=by
  show x.toNat+(0#64).toNat*_+(0#64).toNat*_+(0#64).toNat*_+(0#64).toNat*_=_
  rw [show (0#64:BitVec 64).toNat=0 from rfl]
  omega
 unfold LF
 rw [this]
theorem qQ{n m:Nat}(f:Nat→AB n)(g:Nat→BitVec n)(h0:(f 0).length=m)(hs:∀j,f (j+1)=put (f j) j (g j)):∀j,(f j).length=m∧ ∀i,i<j→i<m→nth (f j) i=g i:=by
 intro j
 induction j with
 |zero=>exact ⟨h0,fun i hi=>by omega⟩
 |succ j ih=>
  refine ⟨by rw [hs,Bp,ih.1],fun i hi hm=>?_⟩
  rw [hs]
  by_cases e:j=i
  ·subst e;rw [C3 _ _ _ _ (by rw [ih.1];exact hm),if_pos rfl]
  ·by_cases hj:j<m
   ·rw [C3 _ _ _ _ (by rw [ih.1];exact hj),if_neg e];exact ih.2 i O_ hm
   ·rw [show put (f j) j (g j)=f j from List.set_eq_of_length_le (by rw [ih.1];omega)];exact ih.2 i O_ hm
theorem byte_at(w:AB 64)(i:Nat)(hi:i<32):(nth w (i/8)>>>(8*(i%8))).setWidth 8=BitVec.ofNat 8 (wV w/256^i):=by
 apply BitVec.eq_of_toNat_eq
 rw [BitVec.toNat_setWidth,BitVec.toNat_ofNat,Ek]
 have h0:=(nth w 0).isLt
 have h1:=(nth w 1).isLt
 have h2:=(nth w 2).isLt
 have h3:=(nth w 3).isLt
 unfold wV
 rcases (by omega:i=0∨i=1∨i=2∨i=3∨i=4∨i=5∨i=6∨i=7∨i=8∨i=9∨i=10∨i=11∨i=12∨i=13∨i=14∨i=15∨i=16∨i=17∨i=18∨i=19∨i=20∨i=21∨i=22∨i=23∨i=24∨i=25∨i=26∨i=27∨i=28∨i=29∨i=30∨i=31) with h | h | h | h | h | h | h | h | h | h | h | h | h | h | h | h | h | h | h | h | h | h | h | h | h | h | h | h | h | h | h | h<;>subst h<;>simp only [Nat.reduceDiv,Nat.reduceMod,Nat.reduceMul,Nat.reducePow]<;>omega
end Go.Proofs.YtmbepikkgkcgkaaGreatDoor
