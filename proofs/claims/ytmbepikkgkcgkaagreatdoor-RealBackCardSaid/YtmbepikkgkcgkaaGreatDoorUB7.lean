/- Merged and shortened by a program: part 7. -/
import Derived.Test.YtmbepikkgkcgkaaGreatDoorUB6
set_option maxRecDepth 100000
set_option maxHeartbeats 8000000
namespace Go.Proofs.YtmbepikkgkcgkaaGreatDoor
open Go.RowKit
variable {g r : Prop}
open Go.Proofs.Tryz
@[simp] theorem ue(key t:AB 8):(R8 key t).length=16:=by with_unfolding_all exact XH _ _
def Qr(ad tx:AB 8)(j5:Nat)(X5:AB 8)(j8:Nat):AB 8:=X5++[((BitVec.ofNat 64 (xm [ad.length,tx.length] j5))>>>(8*j8)).setWidth 8]
def GB(ad tx X4:AB 8)(j5:Nat):Nat→AB 8
 |0=>X4
 |j8+1=>Qr ad tx j5 (GB ad tx X4 j5 j8) j8
@[simp] theorem M8(ad tx X4:AB 8)(j5 j8:Nat):(GB ad tx X4 j5 j8).length=X4.length+j8:=by
 induction j8 with
 |zero=>(simp [GB, *];done)
 |succ j8 ih=>rw [GB.eq_2,Qr];(simp [ih];omega)
def Qy(ad tx X4:AB 8)(j5:Nat):AB 8:=(GB ad tx X4 j5 8)
def F0(ad tx:AB 8):Nat→AB 8
 |0=>KJ ((KJ ad)++tx)
 |j5+1=>Qy ad tx (F0 ad tx j5) j5
@[simp] theorem NG(ad tx:AB 8)(j5:Nat):(F0 ad tx j5).length=(((ad.length+(16-ad.length%16)%16)+tx.length)+(16-((ad.length+(16-ad.length%16)%16)+tx.length)%16)%16)+8*j5:=by
 induction j5 with
 |zero=>(simp [F0, *];done)
 |succ j5 ih=>rw [F0.eq_2,Qy];(simp [ih];omega)
def Nx(key nonce ad tx:AB 8):AB 8:=R8 (cut (D5 key 0#32 nonce) 0 32) (F0 ad tx 2)
theorem tO{A B:Prop}(a:A)(b:B)(k:r)(h:A→B→Hid r→g:=by intro a b h;refine Cs (DG (bs:=[6]) a b K_ rfl rfl BT AM) rfl ?_;exact h.out):g:=h a b ⟨k⟩
theorem eJ(k:r)(h:Hid r→g:=by intro h;refine BE (Zr rfl rfl rfl underlying23 underlying23 Gb GG O_ AH) AM rfl ?_;exact h.out):g:=h ⟨k⟩
theorem Yc(k:r)(h:Hid r→g:=by intro h;refine BE (Wj (l:=[_,_]) underlying41 QK rfl rfl D_ D_ AH) AM rfl ?_;exact h.out):g:=h ⟨k⟩
theorem dR(key nonce ad:AB 8)(an acap:Nat)(b:AB 8)(o n cap:Nat)(hkey:key.length=32)(hnonce:nonce.length=12)(had:ad.length=an)(han:an≤1099511627)(hb:o+n≤b.length)(hn:n≤1099511627):Ev prog (.call 108 [B4 (key),B4 (nonce),.c (.sl 0 0 an acap 1),.c (.sl 1 o n cap 1)] [Bw (ad),Bw (b)]) (.val (B4 (Nx key nonce ad (cut b o n))) [Bw (ad),Bw (b)]):=by
 have hP:=Hid.mk (Nx.eq_1 key nonce ad (cut b o n))
 subst had
 have htx:(cut b o n).length=n:=by rw [Ck];omega
 try simp only [htx] at hP
 refine AG func108 rfl ntmps108 rfl AH ?_;refine BY ?_;refine Qw ?_;refine AN ?_;have hQ1:(D5 key 0#32 nonce).length=64:=An
 refine CC ?_;refine RH ?_;refine A7 (Vf key 0#32 nonce AD AD) rA ?_;refine J0 ?_;refine Md ?_;refine AN ?_;have hQ2:(KJ ad).length=ad.length+(16-ad.length%16)%16:=An
 refine AK ?_;refine JK ?_;refine AR ?_;refine eJ ?_;refine tO (Xh ad ad.length ad.length AD AD) qd ?_;refine Bc ?_;have hQ3:(KJ ((KJ ad)++(cut b o n))).length=((ad.length+(16-ad.length%16)%16)+n)+(16-((ad.length+(16-ad.length%16)%16)+n)%16)%16:=An
 refine Ar ?_;refine tA rfl rfl rfl rfl underlying23 underlying23 Gb GG UD O_ AH AM rfl ?_;refine Cs (DG (bs:=[8]) (Xh ((KJ ad)++(cut b o n)) ((ad.length+(16-ad.length%16)%16)+n) ((ad.length+(16-ad.length%16)%16)+n) AD AD) qd K_ rfl rfl BT AM) rfl ?_;refine Ab ?_;refine CV ?_;refine LG ?_;refine Yc ?_;refine H1 ?_;refine RO ?_;refine AU [8,9,10,29,30,31] (fun (zz:Nat×AB 8)=>⟨54,AS [8,9,10,29,30,31] [Al 2,Al 3,.c (.sl 4 0 ((((ad.length+(16-ad.length%16)%16)+n)+(16-((ad.length+(16-ad.length%16)%16)+n)%16)%16)+8*zz.1) ((((ad.length+(16-ad.length%16)%16)+n)+(16-((ad.length+(16-ad.length%16)%16)+n)%16)%16)+8*zz.1) 1),.c (.sl 5 0 2 2 1),Ae (((2:Nat):Int)),Ae (((zz.1:Nat):Int))],[Bw (ad),Bw (b),CM (Ag 16),CM (D5 key 0#32 nonce),CM (zz.2),.row true (.ai (UV [ad.length,n]))]⟩) (fun j5=>(j5,F0 ad (cut b o n) j5)) (2) K_ ?_ ?_
 ·intro j5 hj5
  try dsimp only
  have hX4:(F0 ad (cut b o n) j5).length=(((ad.length+(16-ad.length%16)%16)+n)+(16-((ad.length+(16-ad.length%16)%16)+n)%16)%16)+8*j5:=by rw [NG ad (cut b o n) _];try omega
  rw [F0.eq_2,Qy]
  try simp only [htx]
  generalize F0 ad (cut b o n) j5=X4 at*
  refine AK ?_;refine AA (BA (b:=2) rfl rfl) rfl ?_;refine AQ ?_;refine rH ?_;refine AA (Mc rfl rfl Bv Dw) rfl ?_;refine Ab ?_;refine A6 ?_;refine AU [8,9,10,12,29,30,31,35] (fun (zz:Nat×AB 8)=>⟨54,AS [8,9,10,12,29,30,31,35] [Al 2,Al 3,.c (.sl 4 0 (((((ad.length+(16-ad.length%16)%16)+n)+(16-((ad.length+(16-ad.length%16)%16)+n)%16)%16)+8*j5)+zz.1) (((((ad.length+(16-ad.length%16)%16)+n)+(16-((ad.length+(16-ad.length%16)%16)+n)%16)%16)+8*j5)+zz.1) 1),Ae (((xm [ad.length,n] j5:Nat):Int)),.c (.sl 5 0 2 2 1),Ae (((2:Nat):Int)),Ae (((j5:Nat):Int)),Ae (((zz.1:Nat):Int))],[Bw (ad),Bw (b),CM (Ag 16),CM (D5 key 0#32 nonce),CM (zz.2),.row true (.ai (UV [ad.length,n]))]⟩) (fun j8=>(j8,GB ad (cut b o n) X4 j5 j8)) (8) K_ ?_ ?_
  ·intro j8 hj8
   try dsimp only
   have hX5:(GB ad (cut b o n) X4 j5 j8).length=((((ad.length+(16-ad.length%16)%16)+n)+(16-((ad.length+(16-ad.length%16)%16)+n)%16)%16)+8*j5)+j8:=by rw [M8 ad (cut b o n) X4 j5 _];try omega
   rw [GB.eq_2,Qr]
   try simp only [htx]
   generalize GB ad (cut b o n) X4 j5 j8=X5 at*
   refine AK ?_;refine Qm ?_;refine AZ ?_;refine BH ?_;refine cW ?_;refine QZ ?_;refine SA ?_;refine Rz ?_;refine Wz ?_;refine Cr ?_;refine Ad ?_;refine F9 ?_;exact ⟨(j8+1,_),K_,rfl⟩
  ·try dsimp only
   have hY6:(GB ad (cut b o n) X4 j5 8).length=((((ad.length+(16-ad.length%16)%16)+n)+(16-((ad.length+(16-ad.length%16)%16)+n)%16)%16)+8*j5)+8:=by rw [M8 ad (cut b o n) X4 j5 _];try omega
   generalize GB ad (cut b o n) X4 j5 8=Y6 at*
   refine AK ?_;refine VR ?_;refine D7 ?_;exact ⟨(j5+1,_),K_,rfl⟩
 ·try dsimp only
  have hY7:(F0 ad (cut b o n) 2).length=(((ad.length+(16-ad.length%16)%16)+n)+(16-((ad.length+(16-ad.length%16)%16)+n)%16)%16)+8*2:=by rw [NG ad (cut b o n) _];try omega
  generalize F0 ad (cut b o n) 2=Y7 at*
  refine AK ?_;refine AA (BA (a:=2) (b:=2) rfl rfl) rfl ?_;refine AN ?_;have hQ8:(cut (D5 key 0#32 nonce) 0 32).length=32:=An
  have hQ9:(R8 (cut (D5 key 0#32 nonce) 0 32) Y7).length=16:=An
  refine AK ?_;refine AA (Gz (l:=0) (h:=32) (len:=32) (cp:=64) rfl underlying105 Bz rfl rfl rfl O_ O_ Q2 rfl rfl) rfl ?_;refine AA (TT rfl underlying37 O_ D_) rfl ?_;refine AA (PO rfl rfl Ld J9 UD D_) rfl ?_;refine AR ?_;refine Fb (fI (cut (D5 key 0#32 nonce) 0 32) Y7 ((((ad.length+(16-ad.length%16)%16)+n)+(16-((ad.length+(16-ad.length%16)%16)+n)%16)%16)+8*2) ((((ad.length+(16-ad.length%16)%16)+n)+(16-((ad.length+(16-ad.length%16)%16)+n)%16)%16)+8*2) AD AD AD) xT ?_;refine LN ?_;refine A6 ?_;rw [hP.out]
  exact fS
theorem kX(key nonce ad:AB 8)(an acap:Nat)(b:AB 8)(n cap:Nat)(hkey:key.length=32)(hnonce:nonce.length=12)(had:ad.length=an)(han:an≤1099511627)(hb:b.length=n)(hn:n≤1099511627):Ev prog (.call 108 [B4 (key),B4 (nonce),.c (.sl 0 0 an acap 1),.c (.sl 1 0 n cap 1)] [Bw (ad),Bw (b)]) (.val (B4 (Nx key nonce ad b)) [Bw (ad),Bw (b)]):=by
 have h_:=dR key nonce ad an acap b 0 n cap hkey hnonce had han O_ hn
 rw [HL hb] at h_
 exact h_
@[simp] theorem yv(key nonce ad tx:AB 8)(_hkey:key.length=32)(_hnonce:nonce.length=12):(Nx key nonce ad tx).length=16:=by
 unfold Nx
 (simp [*];done)
attribute [irreducible] Nx
def Gh(key nonce text:AB 8):AB 8:=G6 key 1#32 nonce text
def Hd(key nonce ad text:AB 8):AB 8:=Nx key nonce ad (G6 key 1#32 nonce text)
theorem RF(k:r)(h:Hid r→g:=by intro h;refine Ez 3 mixed K_ rfl rfl rfl ?_;exact h.out):g:=h ⟨k⟩
theorem Zp(k:r)(h:Hid r→g:=by intro h;refine AE (Bj rfl rfl Mr OX C1 D_) rfl ?_;exact h.out):g:=h ⟨k⟩
theorem gN(key nonce ad:AB 8)(an acap:Nat)(text:AB 8)(tn tcap:Nat)(hkey:key.length=32)(hnonce:nonce.length=12)(had:ad.length=an)(han:an≤1099511627)(htext:text.length=tn)(htn:tn≤1099511627):Ev prog (.call 75 [Ae ((0:Nat):Int),B4 (key),B4 (nonce),.c (.sl 0 0 an acap 1),.c (.sl 1 0 tn tcap 1)] [Bw (ad),Bw (text)]) (.val (.tup [.c (.sl 2 0 tn tn 1),B4 (Hd key nonce ad text)]) [Bw (ad),Bw (text),CM (Gh key nonce text)]):=by
 have hP_adWork00:Hid (Gh key nonce text=G6 key 1#32 nonce text):=⟨rfl⟩
 have hP_adWork01:Hid (Hd key nonce ad text=Nx key nonce ad (G6 key 1#32 nonce text)):=⟨rfl⟩
 subst had
 subst htext
 refine AG func75 rfl ntmps75 rfl AH ?_;refine BY ?_;refine G4 ?_;refine Qw ?_;refine AZ ?_;refine AQ ?_;refine AA (Cm (a:=0) (b:=0) rfl rfl) rfl ?_;refine Bc ?_;have hQ1:(G6 key 1#32 nonce text).length=text.length:=An
 refine CC ?_;refine RH ?_;refine AR ?_;refine Bh (AY (bs:=[1]) (kK key 1#32 nonce text text.length tcap AD AD AD AD) ve K_ K_ rfl BT) AM rfl ?_;refine Bc ?_;have hQ2:(Nx key nonce ad (G6 key 1#32 nonce text)).length=16:=An
 refine CC ?_;refine RH ?_;refine FZ ?_;refine Bh (AY (bs:=[0,5]) (kX key nonce ad ad.length acap (G6 key 1#32 nonce text) text.length text.length AD AD AD AD AD AD) qU K_ K_ rfl BT) AM rfl ?_;refine LN ?_;refine A6 ?_;refine RF ?_;refine Ah ?_;refine Zp ?_;refine H6 ?_;refine LN ?_;refine A6 ?_;rw [hP_adWork00.out,hP_adWork01.out]
 exact sU (EG rfl) (JR rfl rfl Mr OX C1 D_) (by (kernel_rfl))
@[simp] theorem sm(key nonce text:AB 8)(hkey:key.length=32)(hnonce:nonce.length=12):(Gh key nonce text).length=text.length:=by
 unfold Gh
 (simp [*];done)
attribute [irreducible] Gh
@[simp] theorem tR(key nonce ad text:AB 8)(hkey:key.length=32)(hnonce:nonce.length=12):(Hd key nonce ad text).length=16:=by
 unfold Hd
 (simp [*];done)
attribute [irreducible] Hd
def DU(key nonce ad tx:AB 8):AB 8:=Nx key nonce ad tx
theorem VZ{A B:Prop}(a:A)(b:B)(k:r)(h:A→B→Hid r→g:=by intro a b h;refine Bh (AY (bs:=[0,1]) a b K_ K_ rfl BT) AM rfl ?_;exact h.out):g:=h a b ⟨k⟩
theorem Vo(key nonce ad:AB 8)(an acap:Nat)(b:AB 8)(o n cap:Nat)(hkey:key.length=32)(hnonce:nonce.length=12)(had:ad.length=an)(han:an≤1099511627)(hb:o+n≤b.length)(hn:n≤1099511627):Ev prog (.call 75 [Ae ((1:Nat):Int),B4 (key),B4 (nonce),.c (.sl 0 0 an acap 1),.c (.sl 1 o n cap 1)] [Bw (ad),Bw (b)]) (.val (.tup [.c (.sl 1 o n cap 1),B4 (DU key nonce ad (cut b o n))]) [Bw (ad),Bw (b)]):=by
 have hP_adWork11:Hid (DU key nonce ad (cut b o n)=Nx key nonce ad (cut b o n)):=⟨rfl⟩
 subst had
 have htx:(cut b o n).length=n:=by rw [Ck];omega
 try simp only [htx] at hP_adWork11
 refine AG func75 rfl ntmps75 rfl AH ?_;refine BY ?_;refine G4 ?_;refine Qw ?_;refine AZ ?_;refine AQ ?_;refine AA (Cm (a:=1) (b:=0) rfl rfl) rfl ?_;refine Ad ?_;refine AA (Cm (a:=1) (b:=1) rfl rfl) rfl ?_;refine Bc ?_;have hQ1:(Nx key nonce ad (cut b o n)).length=16:=An
 refine CC ?_;refine RH ?_;refine FZ ?_;refine VZ (dR key nonce ad ad.length acap b o n cap AD AD AD AD AD AD) qU ?_;refine LN ?_;refine A6 ?_;refine RF ?_;refine Ah ?_;refine Zp ?_;refine H6 ?_;refine LN ?_;refine A6 ?_;rw [hP_adWork11.out]
 exact sU (EG rfl) (JR rfl rfl Mr OX C1 D_) (by (kernel_rfl))
@[simp] theorem sj(key nonce ad tx:AB 8)(hkey:key.length=32)(hnonce:nonce.length=12):(DU key nonce ad tx).length=16:=by
 unfold DU
 (simp [*];done)
attribute [irreducible] DU
def BP(key nonce ad text:AB 8):AB 8:=(Gh key nonce text)++(Hd key nonce ad text)
theorem OI(k:r)(h:Hid r→g:=by intro h;refine AA (Ac rfl) rfl ?_;refine AA (Ac rfl) rfl ?_;refine AN ?_;refine S_ ?_;refine Aq ?_;refine AA (Af rfl) rfl ?_;exact h.out):g:=h ⟨k⟩
theorem Db(k:r)(h:Hid r→g:=by intro h;refine AA (Af rfl) rfl ?_;refine G9 Nz ?_;exact h.out):g:=h ⟨k⟩
theorem GY(k:r)(h:Hid r→g:=by intro h;refine AA (MU rfl dj rfl) rfl ?_;refine AN ?_;exact h.out):g:=h ⟨k⟩
theorem mP(key nonce ad:AB 8)(an acap:Nat)(text:AB 8)(tn tcap:Nat)(hkey:key.length=32)(hnonce:nonce.length=12)(had:ad.length=an)(han:an≤1099511627)(htext:text.length=tn)(htn:tn≤1099511627)(hA:an≤65536)(hT:tn≤65536):Ev prog (.call 103 [B4 (key),B4 (nonce),.c (.sl 0 0 an acap 1),.c (.sl 1 0 tn tcap 1)] [Bw (ad),Bw (text)]) (.val (.tup [.c (.sl 2 0 (tn+16) (tn+16) 1),Ae ((0:Nat):Int)]) [Bw (ad),Bw (text),CM (BP key nonce ad text)]):=by
 have hP_adSeal0:Hid (BP key nonce ad text=(Gh key nonce text)++(Hd key nonce ad text)):=⟨rfl⟩
 subst had
 subst htext
 refine AG func103 rfl ntmps103 rfl AH ?_;refine BY ?_;refine OI ?_;refine CV ?_;refine FI ?_;refine Db ?_;refine Db ?_;refine CV ?_;refine G9 Nz ?_;refine FI ?_;refine GY ?_;have hQ1:(Gh key nonce text).length=text.length:=An
 have hQ2:(Hd key nonce ad text).length=16:=An
 refine CC ?_;refine RH ?_;refine FZ ?_;refine VZ (gN key nonce ad ad.length acap text text.length tcap AD AD AD AD AD AD) nG ?_;refine Cx ?_;refine Qw ?_;refine G4 ?_;refine LN ?_;refine AZ ?_;refine AA (Gz (l:=0) (h:=16) (len:=16) (cp:=16) rfl underlying121 Bz rfl rfl rfl O_ O_ Q2 rfl rfl) rfl ?_;refine Cr ?_;refine JT ?_;rw [hP_adSeal0.out]
 exact QW
@[simp] theorem CZ(key nonce ad text:AB 8)(hkey:key.length=32)(hnonce:nonce.length=12):(BP key nonce ad text).length=text.length+16:=by
 unfold BP
 (simp [*];done)
attribute [irreducible] BP
def GK(key nonce box:AB 8):AB 8:=G6 key 1#32 nonce (cut box 0 (box.length-16))
theorem Yo(k:r)(h:Hid r→g:=by intro h;refine AG func53 rfl ntmps53 rfl AH ?_;exact h.out):g:=h ⟨k⟩
theorem fu(k:r)(h:Hid r→g:=by intro h;refine AA (Fg (b:=16) rfl rfl O_ O_) rfl ?_;exact h.out):g:=h ⟨k⟩
theorem O4(k:r)(h:Hid r→g:=by intro h;refine AA (BA (b:=0) rfl rfl) rfl ?_;exact h.out):g:=h ⟨k⟩
theorem KL(k:r)(h:Hid r→g:=by intro h;refine Ez 12 mixed K_ rfl rfl rfl ?_;exact h.out):g:=h ⟨k⟩
theorem DS(k:r)(h:Hid r→g:=by intro h;refine AE (Bj rfl rfl Ld J9 C1 D_) rfl ?_;exact h.out):g:=h ⟨k⟩
theorem Fi(k:r)(h:Hid r→g:=by intro h;refine AE (E9 rfl) rfl ?_;refine AE (Bs rfl rfl) rfl ?_;refine AE (Bs rfl rfl) rfl ?_;exact h.out):g:=h ⟨k⟩
theorem aB(k:r)(h:Hid r→g:=by intro h;refine Ez 7 mixed K_ rfl rfl rfl ?_;exact h.out):g:=h ⟨k⟩
theorem Gw(k:r)(h:Hid r→g:=by intro h;refine Bn ?_;refine AN ?_;refine Q_ ?_;exact h.out):g:=h ⟨k⟩
theorem mM(key nonce ad:AB 8)(an acap:Nat)(box:AB 8)(bn bcap:Nat)(hkey:key.length=32)(hnonce:nonce.length=12)(had:ad.length=an)(han:an≤1099511627)(hbox:box.length=bn)(hbn:bn≤1099511627)(hA:an≤65536)(h16:16≤bn)(hT:bn-16≤65536)(hE:DU key nonce ad (cut box 0 (bn-16))=cut box (bn-16) 16):Ev prog (.call 53 [B4 (key),B4 (nonce),.c (.sl 0 0 an acap 1),.c (.sl 1 0 bn bcap 1)] [Bw (ad),Bw (box)]) (.val (.tup [.c (.sl 2 0 (bn-16) (bn-16) 1),Ae ((0:Nat):Int)]) [Bw (ad),Bw (box),CM (GK key nonce box)]):=by
 have hP_adOpen0:Hid (GK key nonce box=G6 key 1#32 nonce (cut box 0 (box.length-16))):=⟨rfl⟩
 subst had
 subst hbox
 refine Yo ?_;refine BY ?_;refine OI ?_;refine CV ?_;refine fu ?_;refine Ab ?_;refine CV ?_;refine FI ?_;refine Db ?_;refine Db ?_;refine O4 ?_;refine CQ ?_;refine Db ?_;refine Db ?_;refine FI ?_;refine GY ?_;have hQ1:(DU key nonce ad (cut box 0 (box.length-16))).length=16:=An
 refine S_ ?_;refine KL ?_;refine DS ?_;refine AE (Bj rfl rfl eS mr C1 D_) rfl ?_;refine Bt ?_;refine Ah ?_;refine AE (en rfl underlying23 Bz rfl O_) rfl ?_;refine Io (AY (bs:=[0,1]) (Vo key nonce ad ad.length acap box 0 (box.length-16) bcap AD AD AD AD AD AD) nG K_ K_ rfl BT) AM rfl ?_;refine Fi ?_;refine G2 (BO gO AH) AM rfl ?_;refine H6 ?_;refine LN ?_;refine AN ?_;have hQ2:(cut box (box.length-16) 16).length=16:=An
 refine S_ ?_;refine aB ?_;refine Zp ?_;refine Bt ?_;refine AE (Zh rfl underlying23 Bz rfl rfl O_ O_) rfl ?_;refine AE (TT rfl underlying121 O_ D_) rfl ?_;refine AE (PO rfl rfl Mr OX UD D_) rfl ?_;refine AE (ZM rfl rfl underlying121 underlying5 Bz C1 C1) rfl ?_;refine Gw ?_;refine Bu rfl (by simp [hE]) ?_
 have hQ3:(G6 key 1#32 nonce (cut box 0 (box.length-16))).length=box.length-16:=An
 refine CC ?_;refine RH ?_;refine AR ?_;refine Bh (AY (bs:=[1]) (bP key 1#32 nonce box 0 (box.length-16) bcap AD AD AD AD) ve K_ K_ rfl BT) AM rfl ?_;refine JT ?_;rw [hP_adOpen0.out]
 exact QW
attribute [irreducible] GK
theorem dw(key nonce ad:AB 8)(an acap:Nat)(box:AB 8)(bn bcap:Nat)(hkey:key.length=32)(hnonce:nonce.length=12)(had:ad.length=an)(han:an≤1099511627)(hbox:box.length=bn)(hbn:bn≤1099511627)(hA:an≤65536)(h16:16≤bn)(hT:bn-16≤65536)(hE:¬(DU key nonce ad (cut box 0 (bn-16))=cut box (bn-16) 16)):Ev prog (.call 53 [B4 (key),B4 (nonce),.c (.sl 0 0 an acap 1),.c (.sl 1 0 bn bcap 1)] [Bw (ad),Bw (box)]) (.val (.tup [.c .nsl,Ae ((3:Nat):Int)]) [Bw (ad),Bw (box)]):=by
 subst had
 subst hbox
 refine Yo ?_;refine BY ?_;refine OI ?_;refine CV ?_;refine fu ?_;refine Ab ?_;refine CV ?_;refine FI ?_;refine Db ?_;refine Db ?_;refine O4 ?_;refine CQ ?_;refine Db ?_;refine Db ?_;refine FI ?_;refine GY ?_;have hQ1:(DU key nonce ad (cut box 0 (box.length-16))).length=16:=An
 refine S_ ?_;refine KL ?_;refine DS ?_;refine AE (Bj rfl rfl eS mr C1 D_) rfl ?_;refine Bt ?_;refine Ah ?_;refine AE (en rfl underlying23 Bz rfl O_) rfl ?_;refine Io (AY (bs:=[0,1]) (Vo key nonce ad ad.length acap box 0 (box.length-16) bcap AD AD AD AD AD AD) nG K_ K_ rfl BT) AM rfl ?_;refine Fi ?_;refine G2 (BO gO AH) AM rfl ?_;refine H6 ?_;refine LN ?_;refine AN ?_;have hQ2:(cut box (box.length-16) 16).length=16:=An
 refine S_ ?_;refine aB ?_;refine Zp ?_;refine Bt ?_;refine AE (Zh rfl underlying23 Bz rfl rfl O_ O_) rfl ?_;refine AE (TT rfl underlying121 O_ D_) rfl ?_;refine AE (PO rfl rfl Mr OX UD D_) rfl ?_;refine AE (ZM rfl rfl underlying121 underlying5 Bz C1 C1) rfl ?_;refine Gw ?_;refine Ef rfl (by simp [hE]) ?_
 refine AK ?_;exact Ct
theorem eB(key nonce ad:AB 8)(an acap:Nat)(box:AB 8)(bn bcap:Nat)(_hkey:key.length=32)(_hnonce:nonce.length=12)(had:ad.length=an)(han:an≤1099511627)(hbox:box.length=bn)(hbn:bn≤1099511627)(hA:an≤65536)(h16:16≤bn)(hT:65536<bn-16):Ev prog (.call 53 [B4 (key),B4 (nonce),.c (.sl 0 0 an acap 1),.c (.sl 1 0 bn bcap 1)] [Bw (ad),Bw (box)]) (.val (.tup [.c .nsl,Ae ((2:Nat):Int)]) [Bw (ad),Bw (box)]):=by
 subst had
 subst hbox
 refine Yo ?_;refine BY ?_;refine OI ?_;refine CV ?_;refine fu ?_;refine Ab ?_;refine CV ?_;refine FI ?_;refine Db ?_;refine Db ?_;refine O4 ?_;refine CQ ?_;refine Db ?_;refine Db ?_;refine FI ?_;refine CQ ?_;refine AQ ?_;exact Ct
theorem Cg(k:r)(h:Hid r→g:=by intro h;refine AA (JU rfl dj rfl) rfl ?_;exact h.out):g:=h ⟨k⟩
theorem ew(key nonce ad:AB 8)(an acap:Nat)(box:AB 8)(bn bcap:Nat)(_hkey:key.length=32)(_hnonce:nonce.length=12)(had:ad.length=an)(han:an≤1099511627)(hbox:box.length=bn)(hbn:bn≤1099511627)(hA:an≤65536)(h16:bn<16):Ev prog (.call 53 [B4 (key),B4 (nonce),.c (.sl 0 0 an acap 1),.c (.sl 1 0 bn bcap 1)] [Bw (ad),Bw (box)]) (.val (.tup [.c .nsl,Ae ((2:Nat):Int)]) [Bw (ad),Bw (box)]):=by
 subst had
 subst hbox
 refine Yo ?_;refine BY ?_;refine OI ?_;refine CV ?_;refine Nv ?_;refine Ab ?_;refine CV ?_;refine FI ?_;refine Db ?_;refine Db ?_;refine V3 ?_;refine CQ ?_;refine AR ?_;refine N5 Nz rfl ?_;refine N5 Nz rfl ?_;refine Cg ?_;refine AQ ?_;exact Ct
def Rh(b:AB 8)(o:Nat)(X1:BitVec 64)(j3:Nat):BitVec 64:=(X1<<<8) ||| ((nth b (o+j3)).setWidth 64)
def IB(b:AB 8)(o:Nat):Nat→BitVec 64
 |0=>0#64
 |j3+1=>Rh b o (IB b o j3) j3
def Ri(b:AB 8)(o n:Nat):BitVec 64:=(IB b o n)
theorem VI(b:AB 8)(o n cap:Nat)(hb:o+n≤b.length)(hn:n≤8796093022208):Ev prog (.call 62 [.c (.sl 0 o n cap 1)] [Bw (b)]) (.val (.c (.val (BW (Ri b o n)))) [Bw (b)]):=by
 have hP:=Hid.mk (Ri.eq_1 b o n)
 refine AG func62 rfl ntmps62 rfl AH ?_;refine QM ?_;refine Ab ?_;refine CV ?_;refine RO ?_;refine AU [3,6,7,8] (fun (zz:Nat×BitVec 64)=>⟨19,AS [3,6,7,8] [.c (.val (BW (zz.2))),.c (.sl 0 o n cap 1),Ae (((n:Nat):Int)),Ae (((zz.1:Nat):Int))],[Bw (b)]⟩) (fun j3=>(j3,IB b o j3)) (n) K_ ?_ ?_
 ·intro j3 hj3
  try dsimp only
  rw [IB.eq_2,Rh]
  generalize IB b o j3=X1 at*
  refine PH ?_;refine gR ?_;refine GZ ?_;refine Ab ?_;refine AA (CA (j:=8) rfl rfl) rfl ?_;refine AR ?_;refine gA ?_;refine Fx ?_;refine Ad ?_;refine F9 ?_;exact ⟨(j3+1,_),K_,rfl⟩
 ·try dsimp only
  generalize IB b o n=Y2 at*
  refine SZ ?_;refine CT ?_;rw [hP.out]
  exact EZ
attribute [irreducible] Ri
def Kb(x:BitVec 64)(X1:AB 8)(j2:Nat):AB 8:=X1++[(x>>>(8*(7-j2))).setWidth 8]
def Cn(b:AB 8)(x:BitVec 64):Nat→AB 8
 |0=>b
 |j2+1=>Kb x (Cn b x j2) j2
@[simp] theorem IG(b:AB 8)(x:BitVec 64)(j2:Nat):(Cn b x j2).length=b.length+j2:=by
 induction j2 with
 |zero=>(simp [Cn, *];done)
 |succ j2 ih=>rw [Cn.eq_2,Kb];(simp [ih];omega)
def Dg(b:AB 8)(x:BitVec 64):AB 8:=(Cn b x 8)
theorem NT(b:AB 8)(n cap:Nat)(x:BitVec 64)(hb:b.length=n)(hn:n≤8796093022208):Ev prog (.call 101 [.c (.sl 0 0 n cap 1),.c (.val (BW x))] [CM (b)]) (.val (.c (.sl 1 0 (n+8) (n+8) 1)) [.dead,CM (Dg b x)]):=by
 have hP:=Hid.mk (Dg.eq_1 b x)
 try simp only [hb] at hP
 refine AG func101 rfl ntmps101 rfl AH ?_;refine QM ?_;refine Ay ?_;refine pM 0 rfl rfl AH rfl ?_;refine S_ ?_;refine AU [0,1,5] (fun (zz:Nat×AB 8)=>⟨19,AS [0,1,5] [.c (.sl 1 0 (n+zz.1) (n+zz.1) 1),.c (.val (BW (x))),Ae (((7:Nat):Int)-((zz.1:Nat):Int))],[.dead,CM (zz.2)]⟩) (fun j2=>(j2,Cn b x j2)) (8) K_ ?_ ?_
 ·intro j2 hj2
  try dsimp only
  have hX1:(Cn b x j2).length=n+j2:=by rw [IG b x _];try omega
  rw [Cn.eq_2,Kb]
  try simp only [hb]
  generalize Cn b x j2=X1 at*
  rw [show ((7:Nat):Int)-((j2:Nat):Int)=((7-j2:Nat):Int) from by omega]
  refine A9 ?_;refine R1 ?_;refine Df ?_;refine QZ ?_;refine SA ?_;refine Rz ?_;refine Wz ?_;refine Cr ?_;refine Ab ?_;refine Nv ?_;refine Bc ?_;refine ⟨(j2+1,_),(by
   dsimp only
   rw [show ((7:Nat):Int)-((j2+1:Nat):Int)=((7-j2:Nat):Int)-1 from by omega]
   kernel_rfl),rfl⟩
 ·try dsimp only
  have hY2:(Cn b x 8).length=n+8:=by rw [IG b x _];try omega
  generalize Cn b x 8=Y2 at*
  refine A9 ?_;refine QP ?_;refine CT ?_;rw [hP.out]
  exact EZ
@[simp] theorem rr(b:AB 8)(x:BitVec 64):(Dg b x).length=b.length+8:=by
 unfold Dg
 (simp [IG, *];done)
attribute [irreducible] Dg
def Gs:AB 32:=[1116352408#32,1899447441#32,3049323471#32,3921009573#32,961987163#32,1508970993#32,2453635748#32,2870763221#32,3624381080#32,310598401#32,607225278#32,1426881987#32,1925078388#32,2162078206#32,2614888103#32,3248222580#32,3835390401#32,4022224774#32,264347078#32,604807628#32,770255983#32,1249150122#32,1555081692#32,1996064986#32,2554220882#32,2821834349#32,2952996808#32,3210313671#32,3336571891#32,3584528711#32,113926993#32,338241895#32,666307205#32,773529912#32,1294757372#32,1396182291#32,1695183700#32,1986661051#32,2177026350#32,2456956037#32,2730485921#32,2820302411#32,3259730800#32,3345764771#32,3516065817#32,3600352804#32,4094571909#32,275423344#32,430227734#32,506948616#32,659060556#32,883997877#32,958139571#32,1322822218#32,1537002063#32,1747873779#32,1955562222#32,2024104815#32,2227730452#32,2361852424#32,2428436474#32,2756734187#32,3204031479#32,3329325298#32]
theorem fc:Ev prog (.call 60 [] []) (.val (.c (.sl 0 0 64 64 1)) [W6 (Gs)]):=by
 have hP:=Hid.mk (Gs.eq_1)
 refine AG func60 rfl ntmps60 rfl AH ?_;refine QM ?_;refine BE (yg (l:=[1116352408#32,1899447441#32,3049323471#32,3921009573#32,961987163#32,1508970993#32,2453635748#32,2870763221#32,3624381080#32,310598401#32,607225278#32,1426881987#32,1925078388#32,2162078206#32,2614888103#32,3248222580#32,3835390401#32,4022224774#32,264347078#32,604807628#32,770255983#32,1249150122#32,1555081692#32,1996064986#32,2554220882#32,2821834349#32,2952996808#32,3210313671#32,3336571891#32,3584528711#32,113926993#32,338241895#32,666307205#32,773529912#32,1294757372#32,1396182291#32,1695183700#32,1986661051#32,2177026350#32,2456956037#32,2730485921#32,2820302411#32,3259730800#32,3345764771#32,3516065817#32,3600352804#32,4094571909#32,275423344#32,430227734#32,506948616#32,659060556#32,883997877#32,958139571#32,1322822218#32,1537002063#32,1747873779#32,1955562222#32,2024104815#32,2227730452#32,2361852424#32,2428436474#32,2756734187#32,3204031479#32,3329325298#32]) underlying108 vk rfl rfl D_ D_ AH) AM rfl ?_;refine Ay ?_;rw [hP.out]
 exact EZ
@[simp] theorem ua:(Gs).length=64:=by
 unfold Gs
 (simp [*];done)
attribute [irreducible] Gs
def Gr:AB 64:=[4794697086780616226#64,8158064640168781261#64,13096744586834688815#64,16840607885511220156#64,4131703408338449720#64,6480981068601479193#64,10538285296894168987#64,12329834152419229976#64,15566598209576043074#64,1334009975649890238#64,2608012711638119052#64,6128411473006802146#64,8268148722764581231#64,9286055187155687089#64,11230858885718282805#64,13951009754708518548#64,16472876342353939154#64,17275323862435702243#64,1135362057144423861#64,2597628984639134821#64,3308224258029322869#64,5365058923640841347#64,6679025012923562964#64,8573033837759648693#64,10970295158949994411#64,12119686244451234320#64,12683024718118986047#64,13788192230050041572#64,14330467153632333762#64,15395433587784984357#64,489312712824947311#64,1452737877330783856#64,2861767655752347644#64,3322285676063803686#64,5560940570517711597#64,5996557281743188959#64,7280758554555802590#64,8532644243296465576#64,9350256976987008742#64,10552545826968843579#64,11727347734174303076#64,12113106623233404929#64,14000437183269869457#64,14369950271660146224#64,15101387698204529176#64,15463397548674623760#64,17586052441742319658#64,1182934255886127544#64,1847814050463011016#64,2177327727835720531#64,2830643537854262169#64,3796741975233480872#64,4115178125766777443#64,5681478168544905931#64,6601373596472566643#64,7507060721942968483#64,8399075790359081724#64,8693463985226723168#64,9568029438360202098#64,10144078919501101548#64,10430055236837252648#64,11840083180663258601#64,13761210420658862357#64,14299343276471374635#64,14566680578165727644#64,15097957966210449927#64,16922976911328602910#64,17689382322260857208#64,500013540394364858#64,748580250866718886#64,1242879168328830382#64,1977374033974150939#64,2944078676154940804#64,3659926193048069267#64,4368137639120453308#64,4836135668995329356#64,5532061633213252278#64,6448918945643986474#64,6902733635092675308#64,7801388544844847127#64]
theorem gP:Ev prog (.call 170 [] []) (.val (.c (.sl 0 0 80 80 1)) [CH (Gr)]):=by
 have hP:=Hid.mk (Gr.eq_1)
 refine AG func170 rfl ntmps170 rfl AH ?_;refine QM ?_;refine BE (xb (l:=[4794697086780616226#64,8158064640168781261#64,13096744586834688815#64,16840607885511220156#64,4131703408338449720#64,6480981068601479193#64,10538285296894168987#64,12329834152419229976#64,15566598209576043074#64,1334009975649890238#64,2608012711638119052#64,6128411473006802146#64,8268148722764581231#64,9286055187155687089#64,11230858885718282805#64,13951009754708518548#64,16472876342353939154#64,17275323862435702243#64,1135362057144423861#64,2597628984639134821#64,3308224258029322869#64,5365058923640841347#64,6679025012923562964#64,8573033837759648693#64,10970295158949994411#64,12119686244451234320#64,12683024718118986047#64,13788192230050041572#64,14330467153632333762#64,15395433587784984357#64,489312712824947311#64,1452737877330783856#64,2861767655752347644#64,3322285676063803686#64,5560940570517711597#64,5996557281743188959#64,7280758554555802590#64,8532644243296465576#64,9350256976987008742#64,10552545826968843579#64,11727347734174303076#64,12113106623233404929#64,14000437183269869457#64,14369950271660146224#64,15101387698204529176#64,15463397548674623760#64,17586052441742319658#64,1182934255886127544#64,1847814050463011016#64,2177327727835720531#64,2830643537854262169#64,3796741975233480872#64,4115178125766777443#64,5681478168544905931#64,6601373596472566643#64,7507060721942968483#64,8399075790359081724#64,8693463985226723168#64,9568029438360202098#64,10144078919501101548#64,10430055236837252648#64,11840083180663258601#64,13761210420658862357#64,14299343276471374635#64,14566680578165727644#64,15097957966210449927#64,16922976911328602910#64,17689382322260857208#64,500013540394364858#64,748580250866718886#64,1242879168328830382#64,1977374033974150939#64,2944078676154940804#64,3659926193048069267#64,4368137639120453308#64,4836135668995329356#64,5532061633213252278#64,6448918945643986474#64,6902733635092675308#64,7801388544844847127#64]) underlying199 zk rfl rfl D_ D_ AH) AM rfl ?_;refine Ay ?_;rw [hP.out]
 exact EZ
@[simp] theorem ui:(Gr).length=80:=by
 unfold Gr
 (simp [*];done)
attribute [irreducible] Gr
def PM(X1:AB 8):AB 8:=X1++[0#8]
def E0(tx:AB 8):Nat→AB 8
 |0=>tx++[128#8]
 |j3+1=>PM (E0 tx j3)
@[simp] theorem LO(tx:AB 8)(j3:Nat):(E0 tx j3).length=(tx.length+1)+j3:=by
 induction j3 with
 |zero=>(simp [E0, *];done)
 |succ j3 ih=>rw [E0.eq_2,PM];(simp [ih];omega)
def JE(tx:AB 8):AB 8:=Dg (E0 tx ((120-(tx.length+1)%64)%64)) ((BitVec.ofNat 64 tx.length)<<<3)
theorem kf(b:AB 8)(o n cap:Nat)(hb:o+n≤b.length)(hn:n≤4398046511104):Ev prog (.call 61 [.c (.sl 0 o n cap 1),Ae ((64:Nat):Int),Ae ((8:Nat):Int)] [Bw (b)]) (.val (.c (.sl 1 0 (((n+1)+(120-(n+1)%64)%64)+8) (((n+1)+(120-(n+1)%64)%64)+8) 1)) [Bw (b),CM (JE (cut b o n))]):=by
 have hP:=Hid.mk (JE.eq_1 (cut b o n))
 have htx:(cut b o n).length=n:=by rw [Ck];omega
 try simp only [htx] at hP
 refine AG func61 rfl ntmps61 rfl AH ?_;refine QM ?_;refine JK ?_;refine AR ?_;refine Tw ?_;refine Ab ?_;refine BE (Xz (l:=[128#8]) underlying23 Gb rfl rfl D_ D_ AH) AM rfl ?_;refine Cr ?_;refine Ay ?_;refine AU [0,1,2,7] (fun (zz:Nat×AB 8)=>⟨41,AS [0,1,2,7] [.c (.sl 0 o n cap 1),Ae (((64:Nat):Int)),Ae (((8:Nat):Int)),.c (.sl 1 0 ((n+1)+zz.1) ((n+1)+zz.1) 1)],[Bw (b),CM (zz.2)]⟩) (fun j3=>(j3,E0 (cut b o n) j3)) ((120-(n+1)%64)%64) K_ ?_ ?_
 ·intro j3 hj3
  try dsimp only
  have hX1:(E0 (cut b o n) j3).length=(n+1)+j3:=by rw [LO (cut b o n) _];try omega
  rw [E0.eq_2,PM]
  try simp only [htx]
  generalize E0 (cut b o n) j3=X1 at*
  refine GV ?_;refine AR ?_;refine AA (HM (b:=64) rfl rfl O_ O_) rfl ?_;refine FZ ?_;refine AA (Fg (a:=64) (b:=8) rfl rfl O_ O_) rfl ?_;refine AA (EE (b:=56) rfl rfl) rfl ?_;refine AZ ?_;refine V8 ?_;refine Cr ?_;refine Bc ?_;exact ⟨(j3+1,_),K_,rfl⟩
 ·try dsimp only
  have hY2:(E0 (cut b o n) ((120-(n+1)%64)%64)).length=(n+1)+(120-(n+1)%64)%64:=by rw [LO (cut b o n) _];try omega
  generalize E0 (cut b o n) ((120-(n+1)%64)%64)=Y2 at*
  refine GV ?_;refine AR ?_;refine AA (HM (b:=64) rfl rfl O_ O_) rfl ?_;refine FZ ?_;refine AA (Fg (a:=64) (b:=8) rfl rfl O_ O_) rfl ?_;refine AA (EE (b:=56) rfl rfl) rfl ?_;refine AZ ?_;refine CV ?_;refine cW ?_;refine Ab ?_;refine AQ ?_;refine AA (Cm (a:=8) (b:=16) rfl rfl) rfl ?_;refine Bc ?_;have hQ3:(Dg Y2 ((BitVec.ofNat 64 n)<<<3)).length=((n+1)+(120-(n+1)%64)%64)+8:=An
  refine Ar ?_;refine AA (CA (j:=3) rfl rfl) rfl ?_;refine Cs (DG (bs:=[1]) (NT Y2 ((n+1)+(120-(n+1)%64)%64) ((n+1)+(120-(n+1)%64)%64) ((BitVec.ofNat 64 n)<<<3) AD AD) fy K_ rfl rfl BT AM) rfl ?_;refine Ab ?_;refine Ay ?_;rw [hP.out]
  exact EZ
@[simp] theorem xP(tx:AB 8):(JE tx).length=((tx.length+1)+(120-(tx.length+1)%64)%64)+8:=by
 unfold JE
 (simp [LO, *];done)
attribute [irreducible] JE
def PN(tx:AB 8)(j4:Nat)(X4:AB 32)(j8:Nat):AB 32:=if j8<16 then put X4 j8 ((Ri (JE tx) ((64*j4)+(4*j8)) (((4*j8)+4)-(4*j8))).setWidth 32) else put X4 j8 ((((nth X4 (j8-16))+(((Da (nth X4 (j8-15)) (-7))^^^(Da (nth X4 (j8-15)) (-18)))^^^((nth X4 (j8-15))>>>3)))+(nth X4 (j8-7)))+(((Da (nth X4 (j8-2)) (-17))^^^(Da (nth X4 (j8-2)) (-19)))^^^((nth X4 (j8-2))>>>10)))
def Ej(tx:AB 8)(j4:Nat):Nat→AB 32
 |0=>OJ 64
 |j8+1=>PN tx j4 (Ej tx j4 j8) j8
@[simp] theorem IW(tx:AB 8)(j4 j8:Nat):(Ej tx j4 j8).length=64:=by
 induction j8 with
 |zero=>(simp [Ej, *];done)
 |succ j8 ih=>rw [Ej.eq_2,PN];(split<;>first | (simp [ih];done) | (simp [ih];omega) | (simp [*];done))
def Mo(Y5 X6:AB 32)(j19:Nat):AB 32:=[(((((nth X6 7)+(((Da (nth X6 4) (-6))^^^(Da (nth X6 4) (-11)))^^^(Da (nth X6 4) (-25))))+(((nth X6 4)&&&(nth X6 5))^^^((~~~(nth X6 4))&&&(nth X6 6))))+(nth Gs j19))+(nth Y5 j19))+((((Da (nth X6 0) (-2))^^^(Da (nth X6 0) (-13)))^^^(Da (nth X6 0) (-22)))+((((nth X6 0)&&&(nth X6 1))^^^((nth X6 0)&&&(nth X6 2)))^^^((nth X6 1)&&&(nth X6 2)))),nth X6 0,nth X6 1,nth X6 2,(nth X6 3)+(((((nth X6 7)+(((Da (nth X6 4) (-6))^^^(Da (nth X6 4) (-11)))^^^(Da (nth X6 4) (-25))))+(((nth X6 4)&&&(nth X6 5))^^^((~~~(nth X6 4))&&&(nth X6 6))))+(nth Gs j19))+(nth Y5 j19)),nth X6 4,nth X6 5,nth X6 6]
def Dv(X3 Y5:AB 32):Nat→AB 32
 |0=>X3
 |j19+1=>Mo Y5 (Dv X3 Y5 j19) j19
theorem Hc(X3 Y5:AB 32)(hX3:X3.length=8)(_hY5:Y5.length=64)(j19:Nat):(Dv X3 Y5 j19).length=8:=by
 induction j19 with
 |zero=>(simp [Dv, *];done)
 |succ j19 ih=>rw [Dv.eq_2,Mo];(simp;done)
def MO(Y7 X8:AB 32)(j29:Nat):AB 32:=put X8 j29 ((nth X8 j29)+(nth Y7 j29))
def Du(X3 Y7:AB 32):Nat→AB 32
 |0=>X3
 |j29+1=>MO Y7 (Du X3 Y7 j29) j29
theorem HE(X3 Y7:AB 32)(hX3:X3.length=8)(j29:Nat):(Du X3 Y7 j29).length=8:=by
 induction j29 with
 |zero=>(simp [Du, *];done)
 |succ j29 ih=>rw [Du.eq_2,MO];(simp [ih];done)
def OH(tx:AB 8)(X3:AB 32)(j4:Nat):AB 32:=(Du X3 (Dv X3 (Ej tx j4 64) 64) 8)
def Ek(tx:AB 8):Nat→AB 32
 |0=>[1779033703#32,3144134277#32,1013904242#32,2773480762#32,1359893119#32,2600822924#32,528734635#32,1541459225#32]
 |j4+1=>OH tx (Ek tx j4) j4
@[simp] theorem Lf(tx:AB 8)(j4:Nat):(Ek tx j4).length=8:=by
 induction j4 with
 |zero=>(simp [Ek, *];done)
 |succ j4 ih=>rw [Ek.eq_2,OH];(simp [HE, *];done)
def NU(Y11:AB 32)(X12:AB 8)(j35:Nat):AB 8:=put X12 j35 (((nth Y11 (j35/4))>>>(24-(8*(j35%4)))).setWidth 8)
def Dk(Y11:AB 32):Nat→AB 8
 |0=>Ag 32
 |j35+1=>NU Y11 (Dk Y11 j35) j35
@[simp] theorem KD(Y11:AB 32)(j35:Nat):(Dk Y11 j35).length=32:=by
 induction j35 with
 |zero=>(simp [Dk, *];done)
 |succ j35 ih=>rw [Dk.eq_2,NU];(simp [ih];done)
def AJ(tx:AB 8):AB 8:=(Dk (Ek tx ((tx.length+72)/64)) 32)
theorem KP(k:r)(h:Hid r→g:=by intro h;refine S_ ?_;refine Aq ?_;refine BE (BO QX AH) AM rfl ?_;exact h.out):g:=h ⟨k⟩
theorem TF(k:r)(h:Hid r→g:=by intro h;refine AE (AT rfl rfl underlying111 Cd O_) rfl ?_;exact h.out):g:=h ⟨k⟩
theorem G1(k:r)(h:Hid r→g:=by intro h;refine AE (Ac rfl) rfl ?_;refine AE (Ac rfl) rfl ?_;refine Bn ?_;exact h.out):g:=h ⟨k⟩
theorem Le(k:r)(h:Hid r→g:=by intro h;refine AA (Pd rfl rfl) rfl ?_;exact h.out):g:=h ⟨k⟩
theorem Qn(k:r)(h:Hid r→g:=by intro h;refine Ez 6 mixed K_ rfl rfl rfl ?_;exact h.out):g:=h ⟨k⟩
theorem fC(k:r)(h:Hid r→g:=by intro h;refine AA (AT (j:=1) rfl rfl underlying107 Cd O_) rfl ?_;exact h.out):g:=h ⟨k⟩
theorem Lj(k:r)(h:Hid r→g:=by intro h;refine AA (VL rfl rfl aS Dw) rfl ?_;exact h.out):g:=h ⟨k⟩
theorem fH(k:r)(h:Hid r→g:=by intro h;refine AA (AT (j:=2) rfl rfl underlying107 Cd O_) rfl ?_;exact h.out):g:=h ⟨k⟩
theorem ep(k:r)(h:Hid r→g:=by intro h;refine AE (AT rfl rfl underlying107 Cd O_) rfl ?_;exact h.out):g:=h ⟨k⟩
theorem EB(k:r)(h:Hid r→g:=by intro h;refine BE (BO QX AH) AM rfl ?_;exact h.out):g:=h ⟨k⟩
theorem Tz(k:r)(h:Hid r→g:=by intro h;refine AA (BA (b:=32) rfl rfl) rfl ?_;exact h.out):g:=h ⟨k⟩
theorem TY(k:r)(h:Hid r→g:=by intro h;refine AA (K4 (a:=8) rfl rfl O_) rfl ?_;exact h.out):g:=h ⟨k⟩
theorem Q5(k:r)(h:Hid r→g:=by intro h;refine AA (AT rfl rfl underlying37 Bz O_) rfl ?_;exact h.out):g:=h ⟨k⟩
theorem Sr(k:r)(h:Hid r→g:=by intro h;refine AA (BA (a:=32) (b:=32) rfl rfl) rfl ?_;exact h.out):g:=h ⟨k⟩
theorem H5(k:r)(h:Hid r→g:=by intro h;refine AN ?_;refine S_ ?_;refine Aq ?_;refine AA (Bj rfl rfl Ld J9 C1 D_) rfl ?_;exact h.out):g:=h ⟨k⟩
theorem Em(k:r)(h:Hid r→g:=by intro h;refine Bm rfl rfl rfl rfl J9 C1 C1 AM ?_;refine AN ?_;refine S_ ?_;exact h.out):g:=h ⟨k⟩
theorem FC(h:g:=by exact gw (JR rfl rfl Ld J9 C1 D_) (by (kernel_rfl))):g:=h
theorem ju(b:AB 8)(o n cap:Nat)(hb:o+n≤b.length)(hn:n≤2199023255552):Ev prog (.call 38 [.c (.sl 0 o n cap 1)] [Bw (b)]) (.val (B4 (AJ (cut b o n))) [Bw (b)]):=by
 have hP:=Hid.mk (AJ.eq_1 (cut b o n))
 have htx:(cut b o n).length=n:=by rw [Ck];omega
 try simp only [htx] at hP
 refine AG func38 rfl ntmps38 rfl AH ?_;refine KP ?_;refine AQ ?_;refine AA (iT (l:=[1779033703#32,3144134277#32,1013904242#32,2773480762#32,1359893119#32,2600822924#32,528734635#32,1541459225#32]) oz underlying107 Cd rfl rfl D_) rfl ?_;refine BE (BO oJ AH) AM rfl ?_;refine Bm rfl rfl rfl rfl Zf C1 C1 AM ?_;refine AN ?_;have hQ1:(Gs).length=64:=An
 refine AK ?_;refine A7 (fc) AAW ?_;refine Bc ?_;have hQ2:(JE (cut b o n)).length=((n+1)+(120-(n+1)%64)%64)+8:=An
 refine A9 ?_;refine TD (kf b o n cap AD AD) vL ?_;refine Ay ?_;refine AU [2,3,4,5] (fun (zz:Nat×AB 32)=>⟨201,AS [2,3,4,5] [Al 1,Al 2,.c (.sl 3 0 64 64 1),.c (.sl 4 (64*zz.1) ((((n+1)+(120-(n+1)%64)%64)+8)-64*zz.1) ((((n+1)+(120-(n+1)%64)%64)+8)-64*zz.1) 1)],[Bw (b),CM (Ag 32),W6 (zz.2),W6 (Gs),CM (JE (cut b o n))]⟩) (fun j4=>(j4,Ek (cut b o n) j4)) ((n+72)/64) K_ ?_ ?_
 ·intro j4 hj4
  try dsimp only
  have hX3:(Ek (cut b o n) j4).length=8:=by rw [Lf (cut b o n) _];try omega
  rw [Ek.eq_2,OH]
  try simp only [htx]
  generalize Ek (cut b o n) j4=X3 at*
  refine GV ?_;refine NC ?_;refine AQ ?_;refine BE (BO xJ AH) AM rfl ?_;refine Dd ?_;refine AU [2,3,4,5,6,32] (fun (zz:Nat×AB 32)=>⟨201,AS [2,3,4,5,6,32] [Al 1,Al 2,.c (.sl 3 0 64 64 1),.c (.sl 4 (64*j4) ((((n+1)+(120-(n+1)%64)%64)+8)-64*j4) ((((n+1)+(120-(n+1)%64)%64)+8)-64*j4) 1),Al 5,Ae (((zz.1:Nat):Int))],[Bw (b),CM (Ag 32),W6 (X3),W6 (Gs),CM (JE (cut b o n)),W6 (zz.2)]⟩) (fun j8=>(j8,Ej (cut b o n) j4 j8)) (64) K_ ?_ ?_
  ·intro j8 hj8
   try dsimp only
   have hX4:(Ej (cut b o n) j4 j8).length=64:=by rw [IW (cut b o n) j4 _];try omega
   rw [Ej.eq_2,PN]
   try simp only [htx]
   generalize Ej (cut b o n) j4 j8=X4 at*
   refine AK ?_;refine NI ?_;refine AZ ?_;refine Ab ?_;refine AA (BA (b:=16) rfl rfl) rfl ?_;refine FA ?_;by_cases hc5:j8<16
   ·try simp only [if_pos hc5] at*
    refine Ef rfl (decide_eq_true hc5) ?_;refine Ar ?_;refine AR ?_;refine TH ?_;refine AR ?_;refine TH ?_;refine Ql ?_;refine AA (Yf rfl underlying23 Bz rfl rfl O_ O_) rfl ?_;refine Bh (AY (bs:=[4]) (VI (JE (cut b o n)) ((64*j4)+(4*j8)) (((4*j8)+4)-(4*j8)) (((((n+1)+(120-(n+1)%64)%64)+8)-64*j4)-(4*j8)) AD AD) uZ K_ K_ rfl BT) AM rfl ?_;refine eP ?_;refine AA (AT rfl rfl underlying111 Cd O_) rfl ?_;refine Ls rfl rfl rfl Cd Dw AM ?_;refine D7 ?_;exact ⟨(j8+1,_),K_,rfl⟩
   ·try simp only [if_neg hc5] at*
    refine Bu rfl (decide_eq_false hc5) ?_;refine S_ ?_;refine Qe ?_;refine Ah ?_;refine AE (Fg (b:=15) rfl rfl O_ O_) rfl ?_;refine TF ?_;refine G0 ?_;refine Ah ?_;refine AE (Fg (b:=2) rfl rfl O_ O_) rfl ?_;refine TF ?_;refine G0 ?_;refine G1 ?_;refine AZ ?_;refine A7 (DL (nth X4 (j8-15)) (-7)) Ku ?_;refine AR ?_;refine A7 (DL (nth X4 (j8-15)) (-18)) Ku ?_;refine Le ?_;refine AR ?_;refine AA (SM (j:=3) rfl rfl) rfl ?_;refine Le ?_;refine Ab ?_;refine A7 (DL (nth X4 (j8-2)) (-17)) Ku ?_;refine AR ?_;refine A7 (DL (nth X4 (j8-2)) (-19)) Ku ?_;refine Le ?_;refine AR ?_;refine AA (SM (j:=10) rfl rfl) rfl ?_;refine Le ?_;refine Ay ?_;refine Ez 15 mixed K_ rfl rfl rfl ?_;refine Bt ?_;refine AE (Fg (b:=16) rfl rfl O_ O_) rfl ?_;refine TF ?_;refine G0 ?_;refine Ah ?_;refine IQ ?_;refine Ah ?_;refine AE (Fg (b:=7) rfl rfl O_ O_) rfl ?_;refine TF ?_;refine G0 ?_;refine IQ ?_;refine Ah ?_;refine IQ ?_;refine TF ?_;refine LI ?_;refine D7 ?_;exact ⟨(j8+1,_),K_,rfl⟩
  ·try dsimp only
   have hY6:(Ej (cut b o n) j4 64).length=64:=by rw [IW (cut b o n) j4 _];try omega
   generalize Ej (cut b o n) j4 64=Y6 at*
   refine AK ?_;refine Ts ?_;refine AQ ?_;refine AA (Bj rfl rfl sY Zf C1 D_) rfl ?_;refine BE (BO oJ AH) AM rfl ?_;refine Bm rfl rfl rfl rfl Zf C1 C1 AM ?_;refine Dd ?_;refine AU [2,3,4,5,6,12,89] (fun (zz:Nat×AB 32)=>⟨201,AS [2,3,4,5,6,12,89] [Al 1,Al 2,.c (.sl 3 0 64 64 1),.c (.sl 4 (64*j4) ((((n+1)+(120-(n+1)%64)%64)+8)-64*j4) ((((n+1)+(120-(n+1)%64)%64)+8)-64*j4) 1),Al 5,Al 6,Ae (((zz.1:Nat):Int))],[Bw (b),CM (Ag 32),W6 (X3),W6 (Gs),CM (JE (cut b o n)),W6 (Y6),W6 (zz.2)]⟩) (fun j19=>(j19,Dv X3 Y6 j19)) (64) K_ ?_ ?_
   ·intro j19 hj19
    try dsimp only
    have hX7:(Dv X3 Y6 j19).length=8:=by rw [Hc X3 Y6 hX3 hY6 _];try omega
    rw [Dv.eq_2,Mo]
    try simp only [htx]
    generalize Dv X3 Y6 j19=X7 at*
    refine AK ?_;refine NI ?_;refine CT ?_;refine Qn ?_;refine AE (AT (j:=4) rfl rfl underlying107 Cd O_) rfl ?_;refine G0 ?_;refine AE (AT (j:=0) rfl rfl underlying107 Cd O_) rfl ?_;refine G0 ?_;refine G1 ?_;refine AZ ?_;refine A7 (DL (nth X7 4) (-6)) Ku ?_;refine AR ?_;refine A7 (DL (nth X7 4) (-11)) Ku ?_;refine Le ?_;refine AR ?_;refine A7 (DL (nth X7 4) (-25)) Ku ?_;refine Le ?_;refine Ay ?_;refine Ez 25 mixed K_ rfl rfl rfl ?_;refine AE (AT (j:=7) rfl rfl underlying107 Cd O_) rfl ?_;refine G0 ?_;refine Ah ?_;refine IQ ?_;refine Ah ?_;refine AE (AT (j:=5) rfl rfl underlying107 Cd O_) rfl ?_;refine G0 ?_;refine AE (SF rfl rfl) rfl ?_;refine Ah ?_;refine AE (kB rfl) rfl ?_;refine AE (AT (j:=6) rfl rfl underlying107 Cd O_) rfl ?_;refine G0 ?_;refine AE (SF rfl rfl) rfl ?_;refine AE (Pd rfl rfl) rfl ?_;refine IQ ?_;refine Bt ?_;refine AE (DI rfl rfl underlying108 Cd O_) rfl ?_;refine G0 ?_;refine IQ ?_;refine Ah ?_;refine TF ?_;refine G0 ?_;refine IQ ?_;refine H6 ?_;refine AZ ?_;refine A7 (DL (nth X7 0) (-2)) Ku ?_;refine AR ?_;refine A7 (DL (nth X7 0) (-13)) Ku ?_;refine Le ?_;refine AR ?_;refine A7 (DL (nth X7 0) (-22)) Ku ?_;refine Le ?_;refine BH ?_;refine fC ?_;refine Lj ?_;refine AA (SF rfl rfl) rfl ?_;refine AR ?_;refine fH ?_;refine Lj ?_;refine AA (SF rfl rfl) rfl ?_;refine Le ?_;refine fC ?_;refine Lj ?_;refine fH ?_;refine Lj ?_;refine AA (SF rfl rfl) rfl ?_;refine Le ?_;refine AA (Rf rfl rfl) rfl ?_;refine BH ?_;refine AA (Rf rfl rfl) rfl ?_;refine AR ?_;refine fC ?_;refine Lj ?_;refine fH ?_;refine Lj ?_;refine AA (AT (j:=3) rfl rfl underlying107 Cd O_) rfl ?_;refine Lj ?_;refine AR ?_;refine AA (Rf rfl rfl) rfl ?_;refine AR ?_;refine AA (AT (j:=5) rfl rfl underlying107 Cd O_) rfl ?_;refine Lj ?_;refine AA (AT (j:=6) rfl rfl underlying107 Cd O_) rfl ?_;refine Lj ?_;refine AA (iT (l:=[_,_,_,_,_,_,_,_]) oz underlying107 Cd rfl rfl D_) rfl ?_;refine Bm rfl rfl rfl rfl Zf C1 C1 AM ?_;refine D7 ?_;exact ⟨(j19+1,_),K_,rfl⟩
   ·try dsimp only
    have hY8:(Dv X3 Y6 64).length=8:=by rw [Hc X3 Y6 hX3 hY6 _];try omega
    generalize Dv X3 Y6 64=Y8 at*
    refine AK ?_;refine Ts ?_;refine Dd ?_;refine AU [2,3,4,5,12,172] (fun (zz:Nat×AB 32)=>⟨201,AS [2,3,4,5,12,172] [Al 1,Al 2,.c (.sl 3 0 64 64 1),.c (.sl 4 (64*j4) ((((n+1)+(120-(n+1)%64)%64)+8)-64*j4) ((((n+1)+(120-(n+1)%64)%64)+8)-64*j4) 1),Al 5,Ae (((zz.1:Nat):Int))],[Bw (b),CM (Ag 32),W6 (zz.2),W6 (Gs),CM (JE (cut b o n)),W6 (Y8)]⟩) (fun j29=>(j29,Du X3 Y8 j29)) (8) K_ ?_ ?_
    ·intro j29 hj29
     try dsimp only
     have hX9:(Du X3 Y8 j29).length=8:=by rw [HE X3 Y8 hX3 _];try omega
     rw [Du.eq_2,MO]
     try simp only [htx]
     generalize Du X3 Y8 j29=X9 at*
     refine AK ?_;refine Qm ?_;refine CT ?_;refine I7 ?_;refine Ah ?_;refine ep ?_;refine G0 ?_;refine Ah ?_;refine ep ?_;refine G0 ?_;refine IQ ?_;refine ep ?_;refine LI ?_;refine D7 ?_;exact ⟨(j29+1,_),K_,rfl⟩
    ·try dsimp only
     have hY10:(Du X3 Y8 8).length=8:=by rw [HE X3 Y8 hX3 _];try omega
     generalize Du X3 Y8 8=Y10 at*
     refine AK ?_;refine VR ?_;refine AZ ?_;refine AA (Yf (l:=64) rfl underlying23 Bz rfl rfl O_ O_) rfl ?_;refine Bc ?_;exact ⟨(j4+1,_),K_,rfl⟩
 ·try dsimp only
  have hY11:(Ek (cut b o n) ((n+72)/64)).length=8:=by rw [Lf (cut b o n) _];try omega
  generalize Ek (cut b o n) ((n+72)/64)=Y11 at*
  refine GV ?_;refine NC ?_;refine AQ ?_;refine EB ?_;refine Dd ?_;refine AU [2,3,21,184] (fun (zz:Nat×AB 8)=>⟨201,AS [2,3,21,184] [Al 1,Al 2,Al 3,Ae (((zz.1:Nat):Int))],[Bw (b),CM (Ag 32),W6 (Y11),CM (zz.2)]⟩) (fun j35=>(j35,Dk Y11 j35)) (32) K_ ?_ ?_
  ·intro j35 hj35
   try dsimp only
   have hX12:(Dk Y11 j35).length=32:=by rw [KD Y11 _];try omega
   rw [Dk.eq_2,NU]
   try simp only [htx]
   generalize Dk Y11 j35=X12 at*
   refine AK ?_;refine Tz ?_;refine AZ ?_;refine BH ?_;refine AA (Sq (b:=4) rfl rfl O_ O_) rfl ?_;refine AA (AT rfl rfl underlying107 Cd O_) rfl ?_;refine Lj ?_;refine AR ?_;refine AA (HM (b:=4) rfl rfl O_ O_) rfl ?_;refine TY ?_;refine AA (Fg (a:=24) rfl rfl O_ O_) rfl ?_;refine AA (SM rfl rfl) rfl ?_;refine AA (F3 rfl underlying106 underlying5 (vM _)) rfl ?_;refine Q5 ?_;refine C3 ?_;refine D7 ?_;exact ⟨(j35+1,_),K_,rfl⟩
  ·try dsimp only
   have hY13:(Dk Y11 32).length=32:=by rw [KD Y11 _];try omega
   generalize Dk Y11 32=Y13 at*
   refine AK ?_;refine Sr ?_;refine H5 ?_;refine Em ?_;rw [hP.out]
   exact FC
theorem H7(b:AB 8)(n cap:Nat)(hb:b.length=n)(hn:n≤2199023255552):Ev prog (.call 38 [.c (.sl 0 0 n cap 1)] [Bw (b)]) (.val (B4 (AJ b)) [Bw (b)]):=by
 have h_:=ju b 0 n cap O_ hn
 rw [HL hb] at h_
 exact h_
@[simp] theorem Ap(tx:AB 8):(AJ tx).length=32:=by
 unfold AJ
 (simp [KD, *];done)
attribute [irreducible] AJ
def Jd(X3 X4:AB 8)(j8:Nat):AB 8×AB 8:=(put X3 j8 ((nth X3 j8)^^^54#8),put X4 j8 ((nth X4 j8)^^^92#8))
def Ba(key:AB 8):Nat→AB 8×AB 8
 |0=>(over (Ag 64) 0 (cut key 0 (min key.length 64)),over (Ag 64) 0 (cut key 0 (min key.length 64)))
 |j8+1=>Jd (Ba key j8).1 (Ba key j8).2 j8
@[simp] theorem I8(key:AB 8)(j8:Nat):(Ba key j8).1.length=64:=by
 induction j8 with
 |zero=>(simp [Ba, *];omega)
 |succ j8 ih=>rw [Ba.eq_2,Jd];(simp [ih];done)
@[simp] theorem I3(key:AB 8)(j8:Nat):(Ba key j8).2.length=64:=by
 induction j8 with
 |zero=>(simp [Ba, *];omega)
 |succ j8 ih=>rw [Ba.eq_2,Jd];(simp [ih];done)
def MS(key b:AB 8):AB 8:=AJ (((Ba key 64).2)++(AJ (((Ba key 64).1)++b)))
theorem KM(k:r)(h:Hid r→g:=by intro h;refine Ez 4 mixed K_ rfl rfl rfl ?_;exact h.out):g:=h ⟨k⟩
theorem aN(k:r)(h:Hid r→g:=by intro h;refine G2 (tu (a:=64) (b:=64) underlying23 rfl rfl Gb AAR O_ O_ O_ AH) AM rfl ?_;exact h.out):g:=h ⟨k⟩
theorem EC(k:r)(h:Hid r→g:=by intro h;refine BE (BO QX AH) AM rfl ?_;refine Bm rfl rfl rfl rfl J9 C1 C1 AM ?_;exact h.out):g:=h ⟨k⟩
theorem LP(k:r)(h:Hid r→g:=by intro h;refine AA (Gz (l:=0) (h:=32) (len:=32) (cp:=32) rfl underlying37 Bz rfl rfl rfl O_ O_ Q2 rfl rfl) rfl ?_;exact h.out):g:=h ⟨k⟩
theorem F5(k:r)(h:Hid r→g:=by intro h;refine Bm rfl rfl rfl rfl J9 C1 C1 AM ?_;exact h.out):g:=h ⟨k⟩
theorem gC(key:AB 8)(kn kcap:Nat)(b:AB 8)(n cap:Nat)(hkey:key.length=kn)(hkn:kn≤1099511627776)(hb:b.length=n)(hn:n≤1099511627776)(hshort:kn≤64):Ev prog (.call 116 [.c (.sl 0 0 kn kcap 1),.c (.sl 1 0 n cap 1)] [Bw (key),Bw (b)]) (.val (B4 (MS key b)) [Bw (key),Bw (b)]):=by
 have hP:=Hid.mk (MS.eq_1 key b)
 subst hkey
 subst hb
 refine AG func116 rfl ntmps116 rfl AH ?_;refine KP ?_;refine AZ ?_;refine CV ?_;refine AA (Fd (b:=64) rfl rfl) rfl ?_;refine FA ?_;refine Bu rfl (decide_eq_false O_) ?_;refine S_ ?_;refine KM ?_;refine aN ?_;refine aN ?_;refine G1 ?_;refine Df ?_;refine jR rfl rfl rfl rfl underlying23 Bz UD UD MN_ AM rfl ?_;refine AN ?_;have hQ1:(over (Ag 64) 0 (cut key 0 (min key.length 64))).length=64:=An
 refine Ar ?_;refine jR rfl rfl rfl rfl underlying23 Bz UD UD MN_ AM rfl ?_;refine AN ?_;have hQ2:(over (Ag 64) 0 (cut key 0 (min key.length 64))).length=64:=An
 refine GV ?_;refine RO ?_;refine AU [1,4,6,7,25,26] (fun (zz:Nat×AB 8×AB 8)=>⟨50,AS [1,4,6,7,25,26] [.c (.sl 1 0 b.length cap 1),Al 2,.c (.sl 3 0 64 64 1),.c (.sl 4 0 64 64 1),Ae (((64:Nat):Int)),Ae (((zz.1:Nat):Int))],[Bw (key),Bw (b),CM (Ag 32),CM (zz.2.1),CM (zz.2.2)]⟩) (fun j8=>(j8,Ba key j8)) (64) K_ ?_ ?_
 ·intro j8 hj8
  try dsimp only
  have hX3:(Ba key j8).1.length=64:=by rw [I8 key _];try omega
  have hX4:(Ba key j8).2.length=64:=by rw [I3 key _];try omega
  rw [Ba.eq_2,Jd]
  generalize Ba key j8=Z5 at*
  obtain ⟨X3,X4⟩:=Z5
  try dsimp only at*
  refine AK ?_;refine NI ?_;refine AZ ?_;refine BH ?_;refine Iz ?_;refine GZ ?_;refine AA (V6 (b:=54#8) rfl rfl) rfl ?_;refine Iz ?_;refine C3 ?_;refine Df ?_;refine Iz ?_;refine GZ ?_;refine AA (V6 (b:=92#8) rfl rfl) rfl ?_;refine Iz ?_;refine C3 ?_;refine D7 ?_;exact ⟨(j8+1,_),K_,rfl⟩
 ·try dsimp only
  have hY6:(Ba key 64).1.length=64:=by rw [I8 key _];try omega
  have hY7:(Ba key 64).2.length=64:=by rw [I3 key _];try omega
  generalize Ba key 64=Z8 at*
  obtain ⟨Y6,Y7⟩:=Z8
  try dsimp only at*
  refine AK ?_;refine Ts ?_;refine Df ?_;refine Cr ?_;refine Bh (AY (bs:=[5]) (H7 (Y6++b) (64+b.length) (64+b.length) AD AD) Ry K_ K_ rfl BT) AM rfl ?_;refine EC ?_;refine AN ?_;have hQ9:(AJ (Y6++b)).length=32:=An
  refine A9 ?_;refine LP ?_;refine Cr ?_;refine Bh (AY (bs:=[7]) (H7 (Y7++(AJ (Y6++b))) 96 96 AD AD) Ry K_ K_ rfl BT) AM rfl ?_;refine F5 ?_;refine AN ?_;have hQ10:(AJ (Y7++(AJ (Y6++b)))).length=32:=An
  refine S_ ?_;rw [hP.out]
  exact FC
@[simp] theorem vg(key b:AB 8):(MS key b).length=32:=by
 unfold MS
 (simp [*];done)
attribute [irreducible] MS
def Jc(X4 X5:AB 8)(j8:Nat):AB 8×AB 8:=(put X4 j8 ((nth X4 j8)^^^54#8),put X5 j8 ((nth X5 j8)^^^92#8))
def Bd(key:AB 8):Nat→AB 8×AB 8
 |0=>(over (Ag 64) 0 (AJ key),over (Ag 64) 0 (AJ key))
 |j8+1=>Jc (Bd key j8).1 (Bd key j8).2 j8
@[simp] theorem Ix(key:AB 8)(j8:Nat):(Bd key j8).1.length=64:=by
 induction j8 with
 |zero=>(simp [Bd, *];done)
 |succ j8 ih=>rw [Bd.eq_2,Jc];(simp [ih];done)
@[simp] theorem I6(key:AB 8)(j8:Nat):(Bd key j8).2.length=64:=by
 induction j8 with
 |zero=>(simp [Bd, *];done)
 |succ j8 ih=>rw [Bd.eq_2,Jc];(simp [ih];done)
def NE(key b:AB 8):AB 8:=AJ (((Bd key 64).2)++(AJ (((Bd key 64).1)++b)))
theorem fN(key:AB 8)(kn kcap:Nat)(b:AB 8)(n cap:Nat)(hkey:key.length=kn)(hkn:kn≤1099511627776)(hb:b.length=n)(hn:n≤1099511627776)(hlong:64<kn):Ev prog (.call 116 [.c (.sl 0 0 kn kcap 1),.c (.sl 1 0 n cap 1)] [Bw (key),Bw (b)]) (.val (B4 (NE key b)) [Bw (key),Bw (b)]):=by
 have hP:=Hid.mk (NE.eq_1 key b)
 subst hkey
 subst hb
 refine AG func116 rfl ntmps116 rfl AH ?_;refine KP ?_;refine AZ ?_;refine CV ?_;refine AA (Fd (b:=64) rfl rfl) rfl ?_;refine FA ?_;refine Ef rfl (decide_eq_true O_) ?_;refine A9 ?_;refine TD (H7 key key.length kcap AD AD) Ry ?_;refine EC ?_;refine AN ?_;have hQ1:(AJ key).length=32:=An
 refine AK ?_;refine LP ?_;refine Ay ?_;refine KM ?_;refine aN ?_;refine aN ?_;refine G1 ?_;refine Df ?_;refine be rfl rfl rfl rfl underlying23 Bz UD GG MN_ rfl AM rfl ?_;refine AN ?_;have hQ2:(over (Ag 64) 0 (AJ key)).length=64:=An
 refine Ar ?_;refine be rfl rfl rfl rfl underlying23 Bz UD GG MN_ rfl AM rfl ?_;refine AN ?_;have hQ3:(over (Ag 64) 0 (AJ key)).length=64:=An
 refine GV ?_;refine RO ?_;refine AU [1,4,6,7,25,26] (fun (zz:Nat×AB 8×AB 8)=>⟨50,AS [1,4,6,7,25,26] [.c (.sl 1 0 b.length cap 1),Al 2,.c (.sl 3 0 64 64 1),.c (.sl 4 0 64 64 1),Ae (((64:Nat):Int)),Ae (((zz.1:Nat):Int))],[Bw (key),Bw (b),CM (Ag 32),CM (zz.2.1),CM (zz.2.2)]⟩) (fun j8=>(j8,Bd key j8)) (64) K_ ?_ ?_
 ·intro j8 hj8
  try dsimp only
  have hX4:(Bd key j8).1.length=64:=by rw [Ix key _];try omega
  have hX5:(Bd key j8).2.length=64:=by rw [I6 key _];try omega
  rw [Bd.eq_2,Jc]
  generalize Bd key j8=Z6 at*
  obtain ⟨X4,X5⟩:=Z6
  try dsimp only at*
  refine AK ?_;refine NI ?_;refine AZ ?_;refine BH ?_;refine Iz ?_;refine GZ ?_;refine AA (V6 (b:=54#8) rfl rfl) rfl ?_;refine Iz ?_;refine C3 ?_;refine Df ?_;refine Iz ?_;refine GZ ?_;refine AA (V6 (b:=92#8) rfl rfl) rfl ?_;refine Iz ?_;refine C3 ?_;refine D7 ?_;exact ⟨(j8+1,_),K_,rfl⟩
 ·try dsimp only
  have hY7:(Bd key 64).1.length=64:=by rw [Ix key _];try omega
  have hY8:(Bd key 64).2.length=64:=by rw [I6 key _];try omega
  generalize Bd key 64=Z9 at*
  obtain ⟨Y7,Y8⟩:=Z9
  try dsimp only at*
  refine AK ?_;refine Ts ?_;refine Df ?_;refine Cr ?_;refine Bh (AY (bs:=[5]) (H7 (Y7++b) (64+b.length) (64+b.length) AD AD) Ry K_ K_ rfl BT) AM rfl ?_;refine EC ?_;refine AN ?_;have hQ10:(AJ (Y7++b)).length=32:=An
  refine A9 ?_;refine LP ?_;refine Cr ?_;refine Bh (AY (bs:=[7]) (H7 (Y8++(AJ (Y7++b))) 96 96 AD AD) Ry K_ K_ rfl BT) AM rfl ?_;refine F5 ?_;refine AN ?_;have hQ11:(AJ (Y8++(AJ (Y7++b)))).length=32:=An
  refine S_ ?_;rw [hP.out]
  exact FC
@[simp] theorem ud(key b:AB 8):(NE key b).length=32:=by
 unfold NE
 (simp [*];done)
attribute [irreducible] NE
def HV(key b:AB 8):AB 8:=if 64<key.length then NE key b else MS key b
@[simp] theorem xe(key b:AB 8):(HV key b).length=32:=by unfold HV;split<;>simp
theorem Xv(key:AB 8)(kn kcap:Nat)(b:AB 8)(n cap:Nat)(hkey:key.length=kn)(hkn:kn≤1099511627776)(hb:b.length=n)(hn:n≤1099511627776):Ev prog (.call 116 [.c (.sl 0 0 kn kcap 1),.c (.sl 1 0 n cap 1)] [Bw key,Bw b]) (.val (B4 (HV key b)) [Bw key,Bw b]):=by
 unfold HV
 by_cases h:64<key.length
 ·rw [if_pos h];exact fN key kn kcap b n cap hkey hkn hb hn O_
 ·rw [if_neg h];exact gC key kn kcap b n cap hkey hkn hb hn O_
attribute [irreducible] HV
def Kp(key info X1 X2:AB 8)(j5:Nat):AB 8×AB 8:=(X1++(HV key ((X2++info)++[BitVec.ofNat 8 (1+j5)])),HV key ((X2++info)++[BitVec.ofNat 8 (1+j5)]))
def CI(key info:AB 8):Nat→AB 8×AB 8
 |0=>([],[])
 |j5+1=>Kp key info (CI key info j5).1 (CI key info j5).2 j5
@[simp] theorem Jv(key info:AB 8)(j5:Nat):(CI key info j5).1.length=32*j5:=by
 induction j5 with
 |zero=>(simp [CI, *];done)
 |succ j5 ih=>rw [CI.eq_2,Kp];(simp [ih];omega)
@[simp] theorem KF(key info:AB 8)(j5:Nat):(CI key info j5).2.length=rp j5:=by
 induction j5 with
 |zero=>(simp [CI, *];done)
 |succ j5 ih=>rw [CI.eq_2,Kp];(simp;done)
def IU(key info:AB 8)(n:Nat):AB 8:=cut ((CI key info ((n+31)/32)).1) 0 n
theorem jx(key:AB 8)(kn kcap:Nat)(info:AB 8)(m mcap n:Nat)(hkey:key.length=kn)(hkn:kn≤1099511627)(hinfo:info.length=m)(hm:m≤1099511627)(hn:n≤1099511627)(hok:n≤8160):Ev prog (.call 105 [.c (.sl 0 0 kn kcap 1),.c (.sl 1 0 m mcap 1),Ae ((n:Nat):Int)] [Bw (key),Bw (info)]) (.val (.tup [.c (.sl 2 0 n n 1),Ae ((0:Nat):Int)]) [Bw (key),Bw (info),CM (IU key info n)]):=by
 have hP_macExp0:Hid (IU key info n=cut ((CI key info ((n+31)/32)).1) 0 n):=⟨rfl⟩
 subst hkey
 subst hinfo
 refine AG func105 rfl ntmps105 rfl AH ?_;refine JQ ?_;refine O4 ?_;refine Db ?_;refine Db ?_;refine AA (Fd (b:=8160) rfl rfl) rfl ?_;refine CQ ?_;refine FA ?_;refine Bu rfl (decide_eq_false O_) ?_;refine AK ?_;refine EV ?_;refine Ay ?_;refine FP 8 1 (.a8 ([])) rfl rfl AH rfl ?_;refine S_ ?_;refine FP 9 1 (.a8 ([])) rfl rfl AH rfl ?_;refine S_ ?_;refine AU [0,1,2,8,9,10] (fun (zz:Nat×AB 8×AB 8)=>⟨44,AS [0,1,2,8,9,10] [.c (.sl 0 0 key.length kcap 1),.c (.sl 1 0 info.length mcap 1),Ae (((n:Nat):Int)),.c (.sl 2 0 (32*zz.1) (32*zz.1) 1),.c (.sl 3 0 (rp zz.1) (rp zz.1) 1),Ae (((1+zz.1:Nat):Int))],[Bw (key),Bw (info),CM (zz.2.1),CM (zz.2.2)]⟩) (fun j5=>(j5,CI key info j5)) ((n+31)/32) K_ ?_ ?_
 ·intro j5 hj5
  try dsimp only
  have hX1:(CI key info j5).1.length=32*j5:=by rw [Jv key info _];try omega
  have hX2:(CI key info j5).2.length=rp j5:=by rw [KF key info _];try omega
  have hl:=rF j5
  rw [CI.eq_2,Kp]
  generalize CI key info j5=Z3 at*
  obtain ⟨X1,X2⟩:=Z3
  try dsimp only at*
  refine GV ?_;refine AR ?_;refine DF ?_;refine AZ ?_;refine JK ?_;refine AR ?_;refine eJ ?_;refine AR ?_;refine Cr ?_;refine AR ?_;refine AA (F3 rfl underlying3 underlying5 (ACJ _)) rfl ?_;refine Wz ?_;refine Cr ?_;refine Bh (AY (bs:=[0,7]) (Xv key key.length kcap ((X2++info)++[BitVec.ofNat 8 (1+j5)]) (((rp j5)+info.length)+1) (((rp j5)+info.length)+1) AD AD AD AD) nP K_ K_ rfl BT) AM rfl ?_;refine EC ?_;refine AN ?_;have hQ4:(HV key ((X2++info)++[BitVec.ofNat 8 (1+j5)])).length=32:=An
  refine AK ?_;refine LP ?_;refine BH ?_;refine Cr ?_;refine Ab ?_;refine Cl ?_;exact ⟨(j5+1,_),K_,rfl⟩
 ·try dsimp only
  have hY5:(CI key info ((n+31)/32)).1.length=32*((n+31)/32):=by rw [Jv key info _];try omega
  have hY6:(CI key info ((n+31)/32)).2.length=rp ((n+31)/32):=by rw [KF key info _];try omega
  have hl:=rF ((n+31)/32)
  generalize CI key info ((n+31)/32)=Z7 at*
  obtain ⟨Y5,Y6⟩:=Z7
  try dsimp only at*
  refine GV ?_;refine AR ?_;refine DF ?_;refine AQ ?_;refine JK ?_;refine FZ ?_;refine AA (en rfl underlying23 Bz rfl O_) rfl ?_;refine Tw ?_;refine JT ?_;rw [hP_macExp0.out]
  exact QW
@[simp] theorem Ot(key info:AB 8)(n:Nat):(IU key info n).length=n:=by
 unfold IU
 (simp [Jv, *];omega)
attribute [irreducible] IU
theorem NB(b:AB 8)(hn:b.length≤2199023255552):Ev prog (.call 38 [.c (.bs b)] []) (.val (B4 (AJ b)) []):=
 Ev.partsB (m:=[]) (m':=[.row false (.a8 b)]) (N:=[]) (N':=[]) [none] [0] (.no .nil) (.c (.same rfl) .nil) (.bs rfl rfl .nil) rfl rfl (H7 b b.length b.length rfl hn) rfl rfl
def my(w:AB 8)(n:Nat):AB 8×Nat:=(AJ (w++FJ n),0)
def KG(q:AB 8×Nat):AB 8×Nat:=if q.2=0 then (AJ ([104#8,97#8,115#8,104#8]++q.1),0) else ([],q.2)
def XR(k:AB 8)(n:Nat):AB 8×Nat:=(IU k ([107#8,100#8,102#8]++FJ n) 32,0)
def IJ(k:AB 8)(q:AB 8×Nat):AB 8×Nat:=if q.2=0 then (BP k (Ag 12) [] q.1,0) else ([],q.2)
theorem fh(key:AB 8)(c:Nat)(info:AB 8)(hkey:key.length=32)(hi:info.length≤1000):Ev prog (.call 105 [.c (.sl 0 0 32 c 1),.c (.bs info),Ae ((32:Nat):Int)] [Bw key]) (.val (.tup [.c (.sl 1 0 32 32 1),Ae ((0:Nat):Int)]) [Bw key,CM (IU key info 32)]):=
 Ev.partsB (m:=[.row false (.a8 key)]) (m':=[.row false (.a8 key),.row false (.a8 info)]) (N:=[.row true (.a8 (IU key info 32))]) (N':=[.row true (.a8 (IU key info 32))]) [some (0,0),none] [1] (.all rfl rfl (.no .nil)) (.c (.sl rfl rfl) (.c (.same rfl) (.c (.same rfl) .nil))) (.same (.bs rfl rfl (.same .nil))) rfl rfl (jx key 32 c info info.length info.length 32 hkey D_ rfl O_ D_ D_) rfl rfl
theorem cX(key text:AB 8)(hkey:key.length=32)(ht:text.length≤65536):Ev prog (.call 103 [B4 key,B4 (Ag 12),.c .nsl,.c (.bs text)] []) (.val (.tup [.c (.sl 0 0 (text.length+16) (text.length+16) 1),Ae ((0:Nat):Int)]) [CM (BP key (Ag 12) [] text)]):=
 Ev.partsB (m:=[]) (m':=[.row false (.a8 []),.row false (.a8 text)]) (N:=[.row true (.a8 (BP key (Ag 12) [] text))]) (N':=[.row true (.a8 (BP key (Ag 12) [] text))]) [none,none] [1] (.no (.no .nil)) (.agg rfl (.agg rfl (.c .nil (.c (.same rfl) .nil)))) (.same (.same (.same (.bs rfl rfl .nil)))) rfl rfl (mP key (Ag 12) [] 0 0 text text.length text.length hkey (A1 12) rfl D_ rfl O_ D_ ht) rfl rfl
theorem Kx(l:List (AB 8)):(Jm l).1.length≤65536:=by
 unfold Jm
 split
 ·rw [NP];assumption
 ·exact Nat.zero_le _
theorem TJ(k:r)(h:Hid r→g:=by intro h;refine AG func45 rfl ntmps45 rfl AH ?_;exact h.out):g:=h ⟨k⟩
theorem FE(k:r)(h:Hid r→g:=by intro h;refine AA (Ai rfl (jY _ _)) rfl ?_;refine AA (B9 rfl rfl Bv Dw rfl) rfl ?_;exact h.out):g:=h ⟨k⟩
theorem eW(k:r)(h:Hid r→g:=by intro h;refine Cs (gn rfl underlying23 underlying5 rfl rfl AM) rfl ?_;exact h.out):g:=h ⟨k⟩
theorem Tl(k:r)(h:Hid r→g:=by intro h;refine AA (Ai rfl (jk _ _)) rfl ?_;exact h.out):g:=h ⟨k⟩
theorem S1(k:r)(h:Hid r→g:=by intro h;refine AA (B9 rfl rfl Bv Dw rfl) rfl ?_;exact h.out):g:=h ⟨k⟩
theorem kq(L:List Nd)(es:List (Value×C6))(N:Nat)(D:Dn)(n:Nat)(a:List Int)(hn:n≤9223372036854775807):Ev prog (.call 45 [Al 0,.agg (.ac [.val (.int .i64 1),.val (.int .i64 (n:Int)),.is a])] [.row false (.ac [.ptr 1 0,.mp 2]),.row false (.ac [.sl 3 0 N N 3,.mp 4]),.row false (.mp (Ec D)),.row false (.an L),.row false (.mp es)]) (.val (.tup [.c (.bs (my [97#8,116#8,111#8,109#8] n).1),Ae (((my [97#8,116#8,111#8,109#8] n).2:Nat):Int)]) [.row false (.ac [.ptr 1 0,.mp 2]),.row false (.ac [.sl 3 0 N N 3,.mp 4]),.row false (.mp (Ec D)),.row false (.an L),.row false (.mp es)]):=by
 have h8:(FJ n).length=8:=RT n
 have hs:(AJ ([97#8,116#8,111#8,109#8]++FJ n)).length=32:=Ap _
 unfold my
 dsimp only
 refine TJ ?_;refine Bg ?_;refine EV ?_;refine FE ?_;refine oF ?_;refine Ad ?_;refine Cs (gf (l:=[97#8,116#8,111#8,109#8]) underlying23 Gb rfl rfl D_ D_ AH) rfl ?_;refine eW ?_;refine Tl ?_;refine S1 ?_;refine Fb (Tb n hn) gT ?_;refine Cs (iq rfl rfl rfl h8 underlying23 underlying23 Gb D_) rfl ?_;refine Fb (NB ([97#8,116#8,111#8,109#8]++FJ n) (by simp [h8])) Ry ?_
 refine EC ?_;refine AQ ?_;refine LP ?_;refine Er ?_;refine HD 4 rfl rfl hs AM ?_;exact Ep
theorem ky(L:List Nd)(es:List (Value×C6))(N:Nat)(D:Dn)(n:Nat)(a:List Int)(hn:n≤9223372036854775807):Ev prog (.call 45 [Al 0,.agg (.ac [.val (.int .i64 2),.val (.int .i64 (n:Int)),.is a])] [.row false (.ac [.ptr 1 0,.mp 2]),.row false (.ac [.sl 3 0 N N 3,.mp 4]),.row false (.mp (Ec D)),.row false (.an L),.row false (.mp es)]) (.val (.tup [.c (.bs (my [119#8,111#8,114#8,100#8] n).1),Ae (((my [119#8,111#8,114#8,100#8] n).2:Nat):Int)]) [.row false (.ac [.ptr 1 0,.mp 2]),.row false (.ac [.sl 3 0 N N 3,.mp 4]),.row false (.mp (Ec D)),.row false (.an L),.row false (.mp es)]):=by
 have h8:(FJ n).length=8:=RT n
 have hs:(AJ ([119#8,111#8,114#8,100#8]++FJ n)).length=32:=Ap _
 unfold my
 dsimp only
 refine TJ ?_;refine Bg ?_;refine EV ?_;refine FE ?_;refine H4 ?_;refine Ad ?_;refine Cs (gf (l:=[119#8,111#8,114#8,100#8]) underlying23 Gb rfl rfl D_ D_ AH) rfl ?_;refine eW ?_;refine Tl ?_;refine S1 ?_;refine Fb (Tb n hn) gT ?_;refine Cs (iq rfl rfl rfl h8 underlying23 underlying23 Gb D_) rfl ?_;refine Fb (NB ([119#8,111#8,114#8,100#8]++FJ n) (by simp [h8])) Ry ?_
 refine EC ?_;refine AQ ?_;refine LP ?_;refine Er ?_;refine HD 4 rfl rfl hs AM ?_;exact Ep
theorem Re{A B:Prop}(a:A)(b:B)(k:r)(h:A→B→Hid r→g:=by intro a b h;refine Bh (AY (bs:=[0,1,2,3,4]) a b K_ K_ rfl BT) AM rfl ?_;exact h.out):g:=h a b ⟨k⟩
theorem Ll(k:r)(h:Hid r→g:=by intro h;refine AA (B9 rfl rfl TB Dw rfl) rfl ?_;exact h.out):g:=h ⟨k⟩
theorem F1(k:r)(h:Hid r→g:=by intro h;refine AA (E9 rfl) rfl ?_;refine AA (Bs rfl rfl) rfl ?_;refine AA (Bs rfl rfl) rfl ?_;refine AA (Ac rfl) rfl ?_;refine AA (Ac rfl) rfl ?_;refine AN ?_;exact h.out):g:=h ⟨k⟩
theorem ll(L:List Nd)(es:List (Value×C6))(N:Nat)(D:Dn)(n:Int)(a:List Int)(hD:aU D)(ha:∀x∈a,EX D x)(hlen:a.length≤400):Ev prog (.call 45 [Al 0,.agg (.ac [.val (.int .i64 3),.val (.int .i64 n),.is a])] [.row false (.ac [.ptr 1 0,.mp 2]),.row false (.ac [.sl 3 0 N N 3,.mp 4]),.row false (.mp (Ec D)),.row false (.an L),.row false (.mp es)]) (.val (.tup [.c (.bs (KG (Jm (a.map (As D)))).1),Ae (((KG (Jm (a.map (As D)))).2:Nat):Int)]) [.row false (.ac [.ptr 1 0,.mp 2]),.row false (.ac [.sl 3 0 N N 3,.mp 4]),.row false (.mp (Ec D)),.row false (.an L),.row false (.mp es)]):=by
 have hJ:=SI L es N D (a) hD ha hlen
 have hq1:=Kx ((a).map (As D))
 generalize Jm ((a).map (As D))=q at*
 obtain ⟨j,e⟩:=q
 dsimp only at hJ hq1 ⊢
 refine TJ ?_;refine Bg ?_;refine EV ?_;refine FE ?_;refine H4 ?_;refine Ad ?_;refine AA (Cm (b:=3) rfl rfl) rfl ?_;refine Ab ?_;refine J2 ?_;refine Ll ?_;refine Re (hJ) UK ?_;refine F1 ?_;by_cases he:e=0
 ·subst he
  have hs:(AJ ([104#8,97#8,115#8,104#8]++j)).length=32:=Ap _
  rw [show KG (j,0)=(AJ ([104#8,97#8,115#8,104#8]++j),0) from rfl]
  dsimp only
  refine A9 ?_;refine FF ?_;refine AQ ?_;refine Cs (gf (l:=[104#8,97#8,115#8,104#8]) underlying23 Gb rfl rfl D_ D_ AH) rfl ?_;refine eW ?_;refine AR ?_;refine Cs (gZ rfl rfl underlying23 underlying23 Gb (by simp;omega)) rfl ?_
  refine Fb (NB ([104#8,97#8,115#8,104#8]++j) (by simp;omega)) Ry ?_
  refine EC ?_;refine AQ ?_;refine LP ?_;refine Er ?_;refine HD 4 rfl rfl hs AM ?_;exact Ep
 ·rw [show KG (j,e)=([],e) by unfold KG;rw [if_neg he]]
  dsimp only
  refine A9 ?_;refine IM ?_;refine Er ?_;refine OK 4 rfl ?_;exact Ep
theorem lL(L:List Nd)(es:List (Value×C6))(N:Nat)(D:Dn)(n:Int)(a:List Int)(hD:aU D)(ha:∀x∈a,EX D x)(hlen:a.length≤400):Ev prog (.call 45 [Al 0,.agg (.ac [.val (.int .i64 9),.val (.int .i64 n),.is a])] [.row false (.ac [.ptr 1 0,.mp 2]),.row false (.ac [.sl 3 0 N N 3,.mp 4]),.row false (.mp (Ec D)),.row false (.an L),.row false (.mp es)]) (.val (.tup [.c (.bs (Jm (a.map (As D))).1),Ae (((Jm (a.map (As D))).2:Nat):Int)]) [.row false (.ac [.ptr 1 0,.mp 2]),.row false (.ac [.sl 3 0 N N 3,.mp 4]),.row false (.mp (Ec D)),.row false (.an L),.row false (.mp es)]):=by
 have hJ:=SI L es N D (a) hD ha hlen
 have hq1:=Kx ((a).map (As D))
 generalize Jm ((a).map (As D))=q at*
 obtain ⟨j,e⟩:=q
 dsimp only at hJ hq1 ⊢
 refine TJ ?_;refine Bg ?_;refine EV ?_;refine FE ?_;refine H4 ?_;refine Ad ?_;refine AA (Cm (b:=3) rfl rfl) rfl ?_;refine Ad ?_;refine AA (Cm (b:=9) rfl rfl) rfl ?_;refine Ab ?_;refine J2 ?_;refine Ll ?_;refine Re (hJ) UK ?_;refine T4 ?_;exact Ct
theorem Vc(k:r)(h:Hid r→g:=by intro h;refine AG func71 rfl ntmps71 rfl AH ?_;exact h.out):g:=h ⟨k⟩
theorem Hf(k:r)(h:Hid r→g:=by intro h;refine Bf (Bs rfl rfl) rfl ?_;exact h.out):g:=h ⟨k⟩
theorem RM(k:r)(h:Hid r→g:=by intro h;refine Bf (Ac rfl) rfl ?_;exact h.out):g:=h ⟨k⟩
theorem nY(L:List Nd)(es:List (Value×C6))(N:Nat)(D:Dn)(n:Nat)(a:List Int)(hn:n≤9223372036854775807)(key:AB 8)(hkey:key.length=32):Ev prog (.call 71 [Al 0,.agg (.ac [.val (.int .i64 4),.val (.int .i64 (n:Int)),.is a]),B4 key] [.row false (.ac [.ptr 1 0,.mp 2]),.row false (.ac [.sl 3 0 N N 3,.mp 4]),.row false (.mp (Ec D)),.row false (.an L),.row false (.mp es)]) (.val (.tup [.c (.bs (XR key n).1),Ae (((XR key n).2:Nat):Int)]) [.row false (.ac [.ptr 1 0,.mp 2]),.row false (.ac [.sl 3 0 N N 3,.mp 4]),.row false (.mp (Ec D)),.row false (.an L),.row false (.mp es)]):=by
 have h8:(FJ n).length=8:=RT n
 have hs:(IU key ([107#8,100#8,102#8]++FJ n) 32).length=32:=Ot _ _ _
 unfold XR
 dsimp only
 refine Vc ?_;refine BY ?_;refine EV ?_;refine FE ?_;refine AQ ?_;refine AA (Cm (b:=4) rfl rfl) rfl ?_;refine Ay ?_;refine Gm [(1,[]),(2,[]),(7,[])] [] 3 mixed K_ K_ ?_;refine Bf (Gz (l:=0) (h:=32) (len:=32) (cp:=32) rfl underlying37 Bz rfl rfl rfl O_ O_ Q2 rfl rfl) rfl ?_;refine Dc (gf (l:=[107#8,100#8,102#8]) underlying23 Gb rfl rfl D_ D_ AH) rfl W4 ?_;refine Dc (gn rfl underlying23 underlying5 rfl rfl AM) rfl W4 ?_;refine Bf (Ai rfl (jk _ _)) rfl ?_;refine Bf (B9 rfl rfl Bv Dw rfl) rfl ?_;refine lT (Rs (AY (Tb n hn) gT rfl rfl rfl BT) AH An rfl) (fun _=>rfl) rfl ?_
 refine lT (gZ rfl rfl underlying23 underlying23 Gb (by simp [h8])) (fun _=>rfl) rfl ?_
 refine Dc (AY (fh key 32 ([107#8,100#8,102#8]++FJ n) hkey (by simp [h8])) wx rfl rfl rfl BT) rfl W4 ?_
 refine Hf ?_;refine Hf ?_;refine RM ?_;refine Mh ?_;refine Q_ ?_;refine HD 6 rfl rfl hs AM ?_;exact Ep
theorem ZJ(k:r)(h:Hid r→g:=by intro h;refine AA (Yu (l:=(Ag 12)) zQ underlying98 Bz rfl rfl) rfl ?_;exact h.out):g:=h ⟨k⟩
theorem lJ(L:List Nd)(es:List (Value×C6))(N:Nat)(D:Dn)(n:Int)(a:List Int)(hD:aU D)(ha:∀x∈a,EX D x)(hlen:a.length≤400)(h1:1≤a.length)(key:AB 8)(hkey:key.length=32):Ev prog (.call 71 [Al 0,.agg (.ac [.val (.int .i64 6),.val (.int .i64 n),.is a]),B4 key] [.row false (.ac [.ptr 1 0,.mp 2]),.row false (.ac [.sl 3 0 N N 3,.mp 4]),.row false (.mp (Ec D)),.row false (.an L),.row false (.mp es)]) (.val (.tup [.c (.bs (IJ key (Jm ((a.drop 1).map (As D)))).1),Ae (((IJ key (Jm ((a.drop 1).map (As D)))).2:Nat):Int)]) [.row false (.ac [.ptr 1 0,.mp 2]),.row false (.ac [.sl 3 0 N N 3,.mp 4]),.row false (.mp (Ec D)),.row false (.an L),.row false (.mp es)]):=by
 have hJ:=SI L es N D (a.drop 1) hD (fun x hx=>ha x (List.mem_of_mem_drop hx)) (by rw [List.length_drop];omega)
 have hq1:=Kx ((a.drop 1).map (As D))
 generalize Jm ((a.drop 1).map (As D))=q at*
 obtain ⟨j,e⟩:=q
 dsimp only at hJ hq1 ⊢
 refine Vc ?_;refine BY ?_;refine EV ?_;refine FE ?_;refine AQ ?_;refine J3 ?_;refine Iu ?_;refine Ab ?_;refine J2 ?_;refine Ll ?_;refine Cs (Ev.val (So (l:=1) rfl rfl underlying41 N8 h1)) rfl ?_;refine Re (hJ) UK ?_;refine F1 ?_;by_cases he:e=0
 ·subst he
  have hs:(BP key (Ag 12) [] j).length=j.length+16:=CZ _ _ _ _ hkey (A1 12)
  rw [show IJ key (j,0)=(BP key (Ag 12) [] j,0) from rfl]
  dsimp only
  refine A9 ?_;refine FF ?_;refine AQ ?_;refine FE ?_;refine Qd ?_;refine H5 ?_;refine ZJ ?_;refine AR ?_;refine Fb (cX key j hkey hq1) qN ?_;refine T4 ?_;refine Er ?_;refine HD 6 rfl rfl hs AM ?_;exact Ep
 ·rw [show IJ key (j,e)=([],e) by unfold IJ;rw [if_neg he]]
  dsimp only
  refine A9 ?_;refine IM ?_;refine Er ?_;refine OK 6 rfl ?_;exact Ep
theorem Um(b:AB 8)(hn:b.length≤2199023255552):Ev prog (.call 17 [.c (.bs b)] []) (.val (B4 (AJ b)) []):=by
 have hs:(AJ b).length=32:=Ap _
 refine AG func17 rfl ntmps17 rfl AH ?_;refine KP ?_;refine AZ ?_;refine Fb (NB b hn) Ry ?_;refine Em ?_;exact FC
theorem iE{A B:Prop}(a:A)(b:B)(k:r)(h:A→B→Hid r→g:=by intro a b h;refine Io (AY a b rfl rfl rfl BT) AM rfl ?_;exact h.out):g:=h a b ⟨k⟩
theorem ZD(k:r)(h:Hid r→g:=by intro h;refine Ez 17 mixed K_ rfl rfl rfl ?_;exact h.out):g:=h ⟨k⟩
theorem Yv(k:r)(h:Hid r→g:=by intro h;refine AE (Bj rfl rfl N9 Ly C1 D_) rfl ?_;exact h.out):g:=h ⟨k⟩
theorem WR(k:r)(h:Hid r→g:=by intro h;refine AE (Ai rfl (jd _ _)) rfl ?_;exact h.out):g:=h ⟨k⟩
theorem We(k:r)(h:Hid r→g:=by intro h;refine AE (B9 rfl rfl ra Dw rfl) rfl ?_;exact h.out):g:=h ⟨k⟩
theorem Mm(k:r)(h:Hid r→g:=by intro h;refine AE (Ai rfl (jb _ _)) rfl ?_;exact h.out):g:=h ⟨k⟩
theorem MQ(k:r)(h:Hid r→g:=by intro h;refine AE (B9 rfl rfl TB Dw rfl) rfl ?_;exact h.out):g:=h ⟨k⟩
theorem Q4(k:r)(h:Hid r→g:=by intro h;refine AE (VH (j:=0) rfl rfl underlying41 N8 Dw) rfl ?_;exact h.out):g:=h ⟨k⟩
theorem Pf(L:List Nd)(es:List (Value×C6))(N:Nat)(D:Dn)(k n:Int)(a:List Int)(v:AB 8×Nat)(hD:aU D)(h0:EX D (AX a 0))(ha:1≤a.length)(h1:¬k=1)(h2:¬k=2)(h3:¬k=3)(h7:¬k=7)(h9:¬k=9)
  (hK:Ev prog (.call 71 [.c (.ptr 0 0),.agg (.ac [.val (.int .i64 k),.val (.int .i64 n),.is a]),.agg (.a8 (AJ (As D (AX a 0))))] [.row false (.ac [.ptr 1 0,.mp 2]),.row false (.ac [.sl 3 0 N N 3,.mp 4]),.row false (.mp (Ec D)),.row false (.an L),.row false (.mp es)]) (.val (.tup [.c (.bs v.1),.c (.val (.int .i64 ((v.2:Nat):Int)))]) [.row false (.ac [.ptr 1 0,.mp 2]),.row false (.ac [.sl 3 0 N N 3,.mp 4]),.row false (.mp (Ec D)),.row false (.an L),.row false (.mp es)])):
  Ev prog (.call 45 [.c (.ptr 0 0),.agg (.ac [.val (.int .i64 k),.val (.int .i64 n),.is a])] [.row false (.ac [.ptr 1 0,.mp 2]),.row false (.ac [.sl 3 0 N N 3,.mp 4]),.row false (.mp (Ec D)),.row false (.an L),.row false (.mp es)]) (.val (.tup [.c (.bs v.1),.c (.val (.int .i64 ((v.2:Nat):Int)))]) [.row false (.ac [.ptr 1 0,.mp 2]),.row false (.ac [.sl 3 0 N N 3,.mp 4]),.row false (.mp (Ec D)),.row false (.an L),.row false (.mp es)]):=by
 have hl:=Oz hD (AX a 0)
 refine TJ ?_;refine Bg ?_;refine EV ?_;refine FE ?_;refine AQ ?_;refine Lw ?_;refine Lw ?_;refine Lw ?_;refine Lw ?_;refine Hn ?_;refine Ay ?_;refine ZD ?_;refine Ah ?_;refine Yv ?_;refine Is ?_;refine WR ?_;refine We ?_;refine Mm ?_;refine MQ ?_;refine Q4 ?_;refine AE (C0 rfl Bv ha) rfl ?_;refine Rl (Iq (c:= .bs (As D (AX a 0))) underlying85 underlying3 rfl rfl rfl hD.keyed (Ih h0)) rfl ?_;refine iE (Um (As D (AX a 0)) O_) XV ?_;refine Io (AY (bs:=[0,1,2,3,4]) (hK) AAP K_ K_ rfl BT) AM rfl ?_;refine AE (Bs rfl rfl) rfl ?_;refine AE (Bs rfl rfl) rfl ?_;refine G1 ?_;refine A6 ?_;exact QW
theorem AAf(k n:Int)(a:List Int):Ut prog 58 (.agg (.ac [.val (.int .i64 k),.val (.int .i64 n),.is a])) 0=some (.c (.val (.int .i64 k))):=by kernel_rfl
theorem zS{P:Program}{T:Nat→AV}{M:Ak}{t:TypeId}{f:Nat}{x:Operand}{y v:AV}(hx:AC T x=y)(h:Ut P t y f=some v):AL P (AC T) M (.field t x f)=some v:=by
 subst hx
 exact h
theorem VB{T:Nat→AV}{M:Ak}{x:Operand}{k n:Int}{a:List Int}(hx:AC T x= .agg (.ac [.val (.int .i64 k),.val (.int .i64 n),.is a])):AL prog (AC T) M (.field 58 x 0)=some (.c (.val (.int .i64 k))):=
 zS hx (AAf k n a)
theorem YH{A B:Prop}(a:A)(b:B)(k:r)(h:A→B→Hid r→g:=by intro a b h;refine Io (AY (bs:=[1,3,4]) a b K_ K_ rfl BT) AM rfl ?_;exact h.out):g:=h a b ⟨k⟩
theorem Zk(k:r)(h:Hid r→g:=by intro h;refine AG func70 rfl ntmps70 rfl AH ?_;exact h.out):g:=h ⟨k⟩
theorem aC(k:r)(h:Hid r→g:=by intro h;refine AE (B9 rfl rfl xL Dw rfl) rfl ?_;exact h.out):g:=h ⟨k⟩
theorem tP(L:List Nd)(es:List (Value×C6))(N:Nat)(D:Dn)(k n:Int)(a:List Int)(x:Nat)(hx:AX a 0=(x:Int))(hN:L.length=N)(hxN:x<N)(ha:1≤a.length)(h5:¬(Aa L x).k=5):
  Ev prog (.call 70 [.c (.ptr 0 0),.agg (.ac [.val (.int .i64 k),.val (.int .i64 n),.is a])] [.row false (.ac [.ptr 1 0,.mp 2]),.row false (.ac [.sl 3 0 N N 3,.mp 4]),.row false (.mp (Ec D)),.row false (.an L),.row false (.mp es)]) (.val (.tup [.c (.bs []),.c (.val (.int .i64 ((6:Nat):Int)))]) [.row false (.ac [.ptr 1 0,.mp 2]),.row false (.ac [.sl 3 0 N N 3,.mp 4]),.row false (.mp (Ec D)),.row false (.an L),.row false (.mp es)]):=by
 have hAt:=ji L es N x hN hxN
 rw [←hx] at hAt
 unfold uI at hAt
 generalize Aa L x=y at*
 generalize y.k=yk at*
 refine Zk ?_;refine Bg ?_;refine JT ?_;refine Oj ?_;refine Is ?_;refine AE (Ai rfl (Uk _ _)) rfl ?_;refine aC ?_;refine Mm ?_;refine MQ ?_;refine Q4 ?_;refine AE (C0 rfl Bv ha) rfl ?_;refine YH (hAt) YS ?_;refine AE (VB rfl) rfl ?_;refine AE (WJ rfl rfl) rfl ?_;refine Bn ?_;refine AQ ?_;refine Er ?_;refine OK 4 rfl ?_;exact Ep
theorem X0(L:List Nd)(es:List (Value×C6))(N:Nat)(D:Dn)(n:Int)(a:List Int)(v:AB 8×Nat)
  (hK:Ev prog (.call 70 [.c (.ptr 0 0),.agg (.ac [.val (.int .i64 7),.val (.int .i64 n),.is a])] [.row false (.ac [.ptr 1 0,.mp 2]),.row false (.ac [.sl 3 0 N N 3,.mp 4]),.row false (.mp (Ec D)),.row false (.an L),.row false (.mp es)]) (.val (.tup [.c (.bs v.1),.c (.val (.int .i64 ((v.2:Nat):Int)))]) [.row false (.ac [.ptr 1 0,.mp 2]),.row false (.ac [.sl 3 0 N N 3,.mp 4]),.row false (.mp (Ec D)),.row false (.an L),.row false (.mp es)])):
  Ev prog (.call 45 [.c (.ptr 0 0),.agg (.ac [.val (.int .i64 7),.val (.int .i64 n),.is a])] [.row false (.ac [.ptr 1 0,.mp 2]),.row false (.ac [.sl 3 0 N N 3,.mp 4]),.row false (.mp (Ec D)),.row false (.an L),.row false (.mp es)]) (.val (.tup [.c (.bs v.1),.c (.val (.int .i64 ((v.2:Nat):Int)))]) [.row false (.ac [.ptr 1 0,.mp 2]),.row false (.ac [.sl 3 0 N N 3,.mp 4]),.row false (.mp (Ec D)),.row false (.an L),.row false (.mp es)]):=by
 refine TJ ?_;refine Bg ?_;refine EV ?_;refine FE ?_;refine H4 ?_;refine Ad ?_;refine AA (Cm (b:=3) rfl rfl) rfl ?_;refine Ad ?_;refine AA (Cm (b:=9) rfl rfl) rfl ?_;refine Ad ?_;refine VE ?_;refine Ab ?_;refine AA (Bj rfl rfl N9 Ly C1 D_) rfl ?_;refine Re (hK) AAQ ?_;refine T4 ?_;exact Ct
theorem dG(a:List Int):∀(c:List Bool) (k:Nat),JN c k=true→JN (mark c a) k=true:=by
 induction a with
 |nil=>intro c k h;exact h
 |cons x a ih=>
  intro c k h
  refine ih _ k ?_;simp only [JN,List.getD_eq_getElem?_getD,List.getElem?_set] at h ⊢
  split
  ·split
   ·rfl
   ·rename_i h1 h2
    subst h1
    rw [List.getElem?_eq_none O_] at h
    exact h
  ·exact h
theorem pG(a:List Int):∀(c:List Bool) (x:Int),x∈a→x.toNat<c.length→JN (mark c a) x.toNat=true:=by
 induction a with
 |nil=>intro c x h;cases h
 |cons y a ih=>
  intro c x h hl
  rcases List.mem_cons.1 h with rfl | h
  ·refine dG a _ _ ?_
   simp [JN,hl]
  ·exact ih _ x h (by simpa using hl)
theorem Vt(L:List Nd):∀n c x,x∈W7 L n c→0≤x∧x<(n:Int)
 |0,_,x,h=>by cases h
 |n+1,c,x,h=>by
  unfold W7 at h
  split at h
  ·rcases List.mem_cons.1 h with rfl | h
   ·omega
   ·have:=Vt L n _ x h;omega
  ·have:=Vt L n _ x h;omega
theorem Vb(L:List Nd):∀n c,(W7 L n c).Pairwise (fun x y=>y<x)
 |0,_=>List.Pairwise.nil
 |n+1,c=>by
  unfold W7
  split
  ·exact List.pairwise_cons.2 ⟨fun y hy=>(Vt L n _ y hy).2,Vb L n _⟩
  ·exact Vb L n _
theorem SS(L:List Nd):∀(n:Nat) (c:List Bool) (k:Nat),k<n→JN c k=true→(k:Int)∈W7 L n c
 |0,_,k,h,_=>by omega
 |n+1,c,k,h,hk=>by
  unfold W7
  by_cases e:k=n
  ·subst e
   rw [if_pos hk]
   exact List.mem_cons_self
  ·split
   ·exact List.mem_cons_of_mem _ (SS L n _ k O_ (dG _ _ _ hk))
   ·exact SS L n _ k O_ hk
theorem V9(L:List Nd):∀(n:Nat) (c:List Bool),n≤c.length→(∀k,k<n→ ∀x∈(Aa L k).a,0≤x∧x<(k:Int))→ ∀k:Nat,(k:Int)∈W7 L n c→ ∀x∈(Aa L k).a,x∈W7 L n c
 |0,_,_,_,k,h=>by cases h
 |n+1,c,hc,hL,k,h=>by
  intro x hx
  have hnd:=Vt L (n+1) c k h
  have hx2:=hL k O_ x hx
  unfold W7 at h ⊢
  split
  ·rename_i hq
   rw [if_pos hq] at h
   rcases List.mem_cons.1 h with e | h
   ·obtain rfl:k=n:=by omega
    refine List.mem_cons_of_mem _ ?_;have h1:=pG (Aa L k).a c x hx O_
    have h2:=SS L k (mark c (Aa L k).a) x.toNat O_ h1
    rwa [show ((x.toNat:Nat):Int)=x by omega] at h2
   ·exact List.mem_cons_of_mem _ (V9 L n _ (by rw [Of];omega) (fun k hk=>hL k O_) k h x hx)
  ·rename_i hq
   rw [if_neg hq] at h
   exact V9 L n _ O_ (fun k hk=>hL k O_) k h x hx
theorem Dr(L:List Nd)(i:Nat):∀x∈BF L i,0≤x∧x<((i+1:Nat):Int):=fun x hx=>Vt L (i+1) _ x (by unfold BF at hx;exact List.mem_reverse.1 hx)
theorem OM(L:List Nd)(i:Nat):(BF L i).Pairwise (· < ·):=by
 unfold BF
 rw [List.pairwise_reverse]
 exact Vb L _ _
theorem G3(L:List Nd)(i:Nat):(i:Int)∈BF L i:=by
 unfold BF
 rw [List.mem_reverse]
 refine SS L (i+1) _ i O_ ?_;simp [JN]
theorem Hw{L:List Nd}(hA:C2 L){i:Nat}(hi:i<L.length){k:Nat}(hk:(k:Int)∈BF L i):∀x∈(Aa L k).a,x∈BF L i:=by
 unfold BF at hk ⊢
 intro x hx
 rw [List.mem_reverse] at hk ⊢
 exact V9 L (i+1) _ (by simp) (fun k hk x hx=>(hA.nd (i:=k) O_).args x hx) k hk x hx
def jI:AB 8:=[97#8,116#8,111#8,109#8]
def rX:AB 8:=[119#8,111#8,114#8,100#8]
def Iv(X:Nd→(Int→AB 8)→AB 8×Nat)(L:List Nd)(g:Int→AB 8)(y:Nd):AB 8×Nat:=
 if y.k=1 then my jI y.n.toNat
 else if y.k=2 then my rX y.n.toNat
 else if y.k=3 then KG (Jm (y.a.map g))
 else if y.k=9 then Jm (y.a.map g)
 else if y.k=4 then XR (AJ (g (AX y.a 0))) y.n.toNat
 else if y.k=6 then IJ (AJ (g (AX y.a 0))) (Jm ((y.a.drop 1).map g))
 else if y.k=7∧ ¬(Aa L (AX y.a 0).toNat).k=5 then ([],6)
 else X y g
def VO(L:List Nd)(y:Nd):Prop:=y.k=5∨y.k=8∨(y.k=7∧(Aa L (AX y.a 0).toNat).k=5)
def FM(X:Nd→(Int→AB 8)→AB 8×Nat)(L:List Nd):List Int→Dn→Dn×Nat
 |[],D=>(D,0)
 |k::r,D=>if (Iv X L (As D) (Aa L k.toNat)).2=0 then FM X L r (D++[(k,(Iv X L (As D) (Aa L k.toNat)).1)]) else (D,(Iv X L (As D) (Aa L k.toNat)).2)
def BU(X:Nd→(Int→AB 8)→AB 8×Nat)(L:List Nd)(i:Nat):AB 8×Nat:=
 if (FM X L (BF L i) []).2=0 then (As (FM X L (BF L i) []).1 i,0) else ([],(FM X L (BF L i) []).2)
theorem SE{D:Dn}{x:Int}(h:EX D x)(p:Int×AB 8):EX (D++[p]) x:=by
 obtain ⟨q,hq,e⟩:=h
 exact ⟨q,List.mem_append_left _ hq,e⟩
theorem QE(D:Dn)(x:Int)(b:AB 8):EX (D++[(x,b)]) x:=⟨(x,b),by simp,rfl⟩
theorem aU.snoc{D:Dn}(h:aU D){x:Int}{b:AB 8}(hx:¬EX D x)(hb:b.length≤100000):aU (D++[(x,b)]):=by
 refine ⟨?_,fun p hp=>?_⟩
 ·rw [List.pairwise_append]
  refine ⟨h.dist,by simp,fun p hp q hq=>?_⟩
  obtain rfl:=List.mem_singleton.1 hq
  exact fun e=>hx ⟨p,hp,e⟩
 ·rcases List.mem_append.1 hp with hp | hp
  ·exact h.len p hp
  ·obtain rfl:=List.mem_singleton.1 hp
   exact hb
theorem cZ(D:Dn)(x:Int)(b:AB 8):Ec (D++[(x,b)])=Ec D++[(.int .i64 x,.bs b)]:=by simp [Ec]
theorem dJ{D:Dn}{x:Int}(h:¬EX D x):∀p∈Ec D,p.1≠ .int .i64 x:=by
 intro p hp e
 obtain ⟨q,hq,rfl⟩:=List.mem_map.1 hp
 exact h ⟨q,hq,(Value.int.inj e).2⟩
theorem Zn{X:Nd→(Int→AB 8)→AB 8×Nat}{L:List Nd}{g:Int→AB 8}{y:Nd}(hX:VO L y→(X y g).1.length≤100000)(hk:1≤y.k∧y.k≤9):(Iv X L g y).1.length≤100000:=by
 have hh:∀q:AB 8×Nat,(KG q).1.length≤32:=fun q=>by
  unfold KG
  split
  ·dsimp only;rw [Ap];omega
  ·exact Nat.zero_le _
 have hs:∀(k:AB 8) (l:List (AB 8)),k.length=32→(IJ k (Jm l)).1.length≤65552:=fun k l hk=>by
  unfold IJ
  have:=Kx l
  split
  ·dsimp only;rw [CZ _ _ _ _ hk (A1 12)];omega
  ·exact Nat.zero_le _
 unfold Iv my XR
 split
 ·dsimp only;rw [Ap];omega
 ·split
  ·dsimp only;rw [Ap];omega
  ·split
   ·exact Nat.le_trans (hh _) D_
   ·split
    ·exact Nat.le_trans (Kx _) D_
    ·split
     ·dsimp only;rw [Ot];omega
     ·split
      ·exact Nat.le_trans (hs _ _ (Ap _)) D_
      ·split
       ·exact Nat.zero_le _
       ·refine hX ?_
        unfold VO
        by_cases e:y.k=7
        ·rename_i h;exact .inr (.inr ⟨e,by by_cases e2:(Aa L (AX y.a 0).toNat).k=5;exact e2;exact absurd ⟨e,e2⟩ h⟩)
        ·omega
section
variable (X:Nd→(Int→AB 8)→AB 8×Nat) (L:List Nd)
def tb:Nat→List (AB 8)
 |0=>[]
 |i+1=>tb i++[(Iv X L (fun x=>Fh (tb i) x.toNat) (Aa L i)).1]
def bt(i:Nat):AB 8×Nat:=Iv X L (fun x=>Fh (tb X L i) x.toNat) (Aa L i)
def gB(x:Int):AB 8:=(bt X L x.toNat).1
end
variable {X:Nd→(Int→AB 8)→AB 8×Nat} {L:List Nd}
theorem Pi:∀i,(tb X L i).length=i
 |0=>rfl
 |i+1=>by simp [tb,Pi i]
theorem pR:∀(i j:Nat),j<i→Fh (tb X L i) j=(bt X L j).1
 |0,j,h=>by omega
 |i+1,j,h=>by
  rw [tb]
  by_cases e:j=i
  ·subst e
   simp only [Fh,List.getD_eq_getElem?_getD]
   rw [List.getElem?_append_right (by rw [Pi];exact Nat.le_refl _),Pi,Nat.sub_self]
   rfl
  ·have:=pR i j O_
   simp only [Fh,List.getD_eq_getElem?_getD] at this ⊢
   rw [List.getElem?_append_left (by rw [Pi];omega)]
   exact this
def mt(X:Nd→(Int→AB 8)→AB 8×Nat):Prop:= ∀y g g',(CK y.k≤y.a.length)→(∀x∈y.a,g x=g' x)→X y g=X y g'
theorem V0(hX:mt X){y:Nd}{g g':Int→AB 8}(hl:CK y.k≤y.a.length)(h:∀x∈y.a,g x=g' x):Iv X L g y=Iv X L g' y:=by
 have h1:y.a.map g=y.a.map g':=List.map_congr_left h
 have h2:(y.a.drop 1).map g=(y.a.drop 1).map g':=List.map_congr_left fun x hx=>h x (List.mem_of_mem_drop hx)
 have first:1≤y.a.length→g (AX y.a 0)=g' (AX y.a 0):=fun hl=>h _ (by simp [AX,show 0<y.a.length by omega])
 unfold Iv
 rw [h1,h2,hX y g g' hl h]
 by_cases e4:y.k=4
 ·rw [first (by rw [e4] at hl;exact hl)]
 ·by_cases e6:y.k=6
  ·rw [first (by rw [e6] at hl;exact hl)]
  ·rw [if_neg e4,if_neg e4,if_neg e6,if_neg e6]
theorem bV(hX:mt X)(hA:C2 L){i:Nat}(hi:i<L.length):bt X L i=Iv X L (gB X L) (Aa L i):=by
 have hnd:=hA.nd hi
 unfold bt
 refine V0 hX hnd.len.1 fun x hx=>?_
 have:=hnd.args x hx
 unfold gB
 rw [pR _ _ O_]
theorem cw{D:Dn}{x:Int}{b:AB 8}(h:¬EX D x):As (D++[(x,b)]) x=b:=by
 unfold As
 rw [List.find?_append]
 cases hf:D.find? (fun p=>p.1==x) with
 |some p=>
  have h1:=List.mem_of_find?_eq_some hf
  have h2:=List.find?_some hf
  simp only [beq_iff_eq] at h2
  exact absurd ⟨p,h1,h2⟩ h
 |none=>simp
theorem cx{D:Dn}{x y:Int}{b:AB 8}(h:x≠y):As (D++[(y,b)]) x=As D x:=by
 unfold As
 rw [List.find?_append]
 cases hf:D.find? (fun p=>p.1==x) with
 |some p=>rfl
 |none=>simp [Ne.symm h]
theorem YN(hX:mt X)(hA:C2 L):∀(l:List Int) (D:Dn),l.Pairwise (· < ·)→(∀k∈l,0≤k∧k<(L.length:Int))→(∀k∈l,¬EX D k)→(∀k∈l,∀x∈(Aa L k.toNat).a,EX D x∨x∈l)→(∀x,EX D x→As D x=gB X L x)→(∀k∈l,∀x,EX D x→x<k)→
  ((∀k∈l,(bt X L k.toNat).2=0)∧(FM X L l D).2=0∧(∀x,EX D x∨x∈l→As (FM X L l D).1 x=gB X L x))∨(∃k∈l,¬(bt X L k.toNat).2=0∧(FM X L l D).2=(bt X L k.toNat).2)
 |[],D,_,_,_,_,hD,_=> .inl ⟨fun k hk=>(by cases hk),rfl,fun x hx=>hD x (by rcases hx with h | h;exact h;cases h)⟩
 |k::l,D,hp,hr,hn,ha,hD,hlt=>by
  obtain ⟨hp1,hp2⟩:=List.pairwise_cons.1 hp
  have hk:=hr k List.mem_cons_self
  have hkL:k.toNat<L.length:=by omega
  have hnd:=hA.nd hkL
  have hargs:∀x∈(Aa L k.toNat).a,EX D x:=fun x hx=>by
   have h1:=hnd.args x hx
   rcases ha k List.mem_cons_self x hx with h | h
   ·exact h
   ·rcases List.mem_cons.1 h with rfl | h
    ·omega
    ·have:=hp1 x h;omega
  have hv:Iv X L (As D) (Aa L k.toNat)=bt X L k.toNat:=by
   rw [bV hX hA hkL]
   exact V0 hX hnd.len.1 fun x hx=>hD x (hargs x hx)
  rw [FM.eq_2,hv]
  by_cases he:(bt X L k.toNat).2=0
  ·rw [if_pos he]
   have hnk:=hn k List.mem_cons_self
   have hd:∀x,EX (D++[(k,(bt X L k.toNat).1)]) x→EX D x∨x=k:=fun x ⟨p,hp,e⟩=>by
    rcases List.mem_append.1 hp with hp | hp
    ·exact .inl ⟨p,hp,e⟩
    ·obtain rfl:=List.mem_singleton.1 hp
     exact .inr e.symm
   rcases YN hX hA l (D++[(k,(bt X L k.toNat).1)]) hp2 (fun x hx=>hr x (List.mem_cons_of_mem _ hx)) (fun x hx h=>by
     rcases hd x h with h | h
     ·exact hn x (List.mem_cons_of_mem _ hx) h
     ·have:=hp1 x hx;omega) (fun y hy x hx=>by
     rcases ha y (List.mem_cons_of_mem _ hy) x hx with h | h
     ·exact .inl (SE h _)
     ·rcases List.mem_cons.1 h with rfl | h
      ·exact .inl (QE _ _ _)
      ·exact .inr h) (fun x h=>by
     by_cases e:x=k
     ·subst e
      rw [cw hnk]
      rfl
     ·rw [cx e]
      rcases hd x h with h | h
      ·exact hD x h
      ·exact absurd h e) (fun y hy x h=>by
     have h1:=hp1 y hy
     rcases hd x h with h | h
     ·have:=hlt k List.mem_cons_self x h;omega
     ·omega) with ⟨h1,h2,h3⟩ | ⟨y,hy,h1,h2⟩
   ·refine .inl ⟨fun y hy=>?_,h2,fun x hx=>h3 x ?_⟩
    ·rcases List.mem_cons.1 hy with rfl | hy
     ·exact he
     ·exact h1 y hy
    ·rcases hx with h | h
     ·exact .inl (SE h _)
     ·rcases List.mem_cons.1 h with rfl | h
      ·exact .inl (QE _ _ _)
      ·exact .inr h
   ·exact .inr ⟨y,List.mem_cons_of_mem _ hy,h1,h2⟩
  ·rw [if_neg he]
   exact .inr ⟨k,List.mem_cons_self,he,rfl⟩
theorem Jt(hX:mt X)(hA:C2 L){i:Nat}(hi:i<L.length):((∀k∈BF L i,(bt X L k.toNat).2=0)∧BU X L i=((bt X L i).1,0))∨(∃k∈BF L i,¬(bt X L k.toNat).2=0∧BU X L i=([],(bt X L k.toNat).2)):=by
 have hlt:=Dr L i
 rcases YN hX hA (BF L i) [] (OM L i) (fun k hk=>by have:=hlt k hk;omega) (fun k _ ⟨p,hp,_⟩=>by cases hp) (fun k hk x hx=> .inr (by
   have h1:=hlt k hk
   have h2:=Hw hA hi (k:=k.toNat) (by rwa [Int.toNat_of_nonneg h1.1]) x hx
   exact h2)) (fun x ⟨p,hp,_⟩=>by cases hp) (fun k _ x ⟨p,hp,_⟩=>by cases hp) with ⟨h1,h2,h3⟩ | ⟨k,hk,h1,h2⟩
 ·refine .inl ⟨h1,?_⟩
  unfold BU
  rw [if_pos h2,h3 _ (.inr (G3 L i))]
  rfl
 ·refine .inr ⟨k,hk,h1,?_⟩
  unfold BU
  rw [if_neg (by rw [h2];exact h1),h2]
def Q6(L:List Nd)(es:List (Value×C6))(N:Nat)(D:Dn)(y:Nd)(v:AB 8×Nat):Prop:=
 Ev prog (.call 45 [.c (.ptr 0 0),.agg (.ac [.val (.int .i64 y.k),.val (.int .i64 y.n),.is y.a])] [.row false (.ac [.ptr 1 0,.mp 2]),.row false (.ac [.sl 3 0 N N 3,.mp 4]),.row false (.mp (Ec D)),.row false (.an L),.row false (.mp es)]) (.val (.tup [.c (.bs v.1),.c (.val (.int .i64 ((v.2:Nat):Int)))]) [.row false (.ac [.ptr 1 0,.mp 2]),.row false (.ac [.sl 3 0 N N 3,.mp 4]),.row false (.mp (Ec D)),.row false (.an L),.row false (.mp es)])
theorem T8(X:Nd→(Int→AB 8)→AB 8×Nat)(L:List Nd)(es:List (Value×C6))(N:Nat)(D:Dn)(y:Nd)(i:Nat)(hN:L.length=N)(hi:i<N)(hnd:xd i y)(hsm:y.n≤9223372036854775807)(hD:aU D)(ha:∀x∈y.a,EX D x)(hX:VO L y→Q6 L es N D y (X y (As D))):
  Q6 L es N D y (Iv X L (As D) y):=by
 obtain ⟨k,n,a⟩:=y
 have hk:=hnd.kind
 have hn:=hnd.num.1
 have hlen:=hnd.len
 have hml:=ES k
 have hargs:=hnd.args
 have h400:a.length≤400:=by dsimp only at hlen;omega
 dsimp only at hk hn hsm ha hlen hargs
 obtain ⟨n,rfl⟩:∃m:Nat,n=(m:Int):=⟨n.toNat,by omega⟩
 have hsm:n≤9223372036854775807:=by omega
 have first:1≤a.length→AX a 0∈a:=fun h=>by simp [AX,show 0<a.length by omega]
 have go:∀j:Int,k=j→CK k=CK j:=fun j h=>by rw [h]
 by_cases e1:k=1
 ·subst e1
  rw [show Iv X L (As D) ⟨1,(n:Int),a⟩=my jI n by simp [Iv]]
  exact kq L es N D n a hsm
 by_cases e2:k=2
 ·subst e2
  rw [show Iv X L (As D) ⟨2,(n:Int),a⟩=my rX n by simp [Iv]]
  exact ky L es N D n a hsm
 by_cases e3:k=3
 ·subst e3
  rw [show Iv X L (As D) ⟨3,(n:Int),a⟩=KG (Jm (a.map (As D))) by simp [Iv]]
  exact ll L es N D n a hD ha h400
 by_cases e9:k=9
 ·subst e9
  rw [show Iv X L (As D) ⟨9,(n:Int),a⟩=Jm (a.map (As D)) by simp [Iv]]
  exact lL L es N D n a hD ha h400
 by_cases e4:k=4
 ·subst e4
  have h1:1≤a.length:=hlen.1
  rw [show Iv X L (As D) ⟨4,(n:Int),a⟩=XR (AJ (As D (AX a 0))) n by simp [Iv]]
  exact Pf L es N D 4 n a _ hD (ha _ (first h1)) h1 D_ D_ D_ D_ D_ (nY L es N D n a hsm _ (Ap _))
 by_cases e6:k=6
 ·subst e6
  have h1:1≤a.length:=hlen.1
  rw [show Iv X L (As D) ⟨6,(n:Int),a⟩=IJ (AJ (As D (AX a 0))) (Jm ((a.drop 1).map (As D))) by simp [Iv]]
  exact Pf L es N D 6 n a _ hD (ha _ (first h1)) h1 D_ D_ D_ D_ D_ (lJ L es N D n a hD ha h400 h1 _ (Ap _))
 by_cases e7:k=7∧ ¬(Aa L (AX a 0).toNat).k=5
 ·obtain ⟨e7,e5⟩:=e7
  subst e7
  have h1:1≤a.length:=Nat.le_trans (show 1≤CK 7 by decide) hlen.1
  have h2:=hargs _ (first h1)
  rw [show Iv X L (As D) ⟨7,(n:Int),a⟩=([],6) by simp [Iv,e5]]
  exact X0 L es N D n a ([],6) (tP L es N D 7 n a (AX a 0).toNat O_ hN O_ h1 e5)
 ·rw [show Iv X L (As D) ⟨k,(n:Int),a⟩=X ⟨k,(n:Int),a⟩ (As D) by
   unfold Iv
   dsimp only
   rw [if_neg e1,if_neg e2,if_neg e3,if_neg e9,if_neg e4,if_neg e6,if_neg e7]]
  refine hX ?_;unfold VO
  dsimp only
  by_cases e:k=7
  ·exact .inr (.inr ⟨e,by by_cases e2:(Aa L (AX a 0).toNat).k=5;exact e2;exact absurd ⟨e,e2⟩ e7⟩)
  ·omega
theorem zn(b c:Nat):B0 prog 87 [(0,.c (.ptr b 0)),(1,.c (.mp c))]=some (.agg (.ac [.ptr b 0,.mp c])):=by kernel_rfl
theorem jN{T:Nat→AV}{M:Ak}{x y:Operand}{b c:Nat}(hx:AC T x= .c (.ptr b 0))(hy:AC T y= .c (.mp c)):AL prog (AC T) M (.build 87 #[(0,x),(1,y)])=some (.agg (.ac [.ptr b 0,.mp c])):=
 ag (by simp [hx,hy]) (zn b c)
theorem ft(X:Nd→(Int→AB 8)→AB 8×Nat)(L:List Nd)(es:List (Value×C6))(N i:Nat)(hN:L.length=N)(hNl:N≤1048576)(hi:i<N)(hA:C2 L)
  (hX:∀(D:Dn) (k:Nat),(k:Int)∈BF L i→aU D→(∀x∈(Aa L k).a,EX D x)→VO L (Aa L k)→(X (Aa L k) (As D)).1.length≤100000∧Q6 L es N D (Aa L k) (X (Aa L k) (As D))):
  Ev prog (.call 22 [.c (.ptr 0 0),.c (.val (.int .i64 (i:Int)))] [.row false (.ac [.sl 1 0 N N 3,.mp 2]),.row false (.an L),.row false (.mp es)]) (.val (.tup [.c (.bs (BU X L i).1),.c (.val (.int .i64 (((BU X L i).2:Nat):Int)))]) [.row false (.ac [.sl 1 0 N N 3,.mp 2]),.row false (.an L),.row false (.mp es)]):=by
 have hl1:=PG L i
 have hlt:=Dr L i
 have hasc:=OM L i
 have htop:=G3 L i
 have hcl:∀k:Nat,(k:Int)∈BF L i→ ∀x∈(Aa L k).a,x∈BF L i:=fun k hk=>Hw hA O_ hk
 unfold BU
 have hBen:=om L es N i hN hNl hi hA
 generalize hall:BF L i=all at*
 clear hall
 generalize hn:all.length=n at*
 refine AG func22 rfl ntmps22 rfl AH ?_;refine AK ?_;refine G4 ?_;refine BH ?_;refine Fb (hBen) ut ?_;refine GQ ?_;refine IM ?_;refine Cs (TP) rfl ?_;refine AA (jN rfl rfl) rfl ?_;refine dz ?_;refine Ab ?_;refine KN ?_;refine RO ?_;refine DJ [0,1,8,26,27,28] (fun (zz:Nat×Dn)=>⟨58,AS [0,1,8,26,27,28] [Al 0,Ae (i:Int),Al 3,.c (.is all),Ae (n:Int),Ae (zz.1:Int)],[.row false (.ac [.sl 1 0 N N 3,.mp 2]),.row false (.an L),.row false (.mp es),.row true (.ac [.ptr 0 0,.mp 4]),.row true (.mp (Ec zz.2))]⟩) (fun zz=>n-zz.1) (fun zz=>(zz.1≤n∧aU zz.2)∧(∀x,EX zz.2 x↔x∈all.take zz.1)∧FM X L all []=FM X L (all.drop zz.1) zz.2) (0,[]) K_ ⟨⟨Nat.zero_le _,⟨List.Pairwise.nil,fun p hp=>by cases hp⟩⟩,fun x=>by simp [EX],rfl⟩ ?_
 rintro ⟨j,D⟩ ⟨⟨hj,hD⟩,hdh,hrun⟩
 dsimp only at hj hD hdh hrun ⊢
 by_cases hlt':j<n
 ·obtain ⟨k,hx⟩:∃k:Nat,AX all j=(k:Int):=⟨(AX all j).toNat,by
   have h1:=hlt (AX all j) (by simp [AX,show j<all.length by omega])
   omega⟩
  have hget:all[j]'O_=(k:Int):=by rw [←hx];simp [AX,show j<all.length by omega]
  have hdrop:all.drop j=(k:Int)::all.drop (j+1):=by rw [List.drop_eq_getElem_cons O_,hget]
  have hmem:(k:Int)∈all:=by rw [←hget];exact List.getElem_mem _
  have hkN:k<N:=by have:=(hlt _ hmem).2;omega
  have hsplit:all=all.take j++(k:Int)::all.drop (j+1):=by rw [←hdrop,List.take_append_drop]
  have hp:=hasc
  rw [hsplit,List.pairwise_append] at hp
  obtain ⟨_,hp2,hp3⟩:=hp
  have hp4:=(List.pairwise_cons.1 hp2).1
  have hnot:¬EX D (k:Int):=fun h=>by
   have:=hp3 _ ((hdh _).1 h) _ List.mem_cons_self
   omega
  have ha:∀x∈(Aa L k).a,EX D x:=fun x hx=>by
   have h1:=hcl k hmem x hx
   have h2:=((hA.nd (i:=k) O_).args x hx).2
   rw [hsplit] at h1
   rcases List.mem_append.1 h1 with h1 | h1
   ·exact (hdh x).2 h1
   ·rcases List.mem_cons.1 h1 with rfl | h1
    ·omega
    ·have:=hp4 x h1;omega
  have hB:=T8 X L es N D (Aa L k) k hN hkN (hA.nd O_) (hA.small k O_) hD ha (fun h=>(hX D k hmem hD ha h).2)
  have hvl:=Zn (g:=As D) (fun h=>(hX D k hmem hD ha h).1) (hA.nd (i:=k) O_).kind
  have hAt:=ji L es N k hN hkN
  rw [←hx] at hAt
  unfold uI at hAt
  unfold Q6 at hB
  rw [hdrop,FM.eq_2,Int.toNat_natCast] at hrun
  generalize Iv X L (As D) (Aa L k)=v at*
  generalize Aa L k=y at*
  obtain ⟨b,e⟩:=v
  dsimp only at hB hrun hvl
  refine PH ?_;refine Nq ?_;refine cm ?_;refine BH ?_;refine AR ?_;refine Bh (AY (bs:=[0,1,2]) (hAt) YS K_ K_ rfl BT) AM rfl ?_;refine Bh (AY (bs:=[3,0,4,1,2]) (hB) vY K_ K_ rfl BT) AM rfl ?_;refine F1 ?_;by_cases he:e=0
  ·subst he
   rw [if_pos rfl] at hrun
   refine A9 ?_;refine FF ?_;refine AN ?_;rw [hx]
   refine A9 ?_;refine Ea ?_;refine Wh ?_;refine WM ?_;refine FZ ?_;refine ij (Rw (c:= .bs b) underlying85 underlying3 rfl rfl rfl rfl hD.keyed rfl (dJ hnot) AM) ?_;refine D7 ?_;rw [←cZ]
   refine ⟨(j+1,D++[((k:Int),b)]),K_,by show n-(j+1)<n-j;omega,⟨hlt',hD.snoc hnot hvl⟩,fun x=>?_,hrun⟩
   dsimp only
   rw [List.take_succ_eq_append_getElem O_,hget,List.mem_append,List.mem_singleton,←hdh]
   constructor
   ·rintro ⟨p,hp,rfl⟩
    rcases List.mem_append.1 hp with hp | hp
    ·exact .inl ⟨p,hp,rfl⟩
    ·obtain rfl:=List.mem_singleton.1 hp
     exact .inr rfl
   ·rintro (h | rfl)
    ·exact SE h _
    ·exact QE _ _ _
  ·rw [if_neg he] at hrun
   rw [hrun,show (if (D,e).2=0 then (As (D,e).1 (i:Int),0) else ([],(D,e).2))=(([]:AB 8),e) by rw [if_neg he]]
   dsimp only
   refine A9 ?_;refine IM ?_;refine Er ?_;refine OK 4 rfl ?_;exact Ep
 ·obtain rfl:j=n:=by omega
  have hi':EX D (i:Int):=(hdh _).2 (by rw [←hn,List.take_length];exact htop)
  have hl:=Oz hD (i:Int)
  rw [hrun,←hn,List.drop_length,show FM X L [] D=(D,0) from rfl,if_pos rfl]
  rw [hn]
  dsimp only
  refine PH ?_;refine JK ?_;refine AR ?_;refine Ea ?_;refine Wh ?_;refine WM ?_;refine AR ?_;refine Cs (Iq (c:= .bs (As D (i:Int))) underlying85 underlying3 rfl rfl rfl hD.keyed (Ih hi')) rfl ?_;refine gH ?_;exact Ct
theorem Lc(k:r)(h:Hid r→g:=by intro h;refine AA (EE rfl rfl) rfl ?_;exact h.out):g:=h ⟨k⟩
theorem II(k:r)(h:Hid r→g:=by intro h;refine Ez 9 mixed K_ rfl rfl rfl ?_;exact h.out):g:=h ⟨k⟩
theorem ph(r s:AB 8)(o p n c d:Nat)(hr:o+n≤r.length)(hs:p+n≤s.length)(hn:n≤1099511627776)(he:∀i,i<n→nth r (o+i)=nth s (p+i)):
  Ev prog (.call 13 [.c (.sl 0 o n c 1),.c (.sl 1 p n d 1)] [.row false (.a8 r),.row false (.a8 s)]) (.val (.c (.val (.bool true))) [.row false (.a8 r),.row false (.a8 s)]):=by
 refine AG func13 rfl ntmps13 rfl AH ?_;refine Im ?_;refine CV ?_;refine LG ?_;refine Lc ?_;refine FA ?_;refine Bu rfl (by simp) ?_
 refine AK ?_;refine Ay ?_;refine AU [0,1,5] (fun (x:Nat)=>⟨26,AS [0,1,5] [.c (.sl 0 o n c 1),.c (.sl 1 p n d 1),Ae (x)],[Bw (r),Bw (s)]⟩) (fun j=>j) (n) K_ ?_ ?_
 ·intro j hj
  refine Ar ?_;refine CV ?_;refine SN ?_;refine II ?_;refine Bt ?_;refine AE (Yj rfl rfl underlying23 Bz O_) rfl ?_;refine LD ?_;refine Bt ?_;refine AE (Yj rfl rfl underlying23 Bz O_) rfl ?_;refine LD ?_;refine AE (xj rfl rfl) rfl ?_;refine Gw ?_;refine Bu rfl (by simp [he j hj]) ?_
  refine A9 ?_;refine Cl ?_;exact ⟨_,K_,rfl⟩
 ·refine S_ ?_
  refine Cj ?_;refine LG ?_;refine DF ?_;exact Gc
theorem bB(x:AB 8)(hx:x.length≤1099511627776):Ev prog (.call 13 [.c (.bs x),.c (.bs x)] []) (.val (.c (.val (.bool true))) []):=
 Ev.partsB (m:=[]) (m':=[.row false (.a8 x),.row false (.a8 x)]) (N:=[]) (N':=[]) [none,none] [0,1] (.no (.no .nil)) (.c (.same rfl) (.c (.same rfl) .nil)) (.bs rfl rfl (.bs rfl rfl .nil)) rfl rfl (ph x x 0 0 x.length x.length x.length O_ O_ hx (fun i _=>rfl)) rfl rfl
theorem OC(k:r)(h:Hid r→g:=by intro h;refine AE (QJ rfl rfl Qq Dw) rfl ?_;exact h.out):g:=h ⟨k⟩
theorem OW(k:r)(h:Hid r→g:=by intro h;refine AE (SU rfl) rfl ?_;exact h.out):g:=h ⟨k⟩
theorem sJ(l:List (AB 8))(n c d:Nat)(hl:l.length=n)(hn:n≤1099511627776)(hb:∀x∈l,x.length≤1099511627776):Ev prog (.call 14 [.c (.sl 0 0 n c 1),.c (.sl 1 0 n d 1)] [.row false (.ab l),.row false (.ab l)]) (.val (.c (.val (.bool true))) [.row false (.ab l),.row false (.ab l)]):=by
 refine AG func14 rfl ntmps14 rfl AH ?_;refine Im ?_;refine HH ?_;refine AR ?_;refine HH ?_;refine Lc ?_;refine FA ?_;refine Bu rfl (by simp) ?_
 refine AK ?_;refine Ay ?_;refine AU [0,1,5] (fun (x:Nat)=>⟨27,AS [0,1,5] [.c (.sl 0 0 n c 1),.c (.sl 1 0 n d 1),Ae (x)],[.row false (.ab l),.row false (.ab l)]⟩) (fun j=>j) (n) K_ ?_ ?_
 ·intro j hj
  have h1:=Rv hb j
  refine Ar ?_;refine HH ?_;refine SN ?_;refine Qe ?_;refine Bt ?_;refine AE (DI rfl rfl underlying22 Nn O_) rfl ?_;refine OC ?_;refine Bt ?_;refine AE (DI rfl rfl underlying22 Nn O_) rfl ?_;refine OC ?_;refine iE (bB (Fh l j) h1) uO ?_;refine OW ?_;refine Bn ?_;refine AZ ?_;refine Cl ?_;exact ⟨_,K_,rfl⟩
 ·refine S_ ?_
  refine Cj ?_;refine AR ?_;refine HH ?_;refine DF ?_;exact Gc
theorem Vx{n:Nat}{a b:AB n}(hl:a.length=b.length)(h:∀i,i<a.length→nth a i=nth b i):a=b:=by
 refine List.ext_getElem hl fun i h1 h2=>?_
 have:=h i h1
 rwa [Qj a i h1,Qj b i h2] at this
theorem Xb(key:AB 8)(c:BitVec 32)(nonce t:AB 8)(hk:key.length=32)(hn:nonce.length=12)(i:Nat)(hi:i<t.length):
  nth (G6 key c nonce t) i=nth t i^^^nth (D5 key (c+BitVec.ofNat 32 (i/64)) nonce) (i%64):=by
 have h7:∀X j3 j7,64*j3+j7≤X.length→j7≤64→ ∀i,i<X.length→nth (El key c nonce X j3 j7) i=if 64*j3≤i∧i<64*j3+j7 then nth X i^^^nth (D5 key (c+BitVec.ofNat 32 (i/64)) nonce) (i%64) else nth X i:=fun X j3 j7=>by
  induction j7 with
  |zero=>intro _ _ i _;rw [if_neg O_];rfl
  |succ j7 ih=>
   intro h1 h2 i hi
   rw [El,Nb,DH _ _ _ _ (by rw [Jf];omega)]
   by_cases e:64*j3+j7=i
   ·subst e
    rw [if_pos rfl,if_pos O_,ih O_ O_ _ O_,if_neg O_,Nat.add_sub_cancel_left,Nat.mul_div_cancel_left _ D_,show (64*j3+j7)/64=j3 from by omega,show (64*j3+j7)%64=j7 from by omega]
   ·rw [if_neg e,ih O_ O_ _ hi]
    by_cases h:64*j3≤i∧i<64*j3+j7
    ·rw [if_pos h,if_pos O_]
    ·rw [if_neg h,if_neg O_]
 have h3:∀j3,j3≤(t.length+63)/64→ ∀i,i<t.length→nth (Ew key c nonce t j3) i=if i<64*j3 then nth t i^^^nth (D5 key (c+BitVec.ofNat 32 (i/64)) nonce) (i%64) else nth t i:=fun j3=>by
  induction j3 with
  |zero=>intro _ i _;rw [if_neg O_];rfl
  |succ j3 ih=>
   intro h1 i hi
   rw [Ew,M3,h7 _ _ _ (by rw [HN _ _ _ _ hk hn];omega) O_ _ (by rw [HN _ _ _ _ hk hn];exact hi)]
   by_cases e:64*j3≤i∧i<64*j3+(min (64*j3+64) t.length-64*j3)
   ·rw [if_pos e,if_pos O_,ih O_ _ hi,if_neg O_]
   ·rw [if_neg e,ih O_ _ hi]
    by_cases h:i<64*j3
    ·rw [if_pos h,if_pos O_]
    ·rw [if_neg h,if_neg O_]
 unfold G6
 rw [h3 _ (Nat.le_refl _) _ hi,if_pos O_]
def rn(n i:Nat):BitVec 8:=((BitVec.ofNat 64 n)>>>(8*i)).setWidth 8
theorem ck(n:Nat):GA n=[rn n 0,rn n 1,rn n 2,rn n 3]:=by unfold GA;rfl
theorem Uu{n:Nat}(h:n<18446744073709551616)(i:Nat):(rn n i).toNat=n/2^(8*i)%256:=by
 unfold rn
 rw [BitVec.toNat_setWidth,BitVec.toNat_ushiftRight,BitVec.toNat_ofNat,Nat.mod_eq_of_lt (show n<2^64 by omega),Nat.shiftRight_eq_div_pow]
theorem XN(b:AB 8):∀k,av b k<2^(8*k)
 |0=>by simp [av]
 |k+1=>by
  have h:=XN b k
  refine Nat.or_lt_two_pow (Nat.lt_of_lt_of_le h (Nat.pow_le_pow_right D_ O_)) ?_;have h2:=(nth b k).isLt
  calc (nth b k).toNat*2^(8*k)<256*2^(8*k):=Nat.mul_lt_mul_of_pos_right h2 (Nat.pow_pos D_)
   _=2^(8*(k+1)):=by rw [Nat.mul_add,Nat.pow_add];omega
theorem Sb(b:AB 8)(k:Nat):av b (k+1)=av b k+(nth b k).toNat*2^(8*k):=by
 rw [av.eq_2,Nat.or_comm,Nat.mul_comm,←Nat.two_pow_add_eq_or_of_lt (XN b k)]
 omega
theorem sB(b:AB 8):av b 4=(nth b 0).toNat+(nth b 1).toNat*256+(nth b 2).toNat*65536+(nth b 3).toNat*16777216:=by
 rw [Sb,Sb,Sb,Sb]
 simp [av]
theorem ma(a0 a1 a2 a3:BitVec 8)(r:AB 8):nth ([a0,a1,a2,a3]++r) 0=a0∧nth ([a0,a1,a2,a3]++r) 1=a1∧nth ([a0,a1,a2,a3]++r) 2=a2∧nth ([a0,a1,a2,a3]++r) 3=a3:=⟨rfl,rfl,rfl,rfl⟩
theorem vr(n:Nat)(h:n<4294967296)(r:AB 8):av (GA n++r) 4=n:=by
 rw [sB,ck]
 obtain ⟨h0,h1,h2,h3⟩:=ma (rn n 0) (rn n 1) (rn n 2) (rn n 3) r
 rw [h0,h1,h2,h3,Uu O_,Uu O_,Uu O_,Uu O_]
 simp only [Nat.reduceMul,Nat.reducePow,Nat.mul_zero,Nat.pow_zero,Nat.div_one]
 omega
theorem bG(x:AB 8)(l:List (AB 8)):∀j,Sa (x::l) (j+1)=GA x.length++(x++Sa l j)
 |0=>by simp [Sa,Fh]
 |j+1=>by
  rw [Sa.eq_2,bG x l j,Sa.eq_2]
  simp [Fh]
theorem gW(x:AB 8)(l:List (AB 8)):jn (x::l)=GA x.length++(x++jn l):=bG x l l.length
theorem yi:jn []=[]:=rfl
theorem RZ(x:AB 8)(l:List (AB 8)):jl (x::l)=4+x.length+jl l:=by
 rw [←NP,gW,List.length_append,List.length_append,RD,NP]
 omega
theorem vi(l:List (AB 8))(h:jl l≤65536):rq (jn l)=some l:=by
 induction l with
 |nil=>rw [yi,rq];simp
 |cons x l ih=>
  rw [RZ] at h
  have ih:=ih O_
  rw [gW,rq]
  have hlen:(GA x.length++(x++jn l)).length=4+(x.length+(jn l).length):=by simp
  have hd:(GA x.length++(x++jn l)).drop 4=x++jn l:=by
   have h4:=RD x.length
   rw [←h4,List.drop_left]
  rw [if_neg O_,dif_neg O_,hd,vr _ O_,if_neg (by simp),List.drop_left,List.take_left,ih]
  rfl
theorem vd(x t:AB 8)(m:Nat)(h:x.length=m):cut (x++t) 0 m=x:=by subst h;simp [cut]
theorem zd(x t:AB 8)(m k:Nat)(h:x.length=m)(hk:t.length=k):cut (x++t) m k=t:=by subst h hk;simp [cut]
theorem oN(key nonce t:AB 8)(c:BitVec 32)(hkey:key.length=32)(hnonce:nonce.length=12):G6 key c nonce (G6 key c nonce t)=t:=by
 have hl:=Jj key c nonce t hkey hnonce
 refine Vx (by rw [Jj _ _ _ _ hkey hnonce,hl]) fun i hi=>?_
 rw [Jj _ _ _ _ hkey hnonce,hl] at hi
 rw [Xb _ _ _ _ hkey hnonce _ O_,Xb _ _ _ _ hkey hnonce _ hi,BitVec.xor_assoc,BitVec.xor_self,BitVec.xor_zero]
theorem qE(key nonce text:AB 8)(hkey:key.length=32)(hnonce:nonce.length=12):
  DU key nonce [] (cut (BP key nonce [] text) 0 ((BP key nonce [] text).length-16))=cut (BP key nonce [] text) ((BP key nonce [] text).length-16) 16:=by
 have hx:=Jj key 1#32 nonce text hkey hnonce
 have hl:=CZ key nonce [] text hkey hnonce
 rw [hl,Nat.add_sub_cancel]
 unfold BP at hl ⊢
 rw [List.length_append] at hl
 unfold Gh at hl ⊢
 rw [hx] at hl
 rw [vd _ _ _ hx,zd _ _ _ _ hx O_]
 unfold DU Hd
 rfl
theorem bT(key nonce text:AB 8)(hkey:key.length=32)(hnonce:nonce.length=12):GK key nonce (BP key nonce [] text)=text:=by
 have hx:=Jj key 1#32 nonce text hkey hnonce
 have hl:=CZ key nonce [] text hkey hnonce
 unfold GK
 rw [hl,Nat.add_sub_cancel]
 unfold BP Gh
 rw [vd _ _ _ hx,oN _ _ _ _ hkey hnonce]
theorem fm(key box:AB 8)(hkey:key.length=32)(hbn:box.length≤1099511627)(h16:16≤box.length)(hT:box.length-16≤65536)(hE:DU key (Ag 12) [] (cut box 0 (box.length-16))=cut box (box.length-16) 16):
  Ev prog (.call 53 [.agg (.a8 key),.agg (.a8 (Ag 12)),.c .nsl,.c (.bs box)] []) (.val (.tup [.c (.sl 0 0 (box.length-16) (box.length-16) 1),.c (.val (.int .i64 ((0:Nat):Int)))]) [.row true (.a8 (GK key (Ag 12) box))]):=
 Ev.partsB (m:=[]) (m':=[.row false (.a8 []),.row false (.a8 box)]) (N:=[.row true (.a8 (GK key (Ag 12) box))]) (N':=[.row true (.a8 (GK key (Ag 12) box))]) [none,none] [1] (.no (.no .nil)) (.agg rfl (.agg rfl (.c .nil (.c (.same rfl) .nil)))) (.same (.same (.same (.bs rfl rfl .nil)))) rfl rfl (mM key (Ag 12) [] 0 0 box box.length box.length hkey (A1 12) rfl D_ rfl hbn D_ h16 hT hE) rfl rfl
def Nt(key box:AB 8):Nat:=if box.length<16∨65536<box.length-16 then 2 else if DU key (Ag 12) [] (cut box 0 (box.length-16))=cut box (box.length-16) 16 then 0 else 3
theorem kS(key box:AB 8)(hkey:key.length=32)(hbn:box.length≤1099511627)(he:¬Nt key box=0):
  Ev prog (.call 53 [.agg (.a8 key),.agg (.a8 (Ag 12)),.c .nsl,.c (.bs box)] []) (.val (.tup [.c .nsl,.c (.val (.int .i64 ((Nt key box:Nat):Int)))]) []):=by
 have go:∀e:Nat,Ev prog (.call 53 [.agg (.a8 key),.agg (.a8 (Ag 12)),.c (.sl 0 0 0 0 1),.c (.sl 1 0 box.length box.length 1)] [.row false (.a8 []),.row false (.a8 box)]) (.val (.tup [.c .nsl,.c (.val (.int .i64 ((e:Nat):Int)))]) [.row false (.a8 []),.row false (.a8 box)])→Ev prog (.call 53 [.agg (.a8 key),.agg (.a8 (Ag 12)),.c .nsl,.c (.bs box)] []) (.val (.tup [.c .nsl,.c (.val (.int .i64 ((e:Nat):Int)))]) []):=fun e h=>
  Ev.partsB (m:=[]) (m':=[.row false (.a8 []),.row false (.a8 box)]) (N:=[]) (N':=[]) [none,none] [1] (.no (.no .nil)) (.agg rfl (.agg rfl (.c .nil (.c (.same rfl) .nil)))) (.same (.same (.same (.bs rfl rfl .nil)))) rfl rfl h rfl rfl
 unfold Nt at he ⊢
 by_cases h1:box.length<16
 ·rw [if_pos (.inl h1)]
  exact go _ (ew key (Ag 12) [] 0 0 box box.length box.length hkey (A1 12) rfl D_ rfl hbn D_ h1)
 by_cases h2:65536<box.length-16
 ·rw [if_pos (.inr h2)]
  exact go _ (eB key (Ag 12) [] 0 0 box box.length box.length hkey (A1 12) rfl D_ rfl hbn D_ O_ h2)
 rw [if_neg O_] at he ⊢
 by_cases h3:DU key (Ag 12) [] (cut box 0 (box.length-16))=cut box (box.length-16) 16
 ·rw [if_pos h3] at he
  exact absurd rfl he
 ·rw [if_neg h3]
  exact go _ (dw key (Ag 12) [] 0 0 box box.length box.length hkey (A1 12) rfl D_ rfl hbn D_ O_ O_ h3)
def ni(key box:AB 8):List (AB 8)×Nat:=if Nt key box=0 then jr (GK key (Ag 12) box) else ([],Nt key box)
theorem TQ(key box:AB 8)(hkey:key.length=32)(hbn:box.length≤1099511627):Ev prog (.call 26 [B4 key,.c (.bs box)] []) (.val (.tup [.c (.sl 0 0 (ni key box).1.length (ni key box).1.length 1),Ae (((ni key box).2:Nat):Int)]) [.row true (.ab (ni key box).1)]):=by
 unfold ni
 by_cases he:Nt key box=0
 ·rw [if_pos he]
  have h1:16≤box.length∧box.length-16≤65536∧DU key (Ag 12) [] (cut box 0 (box.length-16))=cut box (box.length-16) 16:=by
   unfold Nt at he
   split at he
   ·cases he
   ·split at he
    ·rename_i h1 h2
     exact ⟨by omega,by omega,h2⟩
    ·cases he
  have hO:=fm key box hkey hbn h1.1 h1.2.1 h1.2.2
  have hl:(GK key (Ag 12) box).length=box.length-16:=by
   unfold GK
   rw [Jj _ _ _ _ hkey (A1 12),Ck]
   omega
  have h65:=h1.2.1
  generalize GK key (Ag 12) box=t at*
  generalize box.length-16=m at*
  have hS:=VY t O_
  generalize jr t=q at*
  refine AG func26 rfl ntmps26 rfl AH ?_;refine Bg ?_;refine EV ?_;refine Fu ?_;refine ZJ ?_;refine AR ?_;refine Fb (hO) uR ?_;refine Cx ?_;refine JT ?_;refine HD 6 rfl rfl hl AM ?_;refine A9 ?_;refine IM ?_;refine Fb (hS) uy ?_;refine T4 ?_;exact Ct
 ·rw [if_neg he]
  have hO:=kS key box hkey hbn he
  generalize Nt key box=e at*
  refine AG func26 rfl ntmps26 rfl AH ?_;refine Bg ?_;refine EV ?_;refine Fu ?_;refine ZJ ?_;refine AR ?_;refine Fb (hO) uR ?_;refine GQ ?_;refine IM ?_;refine Er ?_;refine FP 4 1 (.ab []) rfl rfl AH rfl ?_;exact Ep
section
variable {P:Program} {k:Nat} {ops:Array Oper} {l:List Oper} {N d:Nat} {T:Nat→AV} {M M':Ak} {K:St→Prop} {ty t t':TypeId} {pos:String} {af:Array Edge}
theorem dt{x:Operand}{n el:Nat}{y:AB 8}(hx:AC T x= .c (.bs y))(hu:P.underlying t=some (.array n el))(h1:n≤y.length)(h0:0<n):AL P (AC T) M (.sliceToArrayPointer t x)=some (.c (.qb y 0)):=by
 show L9 P t (AC T x)=_
 rw [hx];simp [L9,hu,h1,h0]
theorem qs{a:Operand}{o n:Nat}{y:AB 8}(ha:AC T a= .c (.qb y o))(hr:BC P t=some true)(hs:De P t=some n)(h:o+n≤y.length)(h0:0<n):AL P (AC T) M (.load t a)=some (.agg (.a8 (cut y o n))):=by
 have hh:o+n≤(Arr.a8 y).size:=h
 simp [AL,ha,FK,hr,hs,hh,h0,uT]
theorem Wa{a:Operand}{n:Nat}{y:AB 8}(ha:AC T a= .c (.qb y 0))(hr:BC P t=some true)(hs:De P t=some n)(h:y.length=n)(h0:0<n):AL P (AC T) M (.load t a)=some (.agg (.a8 y)):=by
 have:=qs (P:=P) (M:=M) ha hr hs O_ h0
 rwa [HL h] at this
end
def EA(x y:BitVec 64):BitVec 64:=(((x>>>32)*(y>>>32))+((((x>>>32)*(y&&&4294967295#64))+(((x&&&4294967295#64)*(y&&&4294967295#64))>>>32))>>>32))+((((((x>>>32)*(y&&&4294967295#64))+(((x&&&4294967295#64)*(y&&&4294967295#64))>>>32))&&&4294967295#64)+((x&&&4294967295#64)*(y>>>32)))>>>32)
def A3(x y:BitVec 64):BitVec 64:=x*y
theorem WG(k:r)(h:Hid r→g:=by intro h;refine AA (CY (j:=32) rfl rfl) rfl ?_;exact h.out):g:=h ⟨k⟩
theorem VJ(x y:BitVec 64):Ev prog (.call 163 [.c (.val (BW x)),.c (.val (BW y))] []) (.val (.tup [.c (.val (BW (EA x y))),.c (.val (BW (A3 x y)))]) []):=by
 have hP_mul640:Hid (EA x y=(((x>>>32)*(y>>>32))+((((x>>>32)*(y&&&4294967295#64))+(((x&&&4294967295#64)*(y&&&4294967295#64))>>>32))>>>32))+((((((x>>>32)*(y&&&4294967295#64))+(((x&&&4294967295#64)*(y&&&4294967295#64))>>>32))&&&4294967295#64)+((x&&&4294967295#64)*(y>>>32)))>>>32)):=⟨rfl⟩
 have hP_mul641:Hid (A3 x y=x*y):=⟨rfl⟩
 refine AG func163 rfl ntmps163 rfl AH ?_;refine JQ ?_;refine AA (Fo (b:=4294967295#64) rfl rfl) rfl ?_;refine Ab ?_;refine WG ?_;refine Ab ?_;refine AA (Fo (b:=4294967295#64) rfl rfl) rfl ?_;refine Ab ?_;refine WG ?_;refine BH ?_;refine AA (HU rfl rfl) rfl ?_;refine BH ?_;refine AA (HU rfl rfl) rfl ?_;refine AR ?_;refine WG ?_;refine D0 ?_;refine Ab ?_;refine AA (Fo (b:=4294967295#64) rfl rfl) rfl ?_;refine Ab ?_;refine WG ?_;refine BH ?_;refine AR ?_;refine AA (HU rfl rfl) rfl ?_;refine D0 ?_;refine BH ?_;refine AA (HU rfl rfl) rfl ?_;refine AR ?_;refine D0 ?_;refine AR ?_;refine WG ?_;refine D0 ?_;refine BH ?_;refine AA (HU rfl rfl) rfl ?_;refine Ay ?_;rw [hP_mul640.out,hP_mul641.out]
 exact QW
attribute [irreducible] EA
attribute [irreducible] A3
theorem tL(x y c:BitVec 64)(h:c.toNat≤1):(Cw x y c).toNat≤1:=by
 have:=x.isLt;have:=y.isLt
 unfold Cw
 rw [BitVec.toNat_ofNat]
 omega
theorem ik(x y c:BitVec 64):(IN x y c).toNat≤1:=by
 unfold IN
 split<;>decide
def Qh(X1:BitVec 64)(X2:AB 64)(j3:Nat):BitVec 64×AB 64:=((nth (put X2 j3 ((nth X2 j3)+X1)) j3)>>>51,put (put X2 j3 ((nth X2 j3)+X1)) j3 ((nth (put X2 j3 ((nth X2 j3)+X1)) j3)&&&2251799813685247#64))
def DB(a:AB 64):Nat→BitVec 64×AB 64
 |0=>(0#64,a)
 |j3+1=>Qh (DB a j3).1 (DB a j3).2 j3
theorem LL(a:AB 64)(ha:a.length=5)(j3:Nat):(DB a j3).2.length=5:=by
 induction j3 with
 |zero=>(simp [DB, *];done)
 |succ j3 ih=>rw [DB.eq_2,Qh];(simp [ih];done)
def BD(a:AB 64):AB 64:=put ((DB a 5).2) 0 ((nth ((DB a 5).2) 0)+(19#64*((DB a 5).1)))
theorem C8(k:r)(h:Hid r→g:=by intro h;refine BE (BO PU AH) AM rfl ?_;exact h.out):g:=h ⟨k⟩
theorem H8(k:r)(h:Hid r→g:=by intro h;refine AA (AT rfl rfl underlying160 BX O_) rfl ?_;exact h.out):g:=h ⟨k⟩
theorem WD(k:r)(h:Hid r→g:=by intro h;refine AA (CY (j:=51) rfl rfl) rfl ?_;exact h.out):g:=h ⟨k⟩
theorem NJ(k:r)(h:Hid r→g:=by intro h;refine AA (Fo (b:=2251799813685247#64) rfl rfl) rfl ?_;exact h.out):g:=h ⟨k⟩
theorem Qg(k:r)(h:Hid r→g:=by intro h;refine AA (BA (a:=5) (b:=5) rfl rfl) rfl ?_;exact h.out):g:=h ⟨k⟩
theorem NH(k:r)(h:Hid r→g:=by intro h;refine AA (AT (j:=0) rfl rfl underlying160 BX O_) rfl ?_;exact h.out):g:=h ⟨k⟩
theorem GU(k:r)(h:Hid r→g:=by intro h;refine AA (Bj rfl rfl GM Fe C1 D_) rfl ?_;exact h.out):g:=h ⟨k⟩
theorem La(k:r)(h:Hid r→g:=by intro h;refine Bm rfl rfl rfl rfl Fe C1 C1 AM ?_;refine AN ?_;refine S_ ?_;exact h.out):g:=h ⟨k⟩
theorem MV(h:g:=by exact gw (JR rfl rfl GM Fe C1 D_) (by (kernel_rfl))):g:=h
theorem Ln(a:AB 64)(ha:a.length=5):Ev prog (.call 187 [EQ (a)] []) (.val (EQ (BD a)) []):=by
 have hP:=Hid.mk (BD.eq_1 a)
 refine AG func187 rfl ntmps187 rfl AH ?_;refine Bg ?_;refine C8 ?_;refine AQ ?_;refine Ab ?_;refine A6 ?_;refine AU [1,2,3,5] (fun (zz:Nat×BitVec 64×AB 64)=>⟨31,AS [1,2,3,5] [Al 0,Al 1,.c (.val (BW (zz.2.1))),Ae (((zz.1:Nat):Int))],[CH (zz.2.2),CH (Aj 5)]⟩) (fun j3=>(j3,DB a j3)) (5) K_ ?_ ?_
 ·intro j3 hj3
  try dsimp only
  have hX2:(DB a j3).2.length=5:=by rw [LL a ha _];try omega
  rw [DB.eq_2,Qh]
  generalize DB a j3=Z3 at*
  obtain ⟨X1,X2⟩:=Z3
  try dsimp only at*
  refine FD ?_;refine AZ ?_;refine Ab ?_;refine H8 ?_;refine D2 ?_;refine D0 ?_;refine H8 ?_;refine Fw ?_;refine AZ ?_;refine H8 ?_;refine BV ?_;refine WD ?_;refine Ab ?_;refine H8 ?_;refine BV ?_;refine NJ ?_;refine H8 ?_;refine Fz ?_;exact ⟨(j3+1,_),K_,rfl⟩
 ·try dsimp only
  have hY5:(DB a 5).2.length=5:=by rw [LL a ha _];try omega
  generalize DB a 5=Z6 at*
  obtain ⟨Y4,Y5⟩:=Z6
  try dsimp only at*
  refine AK ?_;refine Qg ?_;refine AQ ?_;refine NH ?_;refine D2 ?_;refine AA (HU (a:=19#64) rfl rfl) rfl ?_;refine D0 ?_;refine NH ?_;refine Fw ?_;refine AQ ?_;refine GU ?_;refine La ?_;rw [hP.out]
  exact MV
@[simp] theorem zB(a:AB 64)(ha:a.length=5):(BD a).length=5:=by
 unfold BD
 (simp [LL, *];done)
attribute [irreducible] BD
end Go.Proofs.YtmbepikkgkcgkaaGreatDoor
