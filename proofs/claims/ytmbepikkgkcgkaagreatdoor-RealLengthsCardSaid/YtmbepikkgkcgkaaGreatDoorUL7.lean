/- Merged and shortened by a program: part 7. -/
import Derived.Test.YtmbepikkgkcgkaaGreatDoorUL6
set_option maxRecDepth 100000
set_option maxHeartbeats 8000000
namespace Go.Proofs.YtmbepikkgkcgkaaGreatDoor
open Go.RowKit
variable {g r : Prop}
open Go.Proofs.Tryz
def DC(key nonce ad tx:AB 8):AB 8:=M9 key nonce ad tx
theorem VG{A B:Prop}(a:A)(b:B)(k:r)(h:A→B→Hid r→g:=by intro a b h;refine Bq (AZ (bs:=[0,1]) a b K_ K_ rfl Bb) AK rfl ?_;exact h.out):g:=h a b ⟨k⟩
theorem UI(key nonce ad:AB 8)(an acap:Nat)(b:AB 8)(o n cap:Nat)(hkey:key.length=32)(hnonce:nonce.length=12)(had:ad.length=an)(han:an≤1099511627)(hb:o+n≤b.length)(hn:n≤1099511627):Ev prog (.call 75 [Aj ((1:Nat):Int),Co (key),Co (nonce),.c (.sl 0 0 an acap 1),.c (.sl 1 o n cap 1)] [B1 (ad),B1 (b)]) (.val (.tup [.c (.sl 1 o n cap 1),Co (DC key nonce ad (cut b o n))]) [B1 (ad),B1 (b)]):=by
 have hP_adWork11:Hid (DC key nonce ad (cut b o n)=M9 key nonce ad (cut b o n)):=⟨rfl⟩
 subst had
 have htx:(cut b o n).length=n:=by rw [Cg];omega
 try simp only [htx] at hP_adWork11
 refine AJ func75 rfl ntmps75 rfl AN ?_;refine B5 ?_;refine Fm ?_;refine Po ?_;refine AW ?_;refine AS ?_;refine AA (B4 (a:=1) (b:=0) rfl rfl) rfl ?_;refine Ad ?_;refine AA (B4 (a:=1) (b:=1) rfl rfl) rfl ?_;refine Bv ?_;have hQ1:(M9 key nonce ad (cut b o n)).length=16:=Au
 refine DV ?_;refine Py ?_;refine Fa ?_;refine VG (Ze key nonce ad ad.length acap b o n cap AD AD AD AD AD AD) oE ?_;refine K7 ?_;refine A1 ?_;refine Pq ?_;refine A0 ?_;refine W0 ?_;refine Mh ?_;refine K7 ?_;refine A1 ?_;rw [hP_adWork11.out]
 exact qB (Dt rfl) (Iy rfl rfl L0 NU C7 D_) (by (kernel_rfl))
@[simp] theorem pJ(key nonce ad tx:AB 8)(hkey:key.length=32)(hnonce:nonce.length=12):(DC key nonce ad tx).length=16:=by
 unfold DC
 (simp [*];done)
attribute [irreducible] DC
def CT(key nonce ad text:AB 8):AB 8:=(F5 key nonce text)++(Gm key nonce ad text)
theorem FA(k:r)(h:Hid r→g:=by intro h;refine AA (Ah rfl) rfl ?_;refine Kp Vh ?_;exact h.out):g:=h ⟨k⟩
theorem F2(k:r)(h:Hid r→g:=by intro h;refine AA (PC rfl gn rfl) rfl ?_;refine AM ?_;exact h.out):g:=h ⟨k⟩
theorem jL(key nonce ad:AB 8)(an acap:Nat)(text:AB 8)(tn tcap:Nat)(hkey:key.length=32)(hnonce:nonce.length=12)(had:ad.length=an)(han:an≤1099511627)(htext:text.length=tn)(htn:tn≤1099511627)(hA:an≤65536)(hT:tn≤65536):Ev prog (.call 103 [Co (key),Co (nonce),.c (.sl 0 0 an acap 1),.c (.sl 1 0 tn tcap 1)] [B1 (ad),B1 (text)]) (.val (.tup [.c (.sl 2 0 (tn+16) (tn+16) 1),Aj ((0:Nat):Int)]) [B1 (ad),B1 (text),CP (CT key nonce ad text)]):=by
 have hP_adSeal0:Hid (CT key nonce ad text=(F5 key nonce text)++(Gm key nonce ad text)):=⟨rfl⟩
 subst had
 subst htext
 refine AJ func103 rfl ntmps103 rfl AN ?_;refine B5 ?_;refine IM ?_;refine Bt ?_;refine GP ?_;refine FA ?_;refine FA ?_;refine Bt ?_;refine Kp Vh ?_;refine GP ?_;refine F2 ?_;have hQ1:(F5 key nonce text).length=text.length:=Au
 have hQ2:(Gm key nonce ad text).length=16:=Au
 refine DV ?_;refine Py ?_;refine Fa ?_;refine VG (ck key nonce ad ad.length acap text text.length tcap AD AD AD AD AD AD) oH ?_;refine CD ?_;refine Po ?_;refine Fm ?_;refine K7 ?_;refine AW ?_;refine AA (HX (l:=0) (h:=16) (len:=16) (cp:=16) rfl underlying121 CE rfl rfl rfl O_ O_ Rx rfl rfl) rfl ?_;refine Cl ?_;refine Iu ?_;rw [hP_adSeal0.out]
 exact Sq
@[simp] theorem D4(key nonce ad text:AB 8)(hkey:key.length=32)(hnonce:nonce.length=12):(CT key nonce ad text).length=text.length+16:=by
 unfold CT
 (simp [*];done)
attribute [irreducible] CT
def Fl(key nonce box:AB 8):AB 8:=GR key 1#32 nonce (cut box 0 (box.length-16))
theorem XP(k:r)(h:Hid r→g:=by intro h;refine AJ func53 rfl ntmps53 rfl AN ?_;exact h.out):g:=h ⟨k⟩
theorem bo(k:r)(h:Hid r→g:=by intro h;refine AA (FN (b:=16) rfl rfl O_ O_) rfl ?_;exact h.out):g:=h ⟨k⟩
theorem M6(k:r)(h:Hid r→g:=by intro h;refine AA (BE (b:=0) rfl rfl) rfl ?_;exact h.out):g:=h ⟨k⟩
theorem L4(k:r)(h:Hid r→g:=by intro h;refine EQ 12 mixed K_ rfl rfl rfl ?_;exact h.out):g:=h ⟨k⟩
theorem FZ(k:r)(h:Hid r→g:=by intro h;refine AE (Bi rfl rfl K8 KW C7 D_) rfl ?_;exact h.out):g:=h ⟨k⟩
theorem Kt(k:r)(h:Hid r→g:=by intro h;refine AE (I0 rfl) rfl ?_;exact h.out):g:=h ⟨k⟩
theorem J9(k:r)(h:Hid r→g:=by intro h;refine AE (C5 rfl rfl) rfl ?_;refine AE (C5 rfl rfl) rfl ?_;exact h.out):g:=h ⟨k⟩
theorem Yp(k:r)(h:Hid r→g:=by intro h;refine EQ 7 mixed K_ rfl rfl rfl ?_;exact h.out):g:=h ⟨k⟩
theorem GN(k:r)(h:Hid r→g:=by intro h;refine Bc ?_;refine AM ?_;refine Q_ ?_;exact h.out):g:=h ⟨k⟩
theorem jV(key nonce ad:AB 8)(an acap:Nat)(box:AB 8)(bn bcap:Nat)(hkey:key.length=32)(hnonce:nonce.length=12)(had:ad.length=an)(han:an≤1099511627)(hbox:box.length=bn)(hbn:bn≤1099511627)(hA:an≤65536)(h16:16≤bn)(hT:bn-16≤65536)(hE:DC key nonce ad (cut box 0 (bn-16))=cut box (bn-16) 16):Ev prog (.call 53 [Co (key),Co (nonce),.c (.sl 0 0 an acap 1),.c (.sl 1 0 bn bcap 1)] [B1 (ad),B1 (box)]) (.val (.tup [.c (.sl 2 0 (bn-16) (bn-16) 1),Aj ((0:Nat):Int)]) [B1 (ad),B1 (box),CP (Fl key nonce box)]):=by
 have hP_adOpen0:Hid (Fl key nonce box=GR key 1#32 nonce (cut box 0 (box.length-16))):=⟨rfl⟩
 subst had
 subst hbox
 refine XP ?_;refine B5 ?_;refine IM ?_;refine Bt ?_;refine bo ?_;refine AY ?_;refine Bt ?_;refine GP ?_;refine FA ?_;refine FA ?_;refine M6 ?_;refine Ba ?_;refine FA ?_;refine FA ?_;refine GP ?_;refine F2 ?_;have hQ1:(DC key nonce ad (cut box 0 (box.length-16))).length=16:=Au
 refine S_ ?_;refine L4 ?_;refine FZ ?_;refine AE (Bi rfl rfl dR nk C7 D_) rfl ?_;refine By ?_;refine A0 ?_;refine AE (cz rfl underlying23 CE rfl O_) rfl ?_;refine Iv (AZ (bs:=[0,1]) (UI key nonce ad ad.length acap box 0 (box.length-16) bcap AD AD AD AD AD AD) oH K_ K_ rfl Bb) AK rfl ?_;refine Kt ?_;refine J9 ?_;refine Jz (BR cN AN) AK rfl ?_;refine Mh ?_;refine K7 ?_;refine AM ?_;have hQ2:(cut box (box.length-16) 16).length=16:=Au
 refine S_ ?_;refine Yp ?_;refine W0 ?_;refine By ?_;refine AE (YF rfl underlying23 CE rfl rfl O_ O_) rfl ?_;refine AE (Tv rfl underlying121 O_ D_) rfl ?_;refine AE (Qf rfl rfl L0 NU Wo D_) rfl ?_;refine AE (Yu rfl rfl underlying121 underlying5 CE C7 C7) rfl ?_;refine GN ?_;refine Bn rfl (by simp [hE]) ?_
 have hQ3:(GR key 1#32 nonce (cut box 0 (box.length-16))).length=box.length-16:=Au
 refine DV ?_;refine Py ?_;refine AO ?_;refine Bq (AZ (bs:=[1]) (Zt key 1#32 nonce box 0 (box.length-16) bcap AD AD AD AD) rT K_ K_ rfl Bb) AK rfl ?_;refine Iu ?_;rw [hP_adOpen0.out]
 exact Sq
attribute [irreducible] Fl
theorem dp(key nonce ad:AB 8)(an acap:Nat)(box:AB 8)(bn bcap:Nat)(hkey:key.length=32)(hnonce:nonce.length=12)(had:ad.length=an)(han:an≤1099511627)(hbox:box.length=bn)(hbn:bn≤1099511627)(hA:an≤65536)(h16:16≤bn)(hT:bn-16≤65536)(hE:¬(DC key nonce ad (cut box 0 (bn-16))=cut box (bn-16) 16)):Ev prog (.call 53 [Co (key),Co (nonce),.c (.sl 0 0 an acap 1),.c (.sl 1 0 bn bcap 1)] [B1 (ad),B1 (box)]) (.val (.tup [.c .nsl,Aj ((3:Nat):Int)]) [B1 (ad),B1 (box)]):=by
 subst had
 subst hbox
 refine XP ?_;refine B5 ?_;refine IM ?_;refine Bt ?_;refine bo ?_;refine AY ?_;refine Bt ?_;refine GP ?_;refine FA ?_;refine FA ?_;refine M6 ?_;refine Ba ?_;refine FA ?_;refine FA ?_;refine GP ?_;refine F2 ?_;have hQ1:(DC key nonce ad (cut box 0 (box.length-16))).length=16:=Au
 refine S_ ?_;refine L4 ?_;refine FZ ?_;refine AE (Bi rfl rfl dR nk C7 D_) rfl ?_;refine By ?_;refine A0 ?_;refine AE (cz rfl underlying23 CE rfl O_) rfl ?_;refine Iv (AZ (bs:=[0,1]) (UI key nonce ad ad.length acap box 0 (box.length-16) bcap AD AD AD AD AD AD) oH K_ K_ rfl Bb) AK rfl ?_;refine Kt ?_;refine J9 ?_;refine Jz (BR cN AN) AK rfl ?_;refine Mh ?_;refine K7 ?_;refine AM ?_;have hQ2:(cut box (box.length-16) 16).length=16:=Au
 refine S_ ?_;refine Yp ?_;refine W0 ?_;refine By ?_;refine AE (YF rfl underlying23 CE rfl rfl O_ O_) rfl ?_;refine AE (Tv rfl underlying121 O_ D_) rfl ?_;refine AE (Qf rfl rfl L0 NU Wo D_) rfl ?_;refine AE (Yu rfl rfl underlying121 underlying5 CE C7 C7) rfl ?_;refine GN ?_;refine EH rfl (by simp [hE]) ?_
 refine AG ?_;exact Cu
theorem cL(key nonce ad:AB 8)(an acap:Nat)(box:AB 8)(bn bcap:Nat)(_hkey:key.length=32)(_hnonce:nonce.length=12)(had:ad.length=an)(han:an≤1099511627)(hbox:box.length=bn)(hbn:bn≤1099511627)(hA:an≤65536)(h16:16≤bn)(hT:65536<bn-16):Ev prog (.call 53 [Co (key),Co (nonce),.c (.sl 0 0 an acap 1),.c (.sl 1 0 bn bcap 1)] [B1 (ad),B1 (box)]) (.val (.tup [.c .nsl,Aj ((2:Nat):Int)]) [B1 (ad),B1 (box)]):=by
 subst had
 subst hbox
 refine XP ?_;refine B5 ?_;refine IM ?_;refine Bt ?_;refine bo ?_;refine AY ?_;refine Bt ?_;refine GP ?_;refine FA ?_;refine FA ?_;refine M6 ?_;refine Ba ?_;refine FA ?_;refine FA ?_;refine GP ?_;refine Ba ?_;refine AS ?_;exact Cu
theorem cd(key nonce ad:AB 8)(an acap:Nat)(box:AB 8)(bn bcap:Nat)(_hkey:key.length=32)(_hnonce:nonce.length=12)(had:ad.length=an)(han:an≤1099511627)(hbox:box.length=bn)(hbn:bn≤1099511627)(hA:an≤65536)(h16:bn<16):Ev prog (.call 53 [Co (key),Co (nonce),.c (.sl 0 0 an acap 1),.c (.sl 1 0 bn bcap 1)] [B1 (ad),B1 (box)]) (.val (.tup [.c .nsl,Aj ((2:Nat):Int)]) [B1 (ad),B1 (box)]):=by
 subst had
 subst hbox
 refine XP ?_;refine B5 ?_;refine IM ?_;refine Bt ?_;refine NG ?_;refine AY ?_;refine Bt ?_;refine GP ?_;refine FA ?_;refine FA ?_;refine aA ?_;refine Ba ?_;refine AO ?_;refine NK Vh rfl ?_;refine NK Vh rfl ?_;refine C4 ?_;refine AS ?_;exact Cu
def Q5(b:AB 8)(o:Nat)(X1:BitVec 64)(j3:Nat):BitVec 64:=(X1<<<8) ||| ((nth b (o+j3)).setWidth 64)
def Hq(b:AB 8)(o:Nat):Nat→BitVec 64
 |0=>0#64
 |j3+1=>Q5 b o (Hq b o j3) j3
def QU(b:AB 8)(o n:Nat):BitVec 64:=(Hq b o n)
theorem UE(b:AB 8)(o n cap:Nat)(hb:o+n≤b.length)(hn:n≤8796093022208):Ev prog (.call 62 [.c (.sl 0 o n cap 1)] [B1 (b)]) (.val (.c (.val (BP (QU b o n)))) [B1 (b)]):=by
 have hP:=Hid.mk (QU.eq_1 b o n)
 refine AJ func62 rfl ntmps62 rfl AN ?_;refine P7 ?_;refine AY ?_;refine Bt ?_;refine Pn ?_;refine AT [3,6,7,8] (fun (zz:Nat×BitVec 64)=>⟨19,AQ [3,6,7,8] [.c (.val (BP (zz.2))),.c (.sl 0 o n cap 1),Aj (((n:Nat):Int)),Aj (((zz.1:Nat):Int))],[B1 (b)]⟩) (fun j3=>(j3,Hq b o j3)) (n) K_ ?_ ?_
 ·intro j3 hj3
  try dsimp only
  rw [Hq.eq_2,Q5]
  generalize Hq b o j3=X1 at*
  refine NJ ?_;refine dZ ?_;refine Fs ?_;refine AY ?_;refine AA (B2 (j:=8) rfl rfl) rfl ?_;refine AO ?_;refine bw ?_;refine FY ?_;refine Ad ?_;refine FW ?_;exact ⟨(j3+1,_),K_,rfl⟩
 ·try dsimp only
  generalize Hq b o n=Y2 at*
  refine Sc ?_;refine CU ?_;rw [hP.out]
  exact FB
attribute [irreducible] QU
def Jh(x:BitVec 64)(X1:AB 8)(j2:Nat):AB 8:=X1++[(x>>>(8*(7-j2))).setWidth 8]
def Cb(b:AB 8)(x:BitVec 64):Nat→AB 8
 |0=>b
 |j2+1=>Jh x (Cb b x j2) j2
@[simp] theorem He(b:AB 8)(x:BitVec 64)(j2:Nat):(Cb b x j2).length=b.length+j2:=by
 induction j2 with
 |zero=>(simp [Cb, *];done)
 |succ j2 ih=>rw [Cb.eq_2,Jh];(simp [ih];omega)
def DQ(b:AB 8)(x:BitVec 64):AB 8:=(Cb b x 8)
theorem Mo(b:AB 8)(n cap:Nat)(x:BitVec 64)(hb:b.length=n)(hn:n≤8796093022208):Ev prog (.call 101 [.c (.sl 0 0 n cap 1),.c (.val (BP x))] [CP (b)]) (.val (.c (.sl 1 0 (n+8) (n+8) 1)) [.dead,CP (DQ b x)]):=by
 have hP:=Hid.mk (DQ.eq_1 b x)
 try simp only [hb] at hP
 refine AJ func101 rfl ntmps101 rfl AN ?_;refine P7 ?_;refine A7 ?_;refine mK 0 rfl rfl AN rfl ?_;refine S_ ?_;refine AT [0,1,5] (fun (zz:Nat×AB 8)=>⟨19,AQ [0,1,5] [.c (.sl 1 0 (n+zz.1) (n+zz.1) 1),.c (.val (BP (x))),Aj (((7:Nat):Int)-((zz.1:Nat):Int))],[.dead,CP (zz.2)]⟩) (fun j2=>(j2,Cb b x j2)) (8) K_ ?_ ?_
 ·intro j2 hj2
  try dsimp only
  have hX1:(Cb b x j2).length=n+j2:=by rw [He b x _];try omega
  rw [Cb.eq_2,Jh]
  try simp only [hb]
  generalize Cb b x j2=X1 at*
  rw [show ((7:Nat):Int)-((j2:Nat):Int)=((7-j2:Nat):Int) from by omega]
  refine BC ?_;refine RA ?_;refine FK ?_;refine AO ?_;refine JP ?_;refine Qn ?_;refine SZ ?_;refine RZ ?_;refine Cl ?_;refine AY ?_;refine NG ?_;refine Bv ?_;refine ⟨(j2+1,_),(by
   dsimp only
   rw [show ((7:Nat):Int)-((j2+1:Nat):Int)=((7-j2:Nat):Int)-1 from by omega]
   kernel_rfl),rfl⟩
 ·try dsimp only
  have hY2:(Cb b x 8).length=n+8:=by rw [He b x _];try omega
  generalize Cb b x 8=Y2 at*
  refine BC ?_;refine PK ?_;refine CU ?_;rw [hP.out]
  exact FB
@[simp] theorem oZ(b:AB 8)(x:BitVec 64):(DQ b x).length=b.length+8:=by
 unfold DQ
 (simp [He, *];done)
attribute [irreducible] DQ
def GH:AB 32:=[1116352408#32,1899447441#32,3049323471#32,3921009573#32,961987163#32,1508970993#32,2453635748#32,2870763221#32,3624381080#32,310598401#32,607225278#32,1426881987#32,1925078388#32,2162078206#32,2614888103#32,3248222580#32,3835390401#32,4022224774#32,264347078#32,604807628#32,770255983#32,1249150122#32,1555081692#32,1996064986#32,2554220882#32,2821834349#32,2952996808#32,3210313671#32,3336571891#32,3584528711#32,113926993#32,338241895#32,666307205#32,773529912#32,1294757372#32,1396182291#32,1695183700#32,1986661051#32,2177026350#32,2456956037#32,2730485921#32,2820302411#32,3259730800#32,3345764771#32,3516065817#32,3600352804#32,4094571909#32,275423344#32,430227734#32,506948616#32,659060556#32,883997877#32,958139571#32,1322822218#32,1537002063#32,1747873779#32,1955562222#32,2024104815#32,2227730452#32,2361852424#32,2428436474#32,2756734187#32,3204031479#32,3329325298#32]
theorem bd:Ev prog (.call 60 [] []) (.val (.c (.sl 0 0 64 64 1)) [VZ (GH)]):=by
 have hP:=Hid.mk (GH.eq_1)
 refine AJ func60 rfl ntmps60 rfl AN ?_;refine P7 ?_;refine A2 (sj (l:=[1116352408#32,1899447441#32,3049323471#32,3921009573#32,961987163#32,1508970993#32,2453635748#32,2870763221#32,3624381080#32,310598401#32,607225278#32,1426881987#32,1925078388#32,2162078206#32,2614888103#32,3248222580#32,3835390401#32,4022224774#32,264347078#32,604807628#32,770255983#32,1249150122#32,1555081692#32,1996064986#32,2554220882#32,2821834349#32,2952996808#32,3210313671#32,3336571891#32,3584528711#32,113926993#32,338241895#32,666307205#32,773529912#32,1294757372#32,1396182291#32,1695183700#32,1986661051#32,2177026350#32,2456956037#32,2730485921#32,2820302411#32,3259730800#32,3345764771#32,3516065817#32,3600352804#32,4094571909#32,275423344#32,430227734#32,506948616#32,659060556#32,883997877#32,958139571#32,1322822218#32,1537002063#32,1747873779#32,1955562222#32,2024104815#32,2227730452#32,2361852424#32,2428436474#32,2756734187#32,3204031479#32,3329325298#32]) underlying108 tC rfl rfl D_ D_ AN) AK rfl ?_;refine A7 ?_;rw [hP.out]
 exact FB
@[simp] theorem sC:(GH).length=64:=by
 unfold GH
 (simp [*];done)
attribute [irreducible] GH
def GF:AB 64:=[4794697086780616226#64,8158064640168781261#64,13096744586834688815#64,16840607885511220156#64,4131703408338449720#64,6480981068601479193#64,10538285296894168987#64,12329834152419229976#64,15566598209576043074#64,1334009975649890238#64,2608012711638119052#64,6128411473006802146#64,8268148722764581231#64,9286055187155687089#64,11230858885718282805#64,13951009754708518548#64,16472876342353939154#64,17275323862435702243#64,1135362057144423861#64,2597628984639134821#64,3308224258029322869#64,5365058923640841347#64,6679025012923562964#64,8573033837759648693#64,10970295158949994411#64,12119686244451234320#64,12683024718118986047#64,13788192230050041572#64,14330467153632333762#64,15395433587784984357#64,489312712824947311#64,1452737877330783856#64,2861767655752347644#64,3322285676063803686#64,5560940570517711597#64,5996557281743188959#64,7280758554555802590#64,8532644243296465576#64,9350256976987008742#64,10552545826968843579#64,11727347734174303076#64,12113106623233404929#64,14000437183269869457#64,14369950271660146224#64,15101387698204529176#64,15463397548674623760#64,17586052441742319658#64,1182934255886127544#64,1847814050463011016#64,2177327727835720531#64,2830643537854262169#64,3796741975233480872#64,4115178125766777443#64,5681478168544905931#64,6601373596472566643#64,7507060721942968483#64,8399075790359081724#64,8693463985226723168#64,9568029438360202098#64,10144078919501101548#64,10430055236837252648#64,11840083180663258601#64,13761210420658862357#64,14299343276471374635#64,14566680578165727644#64,15097957966210449927#64,16922976911328602910#64,17689382322260857208#64,500013540394364858#64,748580250866718886#64,1242879168328830382#64,1977374033974150939#64,2944078676154940804#64,3659926193048069267#64,4368137639120453308#64,4836135668995329356#64,5532061633213252278#64,6448918945643986474#64,6902733635092675308#64,7801388544844847127#64]
theorem dy:Ev prog (.call 170 [] []) (.val (.c (.sl 0 0 80 80 1)) [CA (GF)]):=by
 have hP:=Hid.mk (GF.eq_1)
 refine AJ func170 rfl ntmps170 rfl AN ?_;refine P7 ?_;refine A2 (sZ (l:=[4794697086780616226#64,8158064640168781261#64,13096744586834688815#64,16840607885511220156#64,4131703408338449720#64,6480981068601479193#64,10538285296894168987#64,12329834152419229976#64,15566598209576043074#64,1334009975649890238#64,2608012711638119052#64,6128411473006802146#64,8268148722764581231#64,9286055187155687089#64,11230858885718282805#64,13951009754708518548#64,16472876342353939154#64,17275323862435702243#64,1135362057144423861#64,2597628984639134821#64,3308224258029322869#64,5365058923640841347#64,6679025012923562964#64,8573033837759648693#64,10970295158949994411#64,12119686244451234320#64,12683024718118986047#64,13788192230050041572#64,14330467153632333762#64,15395433587784984357#64,489312712824947311#64,1452737877330783856#64,2861767655752347644#64,3322285676063803686#64,5560940570517711597#64,5996557281743188959#64,7280758554555802590#64,8532644243296465576#64,9350256976987008742#64,10552545826968843579#64,11727347734174303076#64,12113106623233404929#64,14000437183269869457#64,14369950271660146224#64,15101387698204529176#64,15463397548674623760#64,17586052441742319658#64,1182934255886127544#64,1847814050463011016#64,2177327727835720531#64,2830643537854262169#64,3796741975233480872#64,4115178125766777443#64,5681478168544905931#64,6601373596472566643#64,7507060721942968483#64,8399075790359081724#64,8693463985226723168#64,9568029438360202098#64,10144078919501101548#64,10430055236837252648#64,11840083180663258601#64,13761210420658862357#64,14299343276471374635#64,14566680578165727644#64,15097957966210449927#64,16922976911328602910#64,17689382322260857208#64,500013540394364858#64,748580250866718886#64,1242879168328830382#64,1977374033974150939#64,2944078676154940804#64,3659926193048069267#64,4368137639120453308#64,4836135668995329356#64,5532061633213252278#64,6448918945643986474#64,6902733635092675308#64,7801388544844847127#64]) underlying199 wm rfl rfl D_ D_ AN) AK rfl ?_;refine A7 ?_;rw [hP.out]
 exact FB
@[simp] theorem sR:(GF).length=80:=by
 unfold GF
 (simp [*];done)
attribute [irreducible] GF
def NW(X1:AB 8):AB 8:=X1++[0#8]
def Ec(tx:AB 8):Nat→AB 8
 |0=>tx++[128#8]
 |j3+1=>NW (Ec tx j3)
@[simp] theorem LC(tx:AB 8)(j3:Nat):(Ec tx j3).length=(tx.length+1)+j3:=by
 induction j3 with
 |zero=>(simp [Ec, *];done)
 |succ j3 ih=>rw [Ec.eq_2,NW];(simp [ih];omega)
def Ic(tx:AB 8):AB 8:=DQ (Ec tx ((120-(tx.length+1)%64)%64)) ((BitVec.ofNat 64 tx.length)<<<3)
theorem jY(b:AB 8)(o n cap:Nat)(hb:o+n≤b.length)(hn:n≤4398046511104):Ev prog (.call 61 [.c (.sl 0 o n cap 1),Aj ((64:Nat):Int),Aj ((8:Nat):Int)] [B1 (b)]) (.val (.c (.sl 1 0 (((n+1)+(120-(n+1)%64)%64)+8) (((n+1)+(120-(n+1)%64)%64)+8) 1)) [B1 (b),CP (Ic (cut b o n))]):=by
 have hP:=Hid.mk (Ic.eq_1 (cut b o n))
 have htx:(cut b o n).length=n:=by rw [Cg];omega
 try simp only [htx] at hP
 refine AJ func61 rfl ntmps61 rfl AN ?_;refine P7 ?_;refine IZ ?_;refine AO ?_;refine Rj ?_;refine AY ?_;refine A2 (Wf (l:=[128#8]) underlying23 HL rfl rfl D_ D_ AN) AK rfl ?_;refine Cl ?_;refine A7 ?_;refine AT [0,1,2,7] (fun (zz:Nat×AB 8)=>⟨41,AQ [0,1,2,7] [.c (.sl 0 o n cap 1),Aj (((64:Nat):Int)),Aj (((8:Nat):Int)),.c (.sl 1 0 ((n+1)+zz.1) ((n+1)+zz.1) 1)],[B1 (b),CP (zz.2)]⟩) (fun j3=>(j3,Ec (cut b o n) j3)) ((120-(n+1)%64)%64) K_ ?_ ?_
 ·intro j3 hj3
  try dsimp only
  have hX1:(Ec (cut b o n) j3).length=(n+1)+j3:=by rw [LC (cut b o n) _];try omega
  rw [Ec.eq_2,NW]
  try simp only [htx]
  generalize Ec (cut b o n) j3=X1 at*
  refine Fv ?_;refine AO ?_;refine AA (IS (b:=64) rfl rfl O_ O_) rfl ?_;refine Fa ?_;refine AA (FN (a:=64) (b:=8) rfl rfl O_ O_) rfl ?_;refine AA (GL (b:=56) rfl rfl) rfl ?_;refine AW ?_;refine Ur ?_;refine Cl ?_;refine Bv ?_;exact ⟨(j3+1,_),K_,rfl⟩
 ·try dsimp only
  have hY2:(Ec (cut b o n) ((120-(n+1)%64)%64)).length=(n+1)+(120-(n+1)%64)%64:=by rw [LC (cut b o n) _];try omega
  generalize Ec (cut b o n) ((120-(n+1)%64)%64)=Y2 at*
  refine Fv ?_;refine AO ?_;refine AA (IS (b:=64) rfl rfl O_ O_) rfl ?_;refine Fa ?_;refine AA (FN (a:=64) (b:=8) rfl rfl O_ O_) rfl ?_;refine AA (GL (b:=56) rfl rfl) rfl ?_;refine AW ?_;refine Bt ?_;refine aQ ?_;refine AY ?_;refine AS ?_;refine AA (B4 (a:=8) (b:=16) rfl rfl) rfl ?_;refine Bv ?_;have hQ3:(DQ Y2 ((BitVec.ofNat 64 n)<<<3)).length=((n+1)+(120-(n+1)%64)%64)+8:=Au
  refine BD ?_;refine AA (B2 (j:=3) rfl rfl) rfl ?_;refine DK (Eg (bs:=[1]) (Mo Y2 ((n+1)+(120-(n+1)%64)%64) ((n+1)+(120-(n+1)%64)%64) ((BitVec.ofNat 64 n)<<<3) AD AD) dW K_ rfl rfl Bb AK) rfl ?_;refine AY ?_;refine A7 ?_;rw [hP.out]
  exact FB
@[simp] theorem vU(tx:AB 8):(Ic tx).length=((tx.length+1)+(120-(tx.length+1)%64)%64)+8:=by
 unfold Ic
 (simp [LC, *];done)
attribute [irreducible] Ic
def OM(tx:AB 8)(j4:Nat)(X4:AB 32)(j8:Nat):AB 32:=if j8<16 then put X4 j8 ((QU (Ic tx) ((64*j4)+(4*j8)) (((4*j8)+4)-(4*j8))).setWidth 32) else put X4 j8 ((((nth X4 (j8-16))+(((DE (nth X4 (j8-15)) (-7))^^^(DE (nth X4 (j8-15)) (-18)))^^^((nth X4 (j8-15))>>>3)))+(nth X4 (j8-7)))+(((DE (nth X4 (j8-2)) (-17))^^^(DE (nth X4 (j8-2)) (-19)))^^^((nth X4 (j8-2))>>>10)))
def EX(tx:AB 8)(j4:Nat):Nat→AB 32
 |0=>Nc 64
 |j8+1=>OM tx j4 (EX tx j4 j8) j8
@[simp] theorem H7(tx:AB 8)(j4 j8:Nat):(EX tx j4 j8).length=64:=by
 induction j8 with
 |zero=>(simp [EX, *];done)
 |succ j8 ih=>rw [EX.eq_2,OM];(split<;>first | (simp [ih];done) | (simp [ih];omega) | (simp [*];done))
def Mx(Y5 X6:AB 32)(j19:Nat):AB 32:=[(((((nth X6 7)+(((DE (nth X6 4) (-6))^^^(DE (nth X6 4) (-11)))^^^(DE (nth X6 4) (-25))))+(((nth X6 4)&&&(nth X6 5))^^^((~~~(nth X6 4))&&&(nth X6 6))))+(nth GH j19))+(nth Y5 j19))+((((DE (nth X6 0) (-2))^^^(DE (nth X6 0) (-13)))^^^(DE (nth X6 0) (-22)))+((((nth X6 0)&&&(nth X6 1))^^^((nth X6 0)&&&(nth X6 2)))^^^((nth X6 1)&&&(nth X6 2)))),nth X6 0,nth X6 1,nth X6 2,(nth X6 3)+(((((nth X6 7)+(((DE (nth X6 4) (-6))^^^(DE (nth X6 4) (-11)))^^^(DE (nth X6 4) (-25))))+(((nth X6 4)&&&(nth X6 5))^^^((~~~(nth X6 4))&&&(nth X6 6))))+(nth GH j19))+(nth Y5 j19)),nth X6 4,nth X6 5,nth X6 6]
def Dg(X3 Y5:AB 32):Nat→AB 32
 |0=>X3
 |j19+1=>Mx Y5 (Dg X3 Y5 j19) j19
theorem HI(X3 Y5:AB 32)(hX3:X3.length=8)(_hY5:Y5.length=64)(j19:Nat):(Dg X3 Y5 j19).length=8:=by
 induction j19 with
 |zero=>(simp [Dg, *];done)
 |succ j19 ih=>rw [Dg.eq_2,Mx];(simp;done)
def MQ(Y7 X8:AB 32)(j29:Nat):AB 32:=put X8 j29 ((nth X8 j29)+(nth Y7 j29))
def Dk(X3 Y7:AB 32):Nat→AB 32
 |0=>X3
 |j29+1=>MQ Y7 (Dk X3 Y7 j29) j29
theorem Gj(X3 Y7:AB 32)(hX3:X3.length=8)(j29:Nat):(Dk X3 Y7 j29).length=8:=by
 induction j29 with
 |zero=>(simp [Dk, *];done)
 |succ j29 ih=>rw [Dk.eq_2,MQ];(simp [ih];done)
def Nh(tx:AB 8)(X3:AB 32)(j4:Nat):AB 32:=(Dk X3 (Dg X3 (EX tx j4 64) 64) 8)
def Eb(tx:AB 8):Nat→AB 32
 |0=>[1779033703#32,3144134277#32,1013904242#32,2773480762#32,1359893119#32,2600822924#32,528734635#32,1541459225#32]
 |j4+1=>Nh tx (Eb tx j4) j4
@[simp] theorem Kn(tx:AB 8)(j4:Nat):(Eb tx j4).length=8:=by
 induction j4 with
 |zero=>(simp [Eb, *];done)
 |succ j4 ih=>rw [Eb.eq_2,Nh];(simp [Gj, *];done)
def Ms(Y11:AB 32)(X12:AB 8)(j35:Nat):AB 8:=put X12 j35 (((nth Y11 (j35/4))>>>(24-(8*(j35%4)))).setWidth 8)
def DU(Y11:AB 32):Nat→AB 8
 |0=>Am 32
 |j35+1=>Ms Y11 (DU Y11 j35) j35
@[simp] theorem JW(Y11:AB 32)(j35:Nat):(DU Y11 j35).length=32:=by
 induction j35 with
 |zero=>(simp [DU, *];done)
 |succ j35 ih=>rw [DU.eq_2,Ms];(simp [ih];done)
def Aa(tx:AB 8):AB 8:=(DU (Eb tx ((tx.length+72)/64)) 32)
theorem JU(k:r)(h:Hid r→g:=by intro h;refine S_ ?_;refine Ac ?_;refine A2 (BR WV AN) AK rfl ?_;exact h.out):g:=h ⟨k⟩
theorem SN(k:r)(h:Hid r→g:=by intro h;refine AE (AP rfl rfl underlying111 CW O_) rfl ?_;exact h.out):g:=h ⟨k⟩
theorem Ky(k:r)(h:Hid r→g:=by intro h;refine AE (Ae rfl) rfl ?_;refine AE (Ae rfl) rfl ?_;refine Bc ?_;exact h.out):g:=h ⟨k⟩
theorem Kr(k:r)(h:Hid r→g:=by intro h;refine AA (O9 rfl rfl) rfl ?_;exact h.out):g:=h ⟨k⟩
theorem R9(k:r)(h:Hid r→g:=by intro h;refine EQ 6 mixed K_ rfl rfl rfl ?_;exact h.out):g:=h ⟨k⟩
theorem eA(k:r)(h:Hid r→g:=by intro h;refine AA (AP (j:=1) rfl rfl underlying107 CW O_) rfl ?_;exact h.out):g:=h ⟨k⟩
theorem K2(k:r)(h:Hid r→g:=by intro h;refine AA (Un rfl rfl YZ Dp) rfl ?_;exact h.out):g:=h ⟨k⟩
theorem eB(k:r)(h:Hid r→g:=by intro h;refine AA (AP (j:=2) rfl rfl underlying107 CW O_) rfl ?_;exact h.out):g:=h ⟨k⟩
theorem cP(k:r)(h:Hid r→g:=by intro h;refine AE (AP rfl rfl underlying107 CW O_) rfl ?_;exact h.out):g:=h ⟨k⟩
theorem E7(k:r)(h:Hid r→g:=by intro h;refine A2 (BR WV AN) AK rfl ?_;exact h.out):g:=h ⟨k⟩
theorem Rc(k:r)(h:Hid r→g:=by intro h;refine AA (BE (b:=32) rfl rfl) rfl ?_;exact h.out):g:=h ⟨k⟩
theorem QB(k:r)(h:Hid r→g:=by intro h;refine AA (AP rfl rfl underlying37 CE O_) rfl ?_;exact h.out):g:=h ⟨k⟩
theorem Rn(k:r)(h:Hid r→g:=by intro h;refine AA (BE (a:=32) (b:=32) rfl rfl) rfl ?_;exact h.out):g:=h ⟨k⟩
theorem HV(k:r)(h:Hid r→g:=by intro h;refine AM ?_;refine S_ ?_;refine Ac ?_;refine AA (Bi rfl rfl K8 KW C7 D_) rfl ?_;exact h.out):g:=h ⟨k⟩
theorem EW(k:r)(h:Hid r→g:=by intro h;refine B0 rfl rfl rfl rfl KW C7 C7 AK ?_;refine AM ?_;refine S_ ?_;exact h.out):g:=h ⟨k⟩
theorem Eo(h:g:=by exact fS (Iy rfl rfl K8 KW C7 D_) (by (kernel_rfl))):g:=h
theorem jX(b:AB 8)(o n cap:Nat)(hb:o+n≤b.length)(hn:n≤2199023255552):Ev prog (.call 38 [.c (.sl 0 o n cap 1)] [B1 (b)]) (.val (Co (Aa (cut b o n))) [B1 (b)]):=by
 have hP:=Hid.mk (Aa.eq_1 (cut b o n))
 have htx:(cut b o n).length=n:=by rw [Cg];omega
 try simp only [htx] at hP
 refine AJ func38 rfl ntmps38 rfl AN ?_;refine JU ?_;refine AS ?_;refine AA (gI (l:=[1779033703#32,3144134277#32,1013904242#32,2773480762#32,1359893119#32,2600822924#32,528734635#32,1541459225#32]) jq underlying107 CW rfl rfl D_) rfl ?_;refine A2 (BR kG AN) AK rfl ?_;refine B0 rfl rfl rfl rfl Yb C7 C7 AK ?_;refine AM ?_;have hQ1:(GH).length=64:=Au
 refine AG ?_;refine BL (bd) yX ?_;refine Bv ?_;have hQ2:(Ic (cut b o n)).length=((n+1)+(120-(n+1)%64)%64)+8:=Au
 refine BC ?_;refine Mq (jY b o n cap AD AD) sH ?_;refine A7 ?_;refine AT [2,3,4,5] (fun (zz:Nat×AB 32)=>⟨201,AQ [2,3,4,5] [Ai 1,Ai 2,.c (.sl 3 0 64 64 1),.c (.sl 4 (64*zz.1) ((((n+1)+(120-(n+1)%64)%64)+8)-64*zz.1) ((((n+1)+(120-(n+1)%64)%64)+8)-64*zz.1) 1)],[B1 (b),CP (Am 32),VZ (zz.2),VZ (GH),CP (Ic (cut b o n))]⟩) (fun j4=>(j4,Eb (cut b o n) j4)) ((n+72)/64) K_ ?_ ?_
 ·intro j4 hj4
  try dsimp only
  have hX3:(Eb (cut b o n) j4).length=8:=by rw [Kn (cut b o n) _];try omega
  rw [Eb.eq_2,Nh]
  try simp only [htx]
  generalize Eb (cut b o n) j4=X3 at*
  refine Fv ?_;refine MU ?_;refine AS ?_;refine A2 (BR uu AN) AK rfl ?_;refine DF ?_;refine AT [2,3,4,5,6,32] (fun (zz:Nat×AB 32)=>⟨201,AQ [2,3,4,5,6,32] [Ai 1,Ai 2,.c (.sl 3 0 64 64 1),.c (.sl 4 (64*j4) ((((n+1)+(120-(n+1)%64)%64)+8)-64*j4) ((((n+1)+(120-(n+1)%64)%64)+8)-64*j4) 1),Ai 5,Aj (((zz.1:Nat):Int))],[B1 (b),CP (Am 32),VZ (X3),VZ (GH),CP (Ic (cut b o n)),VZ (zz.2)]⟩) (fun j8=>(j8,EX (cut b o n) j4 j8)) (64) K_ ?_ ?_
  ·intro j8 hj8
   try dsimp only
   have hX4:(EX (cut b o n) j4 j8).length=64:=by rw [H7 (cut b o n) j4 _];try omega
   rw [EX.eq_2,OM]
   try simp only [htx]
   generalize EX (cut b o n) j4 j8=X4 at*
   refine AG ?_;refine Rb ?_;refine AW ?_;refine AY ?_;refine AA (BE (b:=16) rfl rfl) rfl ?_;refine E6 ?_;by_cases hc5:j8<16
   ·try simp only [if_pos hc5] at*
    refine EH rfl (decide_eq_true hc5) ?_;refine BD ?_;refine AO ?_;refine SI ?_;refine AO ?_;refine SI ?_;refine UT ?_;refine AA (Yj rfl underlying23 CE rfl rfl O_ O_) rfl ?_;refine Bq (AZ (bs:=[4]) (UE (Ic (cut b o n)) ((64*j4)+(4*j8)) (((4*j8)+4)-(4*j8)) (((((n+1)+(120-(n+1)%64)%64)+8)-64*j4)-(4*j8)) AD AD) sM K_ K_ rfl Bb) AK rfl ?_;refine dN ?_;refine AA (AP rfl rfl underlying111 CW O_) rfl ?_;refine LP rfl rfl rfl CW Dp AK ?_;refine Do ?_;exact ⟨(j8+1,_),K_,rfl⟩
   ·try simp only [if_neg hc5] at*
    refine Bn rfl (decide_eq_false hc5) ?_;refine S_ ?_;refine RG ?_;refine A0 ?_;refine AE (FN (b:=15) rfl rfl O_ O_) rfl ?_;refine SN ?_;refine GM ?_;refine A0 ?_;refine AE (FN (b:=2) rfl rfl O_ O_) rfl ?_;refine SN ?_;refine GM ?_;refine Ky ?_;refine AW ?_;refine BL (C6 (nth X4 (j8-15)) (-7)) KR ?_;refine AO ?_;refine BL (C6 (nth X4 (j8-15)) (-18)) KR ?_;refine Kr ?_;refine AO ?_;refine AA (Q7 (j:=3) rfl rfl) rfl ?_;refine Kr ?_;refine AY ?_;refine BL (C6 (nth X4 (j8-2)) (-17)) KR ?_;refine AO ?_;refine BL (C6 (nth X4 (j8-2)) (-19)) KR ?_;refine Kr ?_;refine AO ?_;refine AA (Q7 (j:=10) rfl rfl) rfl ?_;refine Kr ?_;refine A7 ?_;refine EQ 15 mixed K_ rfl rfl rfl ?_;refine By ?_;refine AE (FN (b:=16) rfl rfl O_ O_) rfl ?_;refine SN ?_;refine GM ?_;refine A0 ?_;refine Hh ?_;refine A0 ?_;refine AE (FN (b:=7) rfl rfl O_ O_) rfl ?_;refine SN ?_;refine GM ?_;refine Hh ?_;refine A0 ?_;refine Hh ?_;refine SN ?_;refine LB ?_;refine Do ?_;exact ⟨(j8+1,_),K_,rfl⟩
  ·try dsimp only
   have hY6:(EX (cut b o n) j4 64).length=64:=by rw [H7 (cut b o n) j4 _];try omega
   generalize EX (cut b o n) j4 64=Y6 at*
   refine AG ?_;refine Rh ?_;refine AS ?_;refine AA (Bi rfl rfl qS Yb C7 D_) rfl ?_;refine A2 (BR kG AN) AK rfl ?_;refine B0 rfl rfl rfl rfl Yb C7 C7 AK ?_;refine DF ?_;refine AT [2,3,4,5,6,12,89] (fun (zz:Nat×AB 32)=>⟨201,AQ [2,3,4,5,6,12,89] [Ai 1,Ai 2,.c (.sl 3 0 64 64 1),.c (.sl 4 (64*j4) ((((n+1)+(120-(n+1)%64)%64)+8)-64*j4) ((((n+1)+(120-(n+1)%64)%64)+8)-64*j4) 1),Ai 5,Ai 6,Aj (((zz.1:Nat):Int))],[B1 (b),CP (Am 32),VZ (X3),VZ (GH),CP (Ic (cut b o n)),VZ (Y6),VZ (zz.2)]⟩) (fun j19=>(j19,Dg X3 Y6 j19)) (64) K_ ?_ ?_
   ·intro j19 hj19
    try dsimp only
    have hX7:(Dg X3 Y6 j19).length=8:=by rw [HI X3 Y6 hX3 hY6 _];try omega
    rw [Dg.eq_2,Mx]
    try simp only [htx]
    generalize Dg X3 Y6 j19=X7 at*
    refine AG ?_;refine Rb ?_;refine CU ?_;refine R9 ?_;refine AE (AP (j:=4) rfl rfl underlying107 CW O_) rfl ?_;refine GM ?_;refine AE (AP (j:=0) rfl rfl underlying107 CW O_) rfl ?_;refine GM ?_;refine Ky ?_;refine AW ?_;refine BL (C6 (nth X7 4) (-6)) KR ?_;refine AO ?_;refine BL (C6 (nth X7 4) (-11)) KR ?_;refine Kr ?_;refine AO ?_;refine BL (C6 (nth X7 4) (-25)) KR ?_;refine Kr ?_;refine A7 ?_;refine EQ 25 mixed K_ rfl rfl rfl ?_;refine AE (AP (j:=7) rfl rfl underlying107 CW O_) rfl ?_;refine GM ?_;refine A0 ?_;refine Hh ?_;refine A0 ?_;refine AE (AP (j:=5) rfl rfl underlying107 CW O_) rfl ?_;refine GM ?_;refine AE (Qa rfl rfl) rfl ?_;refine A0 ?_;refine AE (ic rfl) rfl ?_;refine AE (AP (j:=6) rfl rfl underlying107 CW O_) rfl ?_;refine GM ?_;refine AE (Qa rfl rfl) rfl ?_;refine AE (O9 rfl rfl) rfl ?_;refine Hh ?_;refine By ?_;refine AE (Ff rfl rfl underlying108 CW O_) rfl ?_;refine GM ?_;refine Hh ?_;refine A0 ?_;refine SN ?_;refine GM ?_;refine Hh ?_;refine Mh ?_;refine AW ?_;refine BL (C6 (nth X7 0) (-2)) KR ?_;refine AO ?_;refine BL (C6 (nth X7 0) (-13)) KR ?_;refine Kr ?_;refine AO ?_;refine BL (C6 (nth X7 0) (-22)) KR ?_;refine Kr ?_;refine BB ?_;refine eA ?_;refine K2 ?_;refine AA (Qa rfl rfl) rfl ?_;refine AO ?_;refine eB ?_;refine K2 ?_;refine AA (Qa rfl rfl) rfl ?_;refine Kr ?_;refine eA ?_;refine K2 ?_;refine eB ?_;refine K2 ?_;refine AA (Qa rfl rfl) rfl ?_;refine Kr ?_;refine AA (RC rfl rfl) rfl ?_;refine BB ?_;refine AA (RC rfl rfl) rfl ?_;refine AO ?_;refine eA ?_;refine K2 ?_;refine eB ?_;refine K2 ?_;refine AA (AP (j:=3) rfl rfl underlying107 CW O_) rfl ?_;refine K2 ?_;refine AO ?_;refine AA (RC rfl rfl) rfl ?_;refine AO ?_;refine AA (AP (j:=5) rfl rfl underlying107 CW O_) rfl ?_;refine K2 ?_;refine AA (AP (j:=6) rfl rfl underlying107 CW O_) rfl ?_;refine K2 ?_;refine AA (gI (l:=[_,_,_,_,_,_,_,_]) jq underlying107 CW rfl rfl D_) rfl ?_;refine B0 rfl rfl rfl rfl Yb C7 C7 AK ?_;refine Do ?_;exact ⟨(j19+1,_),K_,rfl⟩
   ·try dsimp only
    have hY8:(Dg X3 Y6 64).length=8:=by rw [HI X3 Y6 hX3 hY6 _];try omega
    generalize Dg X3 Y6 64=Y8 at*
    refine AG ?_;refine Rh ?_;refine DF ?_;refine AT [2,3,4,5,12,172] (fun (zz:Nat×AB 32)=>⟨201,AQ [2,3,4,5,12,172] [Ai 1,Ai 2,.c (.sl 3 0 64 64 1),.c (.sl 4 (64*j4) ((((n+1)+(120-(n+1)%64)%64)+8)-64*j4) ((((n+1)+(120-(n+1)%64)%64)+8)-64*j4) 1),Ai 5,Aj (((zz.1:Nat):Int))],[B1 (b),CP (Am 32),VZ (zz.2),VZ (GH),CP (Ic (cut b o n)),VZ (Y8)]⟩) (fun j29=>(j29,Dk X3 Y8 j29)) (8) K_ ?_ ?_
    ·intro j29 hj29
     try dsimp only
     have hX9:(Dk X3 Y8 j29).length=8:=by rw [Gj X3 Y8 hX3 _];try omega
     rw [Dk.eq_2,MQ]
     try simp only [htx]
     generalize Dk X3 Y8 j29=X9 at*
     refine AG ?_;refine Pz ?_;refine CU ?_;refine QA ?_;refine A0 ?_;refine cP ?_;refine GM ?_;refine A0 ?_;refine cP ?_;refine GM ?_;refine Hh ?_;refine cP ?_;refine LB ?_;refine Do ?_;exact ⟨(j29+1,_),K_,rfl⟩
    ·try dsimp only
     have hY10:(Dk X3 Y8 8).length=8:=by rw [Gj X3 Y8 hX3 _];try omega
     generalize Dk X3 Y8 8=Y10 at*
     refine AG ?_;refine Tn ?_;refine AW ?_;refine AA (Yj (l:=64) rfl underlying23 CE rfl rfl O_ O_) rfl ?_;refine Bv ?_;exact ⟨(j4+1,_),K_,rfl⟩
 ·try dsimp only
  have hY11:(Eb (cut b o n) ((n+72)/64)).length=8:=by rw [Kn (cut b o n) _];try omega
  generalize Eb (cut b o n) ((n+72)/64)=Y11 at*
  refine Fv ?_;refine MU ?_;refine AS ?_;refine E7 ?_;refine DF ?_;refine AT [2,3,21,184] (fun (zz:Nat×AB 8)=>⟨201,AQ [2,3,21,184] [Ai 1,Ai 2,Ai 3,Aj (((zz.1:Nat):Int))],[B1 (b),CP (Am 32),VZ (Y11),CP (zz.2)]⟩) (fun j35=>(j35,DU Y11 j35)) (32) K_ ?_ ?_
  ·intro j35 hj35
   try dsimp only
   have hX12:(DU Y11 j35).length=32:=by rw [JW Y11 _];try omega
   rw [DU.eq_2,Ms]
   try simp only [htx]
   generalize DU Y11 j35=X12 at*
   refine AG ?_;refine Rc ?_;refine AW ?_;refine BB ?_;refine AA (SD (b:=4) rfl rfl O_ O_) rfl ?_;refine AA (AP rfl rfl underlying107 CW O_) rfl ?_;refine K2 ?_;refine AO ?_;refine AA (IS (b:=4) rfl rfl O_ O_) rfl ?_;refine JP ?_;refine AA (FN (a:=24) rfl rfl O_ O_) rfl ?_;refine AA (Q7 rfl rfl) rfl ?_;refine AA (HA rfl underlying106 underlying5 (sA _)) rfl ?_;refine QB ?_;refine Cq ?_;refine Do ?_;exact ⟨(j35+1,_),K_,rfl⟩
  ·try dsimp only
   have hY13:(DU Y11 32).length=32:=by rw [JW Y11 _];try omega
   generalize DU Y11 32=Y13 at*
   refine AG ?_;refine Rn ?_;refine HV ?_;refine EW ?_;rw [hP.out]
   exact Eo
theorem Hb(b:AB 8)(n cap:Nat)(hb:b.length=n)(hn:n≤2199023255552):Ev prog (.call 38 [.c (.sl 0 0 n cap 1)] [B1 (b)]) (.val (Co (Aa b)) [B1 (b)]):=by
 have h_:=jX b 0 n cap O_ hn
 rw [HD hb] at h_
 exact h_
@[simp] theorem Av(tx:AB 8):(Aa tx).length=32:=by
 unfold Aa
 (simp [JW, *];done)
attribute [irreducible] Aa
def I3(X3 X4:AB 8)(j8:Nat):AB 8×AB 8:=(put X3 j8 ((nth X3 j8)^^^54#8),put X4 j8 ((nth X4 j8)^^^92#8))
def BY(key:AB 8):Nat→AB 8×AB 8
 |0=>(over (Am 64) 0 (cut key 0 (min key.length 64)),over (Am 64) 0 (cut key 0 (min key.length 64)))
 |j8+1=>I3 (BY key j8).1 (BY key j8).2 j8
@[simp] theorem If(key:AB 8)(j8:Nat):(BY key j8).1.length=64:=by
 induction j8 with
 |zero=>(simp [BY, *];omega)
 |succ j8 ih=>rw [BY.eq_2,I3];(simp [ih];done)
@[simp] theorem Ii(key:AB 8)(j8:Nat):(BY key j8).2.length=64:=by
 induction j8 with
 |zero=>(simp [BY, *];omega)
 |succ j8 ih=>rw [BY.eq_2,I3];(simp [ih];done)
def MD(key b:AB 8):AB 8:=Aa (((BY key 64).2)++(Aa (((BY key 64).1)++b)))
theorem Jk(k:r)(h:Hid r→g:=by intro h;refine EQ 4 mixed K_ rfl rfl rfl ?_;exact h.out):g:=h ⟨k⟩
theorem XQ(k:r)(h:Hid r→g:=by intro h;refine Jz (om (a:=64) (b:=64) underlying23 rfl rfl HL wE O_ O_ O_ AN) AK rfl ?_;exact h.out):g:=h ⟨k⟩
theorem EO(k:r)(h:Hid r→g:=by intro h;refine A2 (BR WV AN) AK rfl ?_;refine B0 rfl rfl rfl rfl KW C7 C7 AK ?_;exact h.out):g:=h ⟨k⟩
theorem Kl(k:r)(h:Hid r→g:=by intro h;refine AA (HX (l:=0) (h:=32) (len:=32) (cp:=32) rfl underlying37 CE rfl rfl rfl O_ O_ Rx rfl rfl) rfl ?_;exact h.out):g:=h ⟨k⟩
theorem Is(k:r)(h:Hid r→g:=by intro h;refine B0 rfl rfl rfl rfl KW C7 C7 AK ?_;exact h.out):g:=h ⟨k⟩
theorem bi(key:AB 8)(kn kcap:Nat)(b:AB 8)(n cap:Nat)(hkey:key.length=kn)(hkn:kn≤1099511627776)(hb:b.length=n)(hn:n≤1099511627776)(hshort:kn≤64):Ev prog (.call 116 [.c (.sl 0 0 kn kcap 1),.c (.sl 1 0 n cap 1)] [B1 (key),B1 (b)]) (.val (Co (MD key b)) [B1 (key),B1 (b)]):=by
 have hP:=Hid.mk (MD.eq_1 key b)
 subst hkey
 subst hb
 refine AJ func116 rfl ntmps116 rfl AN ?_;refine JU ?_;refine AW ?_;refine Bt ?_;refine AA (Il (b:=64) rfl rfl) rfl ?_;refine E6 ?_;refine Bn rfl (decide_eq_false O_) ?_;refine S_ ?_;refine Jk ?_;refine XQ ?_;refine XQ ?_;refine Ky ?_;refine FK ?_;refine fR rfl rfl rfl rfl underlying23 CE Wo Wo yh AK rfl ?_;refine AM ?_;have hQ1:(over (Am 64) 0 (cut key 0 (min key.length 64))).length=64:=Au
 refine BD ?_;refine fR rfl rfl rfl rfl underlying23 CE Wo Wo yh AK rfl ?_;refine AM ?_;have hQ2:(over (Am 64) 0 (cut key 0 (min key.length 64))).length=64:=Au
 refine Fv ?_;refine Pn ?_;refine AT [1,4,6,7,25,26] (fun (zz:Nat×AB 8×AB 8)=>⟨50,AQ [1,4,6,7,25,26] [.c (.sl 1 0 b.length cap 1),Ai 2,.c (.sl 3 0 64 64 1),.c (.sl 4 0 64 64 1),Aj (((64:Nat):Int)),Aj (((zz.1:Nat):Int))],[B1 (key),B1 (b),CP (Am 32),CP (zz.2.1),CP (zz.2.2)]⟩) (fun j8=>(j8,BY key j8)) (64) K_ ?_ ?_
 ·intro j8 hj8
  try dsimp only
  have hX3:(BY key j8).1.length=64:=by rw [If key _];try omega
  have hX4:(BY key j8).2.length=64:=by rw [Ii key _];try omega
  rw [BY.eq_2,I3]
  generalize BY key j8=Z5 at*
  obtain ⟨X3,X4⟩:=Z5
  try dsimp only at*
  refine AG ?_;refine Rb ?_;refine AW ?_;refine BB ?_;refine Ig ?_;refine Fs ?_;refine AA (VP (b:=54#8) rfl rfl) rfl ?_;refine Ig ?_;refine Cq ?_;refine FK ?_;refine Ig ?_;refine Fs ?_;refine AA (VP (b:=92#8) rfl rfl) rfl ?_;refine Ig ?_;refine Cq ?_;refine Do ?_;exact ⟨(j8+1,_),K_,rfl⟩
 ·try dsimp only
  have hY6:(BY key 64).1.length=64:=by rw [If key _];try omega
  have hY7:(BY key 64).2.length=64:=by rw [Ii key _];try omega
  generalize BY key 64=Z8 at*
  obtain ⟨Y6,Y7⟩:=Z8
  try dsimp only at*
  refine AG ?_;refine Rh ?_;refine FK ?_;refine Cl ?_;refine Bq (AZ (bs:=[5]) (Hb (Y6++b) (64+b.length) (64+b.length) AD AD) RF K_ K_ rfl Bb) AK rfl ?_;refine EO ?_;refine AM ?_;have hQ9:(Aa (Y6++b)).length=32:=Au
  refine BC ?_;refine Kl ?_;refine Cl ?_;refine Bq (AZ (bs:=[7]) (Hb (Y7++(Aa (Y6++b))) 96 96 AD AD) RF K_ K_ rfl Bb) AK rfl ?_;refine Is ?_;refine AM ?_;have hQ10:(Aa (Y7++(Aa (Y6++b)))).length=32:=Au
  refine S_ ?_;rw [hP.out]
  exact Eo
@[simp] theorem rz(key b:AB 8):(MD key b).length=32:=by
 unfold MD
 (simp [*];done)
attribute [irreducible] MD
def I4(X4 X5:AB 8)(j8:Nat):AB 8×AB 8:=(put X4 j8 ((nth X4 j8)^^^54#8),put X5 j8 ((nth X5 j8)^^^92#8))
def BV(key:AB 8):Nat→AB 8×AB 8
 |0=>(over (Am 64) 0 (Aa key),over (Am 64) 0 (Aa key))
 |j8+1=>I4 (BV key j8).1 (BV key j8).2 j8
@[simp] theorem Ie(key:AB 8)(j8:Nat):(BV key j8).1.length=64:=by
 induction j8 with
 |zero=>(simp [BV, *];done)
 |succ j8 ih=>rw [BV.eq_2,I4];(simp [ih];done)
@[simp] theorem IV(key:AB 8)(j8:Nat):(BV key j8).2.length=64:=by
 induction j8 with
 |zero=>(simp [BV, *];done)
 |succ j8 ih=>rw [BV.eq_2,I4];(simp [ih];done)
def Mc(key b:AB 8):AB 8:=Aa (((BV key 64).2)++(Aa (((BV key 64).1)++b)))
theorem cS(key:AB 8)(kn kcap:Nat)(b:AB 8)(n cap:Nat)(hkey:key.length=kn)(hkn:kn≤1099511627776)(hb:b.length=n)(hn:n≤1099511627776)(hlong:64<kn):Ev prog (.call 116 [.c (.sl 0 0 kn kcap 1),.c (.sl 1 0 n cap 1)] [B1 (key),B1 (b)]) (.val (Co (Mc key b)) [B1 (key),B1 (b)]):=by
 have hP:=Hid.mk (Mc.eq_1 key b)
 subst hkey
 subst hb
 refine AJ func116 rfl ntmps116 rfl AN ?_;refine JU ?_;refine AW ?_;refine Bt ?_;refine AA (Il (b:=64) rfl rfl) rfl ?_;refine E6 ?_;refine EH rfl (decide_eq_true O_) ?_;refine BC ?_;refine Mq (Hb key key.length kcap AD AD) RF ?_;refine EO ?_;refine AM ?_;have hQ1:(Aa key).length=32:=Au
 refine AG ?_;refine Kl ?_;refine A7 ?_;refine Jk ?_;refine XQ ?_;refine XQ ?_;refine Ky ?_;refine FK ?_;refine ae rfl rfl rfl rfl underlying23 CE Wo Hn yh rfl AK rfl ?_;refine AM ?_;have hQ2:(over (Am 64) 0 (Aa key)).length=64:=Au
 refine BD ?_;refine ae rfl rfl rfl rfl underlying23 CE Wo Hn yh rfl AK rfl ?_;refine AM ?_;have hQ3:(over (Am 64) 0 (Aa key)).length=64:=Au
 refine Fv ?_;refine Pn ?_;refine AT [1,4,6,7,25,26] (fun (zz:Nat×AB 8×AB 8)=>⟨50,AQ [1,4,6,7,25,26] [.c (.sl 1 0 b.length cap 1),Ai 2,.c (.sl 3 0 64 64 1),.c (.sl 4 0 64 64 1),Aj (((64:Nat):Int)),Aj (((zz.1:Nat):Int))],[B1 (key),B1 (b),CP (Am 32),CP (zz.2.1),CP (zz.2.2)]⟩) (fun j8=>(j8,BV key j8)) (64) K_ ?_ ?_
 ·intro j8 hj8
  try dsimp only
  have hX4:(BV key j8).1.length=64:=by rw [Ie key _];try omega
  have hX5:(BV key j8).2.length=64:=by rw [IV key _];try omega
  rw [BV.eq_2,I4]
  generalize BV key j8=Z6 at*
  obtain ⟨X4,X5⟩:=Z6
  try dsimp only at*
  refine AG ?_;refine Rb ?_;refine AW ?_;refine BB ?_;refine Ig ?_;refine Fs ?_;refine AA (VP (b:=54#8) rfl rfl) rfl ?_;refine Ig ?_;refine Cq ?_;refine FK ?_;refine Ig ?_;refine Fs ?_;refine AA (VP (b:=92#8) rfl rfl) rfl ?_;refine Ig ?_;refine Cq ?_;refine Do ?_;exact ⟨(j8+1,_),K_,rfl⟩
 ·try dsimp only
  have hY7:(BV key 64).1.length=64:=by rw [Ie key _];try omega
  have hY8:(BV key 64).2.length=64:=by rw [IV key _];try omega
  generalize BV key 64=Z9 at*
  obtain ⟨Y7,Y8⟩:=Z9
  try dsimp only at*
  refine AG ?_;refine Rh ?_;refine FK ?_;refine Cl ?_;refine Bq (AZ (bs:=[5]) (Hb (Y7++b) (64+b.length) (64+b.length) AD AD) RF K_ K_ rfl Bb) AK rfl ?_;refine EO ?_;refine AM ?_;have hQ10:(Aa (Y7++b)).length=32:=Au
  refine BC ?_;refine Kl ?_;refine Cl ?_;refine Bq (AZ (bs:=[7]) (Hb (Y8++(Aa (Y7++b))) 96 96 AD AD) RF K_ K_ rfl Bb) AK rfl ?_;refine Is ?_;refine AM ?_;have hQ11:(Aa (Y8++(Aa (Y7++b)))).length=32:=Au
  refine S_ ?_;rw [hP.out]
  exact Eo
@[simp] theorem rx(key b:AB 8):(Mc key b).length=32:=by
 unfold Mc
 (simp [*];done)
attribute [irreducible] Mc
def Gq(key b:AB 8):AB 8:=if 64<key.length then Mc key b else MD key b
@[simp] theorem tN(key b:AB 8):(Gq key b).length=32:=by unfold Gq;split<;>simp
theorem V8(key:AB 8)(kn kcap:Nat)(b:AB 8)(n cap:Nat)(hkey:key.length=kn)(hkn:kn≤1099511627776)(hb:b.length=n)(hn:n≤1099511627776):Ev prog (.call 116 [.c (.sl 0 0 kn kcap 1),.c (.sl 1 0 n cap 1)] [B1 key,B1 b]) (.val (Co (Gq key b)) [B1 key,B1 b]):=by
 unfold Gq
 by_cases h:64<key.length
 ·rw [if_pos h];exact cS key kn kcap b n cap hkey hkn hb hn O_
 ·rw [if_neg h];exact bi key kn kcap b n cap hkey hkn hb hn O_
attribute [irreducible] Gq
def KK(key info X1 X2:AB 8)(j5:Nat):AB 8×AB 8:=(X1++(Gq key ((X2++info)++[BitVec.ofNat 8 (1+j5)])),Gq key ((X2++info)++[BitVec.ofNat 8 (1+j5)]))
def CC(key info:AB 8):Nat→AB 8×AB 8
 |0=>([],[])
 |j5+1=>KK key info (CC key info j5).1 (CC key info j5).2 j5
@[simp] theorem Jp(key info:AB 8)(j5:Nat):(CC key info j5).1.length=32*j5:=by
 induction j5 with
 |zero=>(simp [CC, *];done)
 |succ j5 ih=>rw [CC.eq_2,KK];(simp [ih];omega)
@[simp] theorem Jf(key info:AB 8)(j5:Nat):(CC key info j5).2.length=oX j5:=by
 induction j5 with
 |zero=>(simp [CC, *];done)
 |succ j5 ih=>rw [CC.eq_2,KK];(simp;done)
def IA(key info:AB 8)(n:Nat):AB 8:=cut ((CC key info ((n+31)/32)).1) 0 n
theorem gj(key:AB 8)(kn kcap:Nat)(info:AB 8)(m mcap n:Nat)(hkey:key.length=kn)(hkn:kn≤1099511627)(hinfo:info.length=m)(hm:m≤1099511627)(hn:n≤1099511627)(hok:n≤8160):Ev prog (.call 105 [.c (.sl 0 0 kn kcap 1),.c (.sl 1 0 m mcap 1),Aj ((n:Nat):Int)] [B1 (key),B1 (info)]) (.val (.tup [.c (.sl 2 0 n n 1),Aj ((0:Nat):Int)]) [B1 (key),B1 (info),CP (IA key info n)]):=by
 have hP_macExp0:Hid (IA key info n=cut ((CC key info ((n+31)/32)).1) 0 n):=⟨rfl⟩
 subst hkey
 subst hinfo
 refine AJ func105 rfl ntmps105 rfl AN ?_;refine AG ?_;refine IM ?_;refine M6 ?_;refine FA ?_;refine FA ?_;refine AA (Il (b:=8160) rfl rfl) rfl ?_;refine Ba ?_;refine E6 ?_;refine Bn rfl (decide_eq_false O_) ?_;refine AG ?_;refine El ?_;refine A7 ?_;refine Jn 8 1 (.a8 ([])) rfl rfl AN rfl ?_;refine S_ ?_;refine Jn 9 1 (.a8 ([])) rfl rfl AN rfl ?_;refine S_ ?_;refine AT [0,1,2,8,9,10] (fun (zz:Nat×AB 8×AB 8)=>⟨44,AQ [0,1,2,8,9,10] [.c (.sl 0 0 key.length kcap 1),.c (.sl 1 0 info.length mcap 1),Aj (((n:Nat):Int)),.c (.sl 2 0 (32*zz.1) (32*zz.1) 1),.c (.sl 3 0 (oX zz.1) (oX zz.1) 1),Aj (((1+zz.1:Nat):Int))],[B1 (key),B1 (info),CP (zz.2.1),CP (zz.2.2)]⟩) (fun j5=>(j5,CC key info j5)) ((n+31)/32) K_ ?_ ?_
 ·intro j5 hj5
  try dsimp only
  have hX1:(CC key info j5).1.length=32*j5:=by rw [Jp key info _];try omega
  have hX2:(CC key info j5).2.length=oX j5:=by rw [Jf key info _];try omega
  have hl:=kQ j5
  rw [CC.eq_2,KK]
  generalize CC key info j5=Z3 at*
  obtain ⟨X1,X2⟩:=Z3
  try dsimp only at*
  refine Fv ?_;refine AO ?_;refine CF ?_;refine AW ?_;refine IZ ?_;refine AO ?_;refine bZ ?_;refine AO ?_;refine Cl ?_;refine AO ?_;refine AA (HA rfl underlying3 underlying5 (zw _)) rfl ?_;refine RZ ?_;refine Cl ?_;refine Bq (AZ (bs:=[0,7]) (V8 key key.length kcap ((X2++info)++[BitVec.ofNat 8 (1+j5)]) (((oX j5)+info.length)+1) (((oX j5)+info.length)+1) AD AD AD AD) mf K_ K_ rfl Bb) AK rfl ?_;refine EO ?_;refine AM ?_;have hQ4:(Gq key ((X2++info)++[BitVec.ofNat 8 (1+j5)])).length=32:=Au
  refine AG ?_;refine Kl ?_;refine BB ?_;refine Cl ?_;refine AY ?_;refine DG ?_;exact ⟨(j5+1,_),K_,rfl⟩
 ·try dsimp only
  have hY5:(CC key info ((n+31)/32)).1.length=32*((n+31)/32):=by rw [Jp key info _];try omega
  have hY6:(CC key info ((n+31)/32)).2.length=oX ((n+31)/32):=by rw [Jf key info _];try omega
  have hl:=kQ ((n+31)/32)
  generalize CC key info ((n+31)/32)=Z7 at*
  obtain ⟨Y5,Y6⟩:=Z7
  try dsimp only at*
  refine Fv ?_;refine AO ?_;refine CF ?_;refine AS ?_;refine IZ ?_;refine Fa ?_;refine AA (cz rfl underlying23 CE rfl O_) rfl ?_;refine Rj ?_;refine Iu ?_;rw [hP_macExp0.out]
  exact Sq
@[simp] theorem N8(key info:AB 8)(n:Nat):(IA key info n).length=n:=by
 unfold IA
 (simp [Jp, *];omega)
attribute [irreducible] IA
theorem Lq(b:AB 8)(hn:b.length≤2199023255552):Ev prog (.call 38 [.c (.bs b)] []) (.val (Co (Aa b)) []):=
 Ev.partsB (m:=[]) (m':=[.row false (.a8 b)]) (N:=[]) (N':=[]) [none] [0] (.no .nil) (.c (.same rfl) .nil) (.bs rfl rfl .nil) rfl rfl (Hb b b.length b.length rfl hn) rfl rfl
def jt(w:AB 8)(n:Nat):AB 8×Nat:=(Aa (w++En n),0)
def Jc(q:AB 8×Nat):AB 8×Nat:=if q.2=0 then (Aa ([104#8,97#8,115#8,104#8]++q.1),0) else ([],q.2)
def WA(k:AB 8)(n:Nat):AB 8×Nat:=(IA k ([107#8,100#8,102#8]++En n) 32,0)
def IT(k:AB 8)(q:AB 8×Nat):AB 8×Nat:=if q.2=0 then (CT k (Am 12) [] q.1,0) else ([],q.2)
theorem dh(key:AB 8)(c:Nat)(info:AB 8)(hkey:key.length=32)(hi:info.length≤1000):Ev prog (.call 105 [.c (.sl 0 0 32 c 1),.c (.bs info),Aj ((32:Nat):Int)] [B1 key]) (.val (.tup [.c (.sl 1 0 32 32 1),Aj ((0:Nat):Int)]) [B1 key,CP (IA key info 32)]):=
 Ev.partsB (m:=[.row false (.a8 key)]) (m':=[.row false (.a8 key),.row false (.a8 info)]) (N:=[.row true (.a8 (IA key info 32))]) (N':=[.row true (.a8 (IA key info 32))]) [some (0,0),none] [1] (.all rfl rfl (.no .nil)) (.c (.sl rfl rfl) (.c (.same rfl) (.c (.same rfl) .nil))) (.same (.bs rfl rfl (.same .nil))) rfl rfl (gj key 32 c info info.length info.length 32 hkey D_ rfl O_ D_ D_) rfl rfl
theorem bN(key text:AB 8)(hkey:key.length=32)(ht:text.length≤65536):Ev prog (.call 103 [Co key,Co (Am 12),.c .nsl,.c (.bs text)] []) (.val (.tup [.c (.sl 0 0 (text.length+16) (text.length+16) 1),Aj ((0:Nat):Int)]) [CP (CT key (Am 12) [] text)]):=
 Ev.partsB (m:=[]) (m':=[.row false (.a8 []),.row false (.a8 text)]) (N:=[.row true (.a8 (CT key (Am 12) [] text))]) (N':=[.row true (.a8 (CT key (Am 12) [] text))]) [none,none] [1] (.no (.no .nil)) (.agg rfl (.agg rfl (.c .nil (.c (.same rfl) .nil)))) (.same (.same (.same (.bs rfl rfl .nil)))) rfl rfl (jL key (Am 12) [] 0 0 text text.length text.length hkey (BO 12) rfl D_ rfl O_ D_ ht) rfl rfl
theorem KT(l:List (AB 8)):(LH l).1.length≤65536:=by
 unfold LH
 split
 ·rw [SC];assumption
 ·exact Nat.zero_le _
theorem SA(k:r)(h:Hid r→g:=by intro h;refine AJ func45 rfl ntmps45 rfl AN ?_;exact h.out):g:=h ⟨k⟩
theorem EJ(k:r)(h:Hid r→g:=by intro h;refine AA (Ab rfl (eq _ _)) rfl ?_;refine AA (Bj rfl rfl B6 Dp rfl) rfl ?_;exact h.out):g:=h ⟨k⟩
theorem dH(k:r)(h:Hid r→g:=by intro h;refine DK (fw rfl underlying23 underlying5 rfl rfl AK) rfl ?_;exact h.out):g:=h ⟨k⟩
theorem SE(k:r)(h:Hid r→g:=by intro h;refine AA (Ab rfl (fF _ _)) rfl ?_;exact h.out):g:=h ⟨k⟩
theorem R8(k:r)(h:Hid r→g:=by intro h;refine AA (Bj rfl rfl B6 Dp rfl) rfl ?_;exact h.out):g:=h ⟨k⟩
theorem jD(L:List Nd)(es:List (Value×C1))(N:Nat)(D:Dn)(n:Nat)(a:List Int)(hn:n≤9223372036854775807):Ev prog (.call 45 [Ai 0,.agg (.ac [.val (.int .i64 1),.val (.int .i64 (n:Int)),.is a])] [.row false (.ac [.ptr 1 0,.mp 2]),.row false (.ac [.sl 3 0 N N 3,.mp 4]),.row false (.mp (EF D)),.row false (.an L),.row false (.mp es)]) (.val (.tup [.c (.bs (jt [97#8,116#8,111#8,109#8] n).1),Aj (((jt [97#8,116#8,111#8,109#8] n).2:Nat):Int)]) [.row false (.ac [.ptr 1 0,.mp 2]),.row false (.ac [.sl 3 0 N N 3,.mp 4]),.row false (.mp (EF D)),.row false (.an L),.row false (.mp es)]):=by
 have h8:(En n).length=8:=QL n
 have hs:(Aa ([97#8,116#8,111#8,109#8]++En n)).length=32:=Av _
 unfold jt
 dsimp only
 refine SA ?_;refine Bk ?_;refine El ?_;refine EJ ?_;refine GS ?_;refine DK (ec (l:=[97#8,116#8,111#8,109#8]) underlying23 HL rfl rfl D_ D_ AN) rfl ?_;refine dH ?_;refine SE ?_;refine R8 ?_;refine FC (R3 n hn) eT ?_;refine DK (eK rfl rfl rfl h8 underlying23 underlying23 HL D_) rfl ?_;refine FC (Lq ([97#8,116#8,111#8,109#8]++En n) (by simp [h8])) RF ?_
 refine EO ?_;refine AS ?_;refine Kl ?_;refine F6 ?_;refine IB 4 rfl rfl hs AK ?_;exact F7
theorem gY(L:List Nd)(es:List (Value×C1))(N:Nat)(D:Dn)(n:Nat)(a:List Int)(hn:n≤9223372036854775807):Ev prog (.call 45 [Ai 0,.agg (.ac [.val (.int .i64 2),.val (.int .i64 (n:Int)),.is a])] [.row false (.ac [.ptr 1 0,.mp 2]),.row false (.ac [.sl 3 0 N N 3,.mp 4]),.row false (.mp (EF D)),.row false (.an L),.row false (.mp es)]) (.val (.tup [.c (.bs (jt [119#8,111#8,114#8,100#8] n).1),Aj (((jt [119#8,111#8,114#8,100#8] n).2:Nat):Int)]) [.row false (.ac [.ptr 1 0,.mp 2]),.row false (.ac [.sl 3 0 N N 3,.mp 4]),.row false (.mp (EF D)),.row false (.an L),.row false (.mp es)]):=by
 have h8:(En n).length=8:=QL n
 have hs:(Aa ([119#8,111#8,114#8,100#8]++En n)).length=32:=Av _
 unfold jt
 dsimp only
 refine SA ?_;refine Bk ?_;refine El ?_;refine EJ ?_;refine GS ?_;refine FG ?_;refine DK (ec (l:=[119#8,111#8,114#8,100#8]) underlying23 HL rfl rfl D_ D_ AN) rfl ?_;refine dH ?_;refine SE ?_;refine R8 ?_;refine FC (R3 n hn) eT ?_;refine DK (eK rfl rfl rfl h8 underlying23 underlying23 HL D_) rfl ?_;refine FC (Lq ([119#8,111#8,114#8,100#8]++En n) (by simp [h8])) RF ?_
 refine EO ?_;refine AS ?_;refine Kl ?_;refine F6 ?_;refine IB 4 rfl rfl hs AK ?_;exact F7
theorem RB{A B:Prop}(a:A)(b:B)(k:r)(h:A→B→Hid r→g:=by intro a b h;refine Bq (AZ (bs:=[0,1,2,3,4]) a b K_ K_ rfl Bb) AK rfl ?_;exact h.out):g:=h a b ⟨k⟩
theorem Kk(k:r)(h:Hid r→g:=by intro h;refine AA (B4 (b:=3) rfl rfl) rfl ?_;exact h.out):g:=h ⟨k⟩
theorem Jx(k:r)(h:Hid r→g:=by intro h;refine AA (Ab rfl (XF _ _)) rfl ?_;refine AA (Bj rfl rfl Ny Dp rfl) rfl ?_;exact h.out):g:=h ⟨k⟩
theorem jA(L:List Nd)(es:List (Value×C1))(N:Nat)(D:Dn)(n:Int)(a:List Int)(hD:Xm D)(ha:∀x∈a,D9 D x)(hlen:a.length≤400):Ev prog (.call 45 [Ai 0,.agg (.ac [.val (.int .i64 3),.val (.int .i64 n),.is a])] [.row false (.ac [.ptr 1 0,.mp 2]),.row false (.ac [.sl 3 0 N N 3,.mp 4]),.row false (.mp (EF D)),.row false (.an L),.row false (.mp es)]) (.val (.tup [.c (.bs (Jc (LH (a.map (An D)))).1),Aj (((Jc (LH (a.map (An D)))).2:Nat):Int)]) [.row false (.ac [.ptr 1 0,.mp 2]),.row false (.ac [.sl 3 0 N N 3,.mp 4]),.row false (.mp (EF D)),.row false (.an L),.row false (.mp es)]):=by
 have hJ:=RE L es N D (a) hD ha hlen
 have hq1:=KT ((a).map (An D))
 generalize LH ((a).map (An D))=q at*
 obtain ⟨j,e⟩:=q
 dsimp only at hJ hq1 ⊢
 refine SA ?_;refine Bk ?_;refine El ?_;refine EJ ?_;refine GS ?_;refine FG ?_;refine Kk ?_;refine AY ?_;refine Jx ?_;refine RB (hJ) SS ?_;refine CD ?_;refine KD ?_;by_cases he:e=0
 ·subst he
  have hs:(Aa ([104#8,97#8,115#8,104#8]++j)).length=32:=Av _
  rw [show Jc (j,0)=(Aa ([104#8,97#8,115#8,104#8]++j),0) from rfl]
  dsimp only
  refine BC ?_;refine Ik ?_;refine AS ?_;refine DK (ec (l:=[104#8,97#8,115#8,104#8]) underlying23 HL rfl rfl D_ D_ AN) rfl ?_;refine dH ?_;refine AO ?_;refine DK (fD rfl rfl underlying23 underlying23 HL (by simp;omega)) rfl ?_
  refine FC (Lq ([104#8,97#8,115#8,104#8]++j) (by simp;omega)) RF ?_
  refine EO ?_;refine AS ?_;refine Kl ?_;refine F6 ?_;refine IB 4 rfl rfl hs AK ?_;exact F7
 ·rw [show Jc (j,e)=([],e) by unfold Jc;rw [if_neg he]]
  dsimp only
  refine BC ?_;refine Fu ?_;refine F6 ?_;refine No 4 rfl ?_;exact F7
theorem iu(L:List Nd)(es:List (Value×C1))(N:Nat)(D:Dn)(n:Int)(a:List Int)(hD:Xm D)(ha:∀x∈a,D9 D x)(hlen:a.length≤400):Ev prog (.call 45 [Ai 0,.agg (.ac [.val (.int .i64 9),.val (.int .i64 n),.is a])] [.row false (.ac [.ptr 1 0,.mp 2]),.row false (.ac [.sl 3 0 N N 3,.mp 4]),.row false (.mp (EF D)),.row false (.an L),.row false (.mp es)]) (.val (.tup [.c (.bs (LH (a.map (An D))).1),Aj (((LH (a.map (An D))).2:Nat):Int)]) [.row false (.ac [.ptr 1 0,.mp 2]),.row false (.ac [.sl 3 0 N N 3,.mp 4]),.row false (.mp (EF D)),.row false (.an L),.row false (.mp es)]):=by
 have hJ:=RE L es N D (a) hD ha hlen
 have hq1:=KT ((a).map (An D))
 generalize LH ((a).map (An D))=q at*
 obtain ⟨j,e⟩:=q
 dsimp only at hJ hq1 ⊢
 refine SA ?_;refine Bk ?_;refine El ?_;refine EJ ?_;refine GS ?_;refine FG ?_;refine Kk ?_;refine Ad ?_;refine AA (B4 (b:=9) rfl rfl) rfl ?_;refine AY ?_;refine Jx ?_;refine RB (hJ) SS ?_;refine Ty ?_;exact Cu
theorem T6(k:r)(h:Hid r→g:=by intro h;refine AJ func71 rfl ntmps71 rfl AN ?_;exact h.out):g:=h ⟨k⟩
theorem Gb(k:r)(h:Hid r→g:=by intro h;refine B7 (C5 rfl rfl) rfl ?_;exact h.out):g:=h ⟨k⟩
theorem G5(k:r)(h:Hid r→g:=by intro h;refine B7 (Ae rfl) rfl ?_;exact h.out):g:=h ⟨k⟩
theorem mq(L:List Nd)(es:List (Value×C1))(N:Nat)(D:Dn)(n:Nat)(a:List Int)(hn:n≤9223372036854775807)(key:AB 8)(hkey:key.length=32):Ev prog (.call 71 [Ai 0,.agg (.ac [.val (.int .i64 4),.val (.int .i64 (n:Int)),.is a]),Co key] [.row false (.ac [.ptr 1 0,.mp 2]),.row false (.ac [.sl 3 0 N N 3,.mp 4]),.row false (.mp (EF D)),.row false (.an L),.row false (.mp es)]) (.val (.tup [.c (.bs (WA key n).1),Aj (((WA key n).2:Nat):Int)]) [.row false (.ac [.ptr 1 0,.mp 2]),.row false (.ac [.sl 3 0 N N 3,.mp 4]),.row false (.mp (EF D)),.row false (.an L),.row false (.mp es)]):=by
 have h8:(En n).length=8:=QL n
 have hs:(IA key ([107#8,100#8,102#8]++En n) 32).length=32:=N8 _ _ _
 unfold WA
 dsimp only
 refine T6 ?_;refine B5 ?_;refine El ?_;refine EJ ?_;refine AS ?_;refine AA (B4 (b:=4) rfl rfl) rfl ?_;refine A7 ?_;refine H3 [(1,[]),(2,[]),(7,[])] [] 3 mixed K_ K_ ?_;refine B7 (HX (l:=0) (h:=32) (len:=32) (cp:=32) rfl underlying37 CE rfl rfl rfl O_ O_ Rx rfl rfl) rfl ?_;refine Em (ec (l:=[107#8,100#8,102#8]) underlying23 HL rfl rfl D_ D_ AN) rfl Yw ?_;refine Em (fw rfl underlying23 underlying5 rfl rfl AK) rfl Yw ?_;refine B7 (Ab rfl (fF _ _)) rfl ?_;refine B7 (Bj rfl rfl B6 Dp rfl) rfl ?_;refine pn (Zm (AZ (R3 n hn) eT rfl rfl rfl Bb) AN Au rfl) (fun _=>rfl) rfl ?_
 refine pn (fD rfl rfl underlying23 underlying23 HL (by simp [h8])) (fun _=>rfl) rfl ?_
 refine Em (AZ (dh key 32 ([107#8,100#8,102#8]++En n) hkey (by simp [h8])) sp rfl rfl rfl Bb) rfl Yw ?_
 refine Gb ?_;refine Gb ?_;refine G5 ?_;refine G5 ?_;refine PO ?_;refine Q_ ?_;refine IB 6 rfl rfl hs AK ?_;exact F7
theorem YD(k:r)(h:Hid r→g:=by intro h;refine AA (VJ (l:=(Am 12)) xg underlying98 CE rfl rfl) rfl ?_;exact h.out):g:=h ⟨k⟩
theorem im(L:List Nd)(es:List (Value×C1))(N:Nat)(D:Dn)(n:Int)(a:List Int)(hD:Xm D)(ha:∀x∈a,D9 D x)(hlen:a.length≤400)(h1:1≤a.length)(key:AB 8)(hkey:key.length=32):Ev prog (.call 71 [Ai 0,.agg (.ac [.val (.int .i64 6),.val (.int .i64 n),.is a]),Co key] [.row false (.ac [.ptr 1 0,.mp 2]),.row false (.ac [.sl 3 0 N N 3,.mp 4]),.row false (.mp (EF D)),.row false (.an L),.row false (.mp es)]) (.val (.tup [.c (.bs (IT key (LH ((a.drop 1).map (An D)))).1),Aj (((IT key (LH ((a.drop 1).map (An D)))).2:Nat):Int)]) [.row false (.ac [.ptr 1 0,.mp 2]),.row false (.ac [.sl 3 0 N N 3,.mp 4]),.row false (.mp (EF D)),.row false (.an L),.row false (.mp es)]):=by
 have hJ:=RE L es N D (a.drop 1) hD (fun x hx=>ha x (List.mem_of_mem_drop hx)) (by rw [List.length_drop];omega)
 have hq1:=KT ((a.drop 1).map (An D))
 generalize LH ((a.drop 1).map (An D))=q at*
 obtain ⟨j,e⟩:=q
 dsimp only at hJ hq1 ⊢
 refine T6 ?_;refine B5 ?_;refine El ?_;refine EJ ?_;refine AS ?_;refine Gg ?_;refine AY ?_;refine Jx ?_;refine DK (Ev.val (Rg (l:=1) rfl rfl underlying41 OF h1)) rfl ?_;refine RB (hJ) SS ?_;refine CD ?_;refine KD ?_;by_cases he:e=0
 ·subst he
  have hs:(CT key (Am 12) [] j).length=j.length+16:=D4 _ _ _ _ hkey (BO 12)
  rw [show IT key (j,0)=(CT key (Am 12) [] j,0) from rfl]
  dsimp only
  refine BC ?_;refine Ik ?_;refine AS ?_;refine EJ ?_;refine It ?_;refine HV ?_;refine YD ?_;refine AO ?_;refine FC (bN key j hkey hq1) ls ?_;refine Ty ?_;refine F6 ?_;refine IB 6 rfl rfl hs AK ?_;exact F7
 ·rw [show IT key (j,e)=([],e) by unfold IT;rw [if_neg he]]
  dsimp only
  refine BC ?_;refine Fu ?_;refine F6 ?_;refine No 6 rfl ?_;exact F7
theorem Xs(b:AB 8)(hn:b.length≤2199023255552):Ev prog (.call 17 [.c (.bs b)] []) (.val (Co (Aa b)) []):=by
 have hs:(Aa b).length=32:=Av _
 refine AJ func17 rfl ntmps17 rfl AN ?_;refine JU ?_;refine AW ?_;refine FC (Lq b hn) RF ?_;refine EW ?_;exact Eo
theorem W9(k:r)(h:Hid r→g:=by intro h;refine EQ 17 mixed K_ rfl rfl rfl ?_;exact h.out):g:=h ⟨k⟩
theorem YK(k:r)(h:Hid r→g:=by intro h;refine AE (Bi rfl rfl MJ NI C7 D_) rfl ?_;exact h.out):g:=h ⟨k⟩
theorem Uu(k:r)(h:Hid r→g:=by intro h;refine AE (Ab rfl (gM _ _)) rfl ?_;exact h.out):g:=h ⟨k⟩
theorem UJ(k:r)(h:Hid r→g:=by intro h;refine AE (Bj rfl rfl oP Dp rfl) rfl ?_;exact h.out):g:=h ⟨k⟩
theorem Mw(k:r)(h:Hid r→g:=by intro h;refine AE (Ab rfl (XF _ _)) rfl ?_;exact h.out):g:=h ⟨k⟩
theorem Lx(k:r)(h:Hid r→g:=by intro h;refine AE (Bj rfl rfl Ny Dp rfl) rfl ?_;exact h.out):g:=h ⟨k⟩
theorem Pw(k:r)(h:Hid r→g:=by intro h;refine AE (Tt (j:=0) rfl rfl underlying41 OF Dp) rfl ?_;exact h.out):g:=h ⟨k⟩
theorem Od(L:List Nd)(es:List (Value×C1))(N:Nat)(D:Dn)(k n:Int)(a:List Int)(v:AB 8×Nat)(hD:Xm D)(h0:D9 D (AX a 0))(ha:1≤a.length)(h1:¬k=1)(h2:¬k=2)(h3:¬k=3)(h7:¬k=7)(h9:¬k=9)
  (hK:Ev prog (.call 71 [.c (.ptr 0 0),.agg (.ac [.val (.int .i64 k),.val (.int .i64 n),.is a]),.agg (.a8 (Aa (An D (AX a 0))))] [.row false (.ac [.ptr 1 0,.mp 2]),.row false (.ac [.sl 3 0 N N 3,.mp 4]),.row false (.mp (EF D)),.row false (.an L),.row false (.mp es)]) (.val (.tup [.c (.bs v.1),.c (.val (.int .i64 ((v.2:Nat):Int)))]) [.row false (.ac [.ptr 1 0,.mp 2]),.row false (.ac [.sl 3 0 N N 3,.mp 4]),.row false (.mp (EF D)),.row false (.an L),.row false (.mp es)])):
  Ev prog (.call 45 [.c (.ptr 0 0),.agg (.ac [.val (.int .i64 k),.val (.int .i64 n),.is a])] [.row false (.ac [.ptr 1 0,.mp 2]),.row false (.ac [.sl 3 0 N N 3,.mp 4]),.row false (.mp (EF D)),.row false (.an L),.row false (.mp es)]) (.val (.tup [.c (.bs v.1),.c (.val (.int .i64 ((v.2:Nat):Int)))]) [.row false (.ac [.ptr 1 0,.mp 2]),.row false (.ac [.sl 3 0 N N 3,.mp 4]),.row false (.mp (EF D)),.row false (.an L),.row false (.mp es)]):=by
 have hl:=NS hD (AX a 0)
 refine SA ?_;refine Bk ?_;refine El ?_;refine EJ ?_;refine AS ?_;refine LW ?_;refine LW ?_;refine LW ?_;refine LW ?_;refine G0 ?_;refine A7 ?_;refine W9 ?_;refine A0 ?_;refine YK ?_;refine II ?_;refine Uu ?_;refine UJ ?_;refine Mw ?_;refine Lx ?_;refine Pw ?_;refine AE (D5 rfl B6 ha) rfl ?_;refine Sk (IG (c:= .bs (An D (AX a 0))) underlying85 underlying3 rfl rfl rfl hD.keyed (IH h0)) rfl ?_;refine Iv (AZ (Xs (An D (AX a 0)) O_) fX rfl rfl rfl Bb) AK rfl ?_;refine Iv (AZ (bs:=[0,1,2,3,4]) (hK) xI K_ K_ rfl Bb) AK rfl ?_;refine J9 ?_;refine Ky ?_;refine A1 ?_;exact Sq
theorem wc(k n:Int)(a:List Int):TS prog 58 (.agg (.ac [.val (.int .i64 k),.val (.int .i64 n),.is a])) 0=some (.c (.val (.int .i64 k))):=by kernel_rfl
theorem xi{P:Program}{T:Nat→AV}{M:Ag}{t:TypeId}{f:Nat}{x:Operand}{y v:AV}(hx:AC T x=y)(h:TS P t y f=some v):AI P (AC T) M (.field t x f)=some v:=by
 subst hx
 exact h
theorem S9{T:Nat→AV}{M:Ag}{x:Operand}{k n:Int}{a:List Int}(hx:AC T x= .agg (.ac [.val (.int .i64 k),.val (.int .i64 n),.is a])):AI prog (AC T) M (.field 58 x 0)=some (.c (.val (.int .i64 k))):=
 xi hx (wc k n a)
theorem V3{A B:Prop}(a:A)(b:B)(k:r)(h:A→B→Hid r→g:=by intro a b h;refine Iv (AZ (bs:=[1,3,4]) a b K_ K_ rfl Bb) AK rfl ?_;exact h.out):g:=h a b ⟨k⟩
theorem YL(k:r)(h:Hid r→g:=by intro h;refine AJ func70 rfl ntmps70 rfl AN ?_;exact h.out):g:=h ⟨k⟩
theorem XV(k:r)(h:Hid r→g:=by intro h;refine AE (Bj rfl rfl tf Dp rfl) rfl ?_;exact h.out):g:=h ⟨k⟩
theorem qu(L:List Nd)(es:List (Value×C1))(N:Nat)(D:Dn)(k n:Int)(a:List Int)(x:Nat)(hx:AX a 0=(x:Int))(hN:L.length=N)(hxN:x<N)(ha:1≤a.length)(h5:¬(Al L x).k=5):
  Ev prog (.call 70 [.c (.ptr 0 0),.agg (.ac [.val (.int .i64 k),.val (.int .i64 n),.is a])] [.row false (.ac [.ptr 1 0,.mp 2]),.row false (.ac [.sl 3 0 N N 3,.mp 4]),.row false (.mp (EF D)),.row false (.an L),.row false (.mp es)]) (.val (.tup [.c (.bs []),.c (.val (.int .i64 ((6:Nat):Int)))]) [.row false (.ac [.ptr 1 0,.mp 2]),.row false (.ac [.sl 3 0 N N 3,.mp 4]),.row false (.mp (EF D)),.row false (.an L),.row false (.mp es)]):=by
 have hAt:=gQ L es N x hN hxN
 rw [←hx] at hAt
 unfold qe at hAt
 generalize Al L x=y at*
 generalize y.k=yk at*
 refine YL ?_;refine Bk ?_;refine Iu ?_;refine Nr ?_;refine II ?_;refine AE (Ab rfl (TI _ _)) rfl ?_;refine XV ?_;refine Mw ?_;refine Lx ?_;refine Pw ?_;refine AE (D5 rfl B6 ha) rfl ?_;refine V3 (hAt) Vr ?_;refine AE (S9 rfl) rfl ?_;refine AE (UB rfl rfl) rfl ?_;refine Bc ?_;refine AS ?_;refine F6 ?_;refine No 4 rfl ?_;exact F7
theorem Vo(L:List Nd)(es:List (Value×C1))(N:Nat)(D:Dn)(n:Int)(a:List Int)(v:AB 8×Nat)
  (hK:Ev prog (.call 70 [.c (.ptr 0 0),.agg (.ac [.val (.int .i64 7),.val (.int .i64 n),.is a])] [.row false (.ac [.ptr 1 0,.mp 2]),.row false (.ac [.sl 3 0 N N 3,.mp 4]),.row false (.mp (EF D)),.row false (.an L),.row false (.mp es)]) (.val (.tup [.c (.bs v.1),.c (.val (.int .i64 ((v.2:Nat):Int)))]) [.row false (.ac [.ptr 1 0,.mp 2]),.row false (.ac [.sl 3 0 N N 3,.mp 4]),.row false (.mp (EF D)),.row false (.an L),.row false (.mp es)])):
  Ev prog (.call 45 [.c (.ptr 0 0),.agg (.ac [.val (.int .i64 7),.val (.int .i64 n),.is a])] [.row false (.ac [.ptr 1 0,.mp 2]),.row false (.ac [.sl 3 0 N N 3,.mp 4]),.row false (.mp (EF D)),.row false (.an L),.row false (.mp es)]) (.val (.tup [.c (.bs v.1),.c (.val (.int .i64 ((v.2:Nat):Int)))]) [.row false (.ac [.ptr 1 0,.mp 2]),.row false (.ac [.sl 3 0 N N 3,.mp 4]),.row false (.mp (EF D)),.row false (.an L),.row false (.mp es)]):=by
 refine SA ?_;refine Bk ?_;refine El ?_;refine EJ ?_;refine GS ?_;refine FG ?_;refine Kk ?_;refine Ad ?_;refine AA (B4 (b:=9) rfl rfl) rfl ?_;refine Ad ?_;refine QT ?_;refine AY ?_;refine AA (Bi rfl rfl MJ NI C7 D_) rfl ?_;refine RB (hK) xy ?_;refine Ty ?_;exact Cu
theorem Zo(a:List Int):∀(c:List Bool) (k:Nat),I6 c k=true→I6 (mark c a) k=true:=by
 induction a with
 |nil=>intro c k h;exact h
 |cons x a ih=>
  intro c k h
  refine ih _ k ?_;simp only [I6,List.getD_eq_getElem?_getD,List.getElem?_set] at h ⊢
  split
  ·split
   ·rfl
   ·rename_i h1 h2
    subst h1
    rw [List.getElem?_eq_none O_] at h
    exact h
  ·exact h
theorem lG(a:List Int):∀(c:List Bool) (x:Int),x∈a→x.toNat<c.length→I6 (mark c a) x.toNat=true:=by
 induction a with
 |nil=>intro c x h;cases h
 |cons y a ih=>
  intro c x h hl
  rcases List.mem_cons.1 h with rfl | h
  ·refine Zo a _ _ ?_
   simp [I6,hl]
  ·exact ih _ x h (by simpa using hl)
theorem VT(L:List Nd):∀n c x,x∈Yo L n c→0≤x∧x<(n:Int)
 |0,_,x,h=>by cases h
 |n+1,c,x,h=>by
  unfold Yo at h
  split at h
  ·rcases List.mem_cons.1 h with rfl | h
   ·omega
   ·have:=VT L n _ x h;omega
  ·have:=VT L n _ x h;omega
theorem U0(L:List Nd):∀n c,(Yo L n c).Pairwise (fun x y=>y<x)
 |0,_=>List.Pairwise.nil
 |n+1,c=>by
  unfold Yo
  split
  ·exact List.pairwise_cons.2 ⟨fun y hy=>(VT L n _ y hy).2,U0 L n _⟩
  ·exact U0 L n _
theorem Q9(L:List Nd):∀(n:Nat) (c:List Bool) (k:Nat),k<n→I6 c k=true→(k:Int)∈Yo L n c
 |0,_,k,h,_=>by omega
 |n+1,c,k,h,hk=>by
  unfold Yo
  by_cases e:k=n
  ·subst e
   rw [if_pos hk]
   exact List.mem_cons_self
  ·split
   ·exact List.mem_cons_of_mem _ (Q9 L n _ k O_ (Zo _ _ _ hk))
   ·exact Q9 L n _ k O_ hk
theorem U1(L:List Nd):∀(n:Nat) (c:List Bool),n≤c.length→(∀k,k<n→ ∀x∈(Al L k).a,0≤x∧x<(k:Int))→ ∀k:Nat,(k:Int)∈Yo L n c→ ∀x∈(Al L k).a,x∈Yo L n c
 |0,_,_,_,k,h=>by cases h
 |n+1,c,hc,hL,k,h=>by
  intro x hx
  have hnd:=VT L (n+1) c k h
  have hx2:=hL k O_ x hx
  unfold Yo at h ⊢
  split
  ·rename_i hq
   rw [if_pos hq] at h
   rcases List.mem_cons.1 h with e | h
   ·obtain rfl:k=n:=by omega
    refine List.mem_cons_of_mem _ ?_;have h1:=lG (Al L k).a c x hx O_
    have h2:=Q9 L k (mark c (Al L k).a) x.toNat O_ h1
    rwa [show ((x.toNat:Nat):Int)=x by omega] at h2
   ·exact List.mem_cons_of_mem _ (U1 L n _ (by rw [Nb];omega) (fun k hk=>hL k O_) k h x hx)
  ·rename_i hq
   rw [if_neg hq] at h
   exact U1 L n _ O_ (fun k hk=>hL k O_) k h x hx
theorem Ee(L:List Nd)(i:Nat):∀x∈BQ L i,0≤x∧x<((i+1:Nat):Int):=fun x hx=>VT L (i+1) _ x (by unfold BQ at hx;exact List.mem_reverse.1 hx)
theorem ON(L:List Nd)(i:Nat):(BQ L i).Pairwise (· < ·):=by
 unfold BQ
 rw [List.pairwise_reverse]
 exact U0 L _ _
theorem ID(L:List Nd)(i:Nat):(i:Int)∈BQ L i:=by
 unfold BQ
 rw [List.mem_reverse]
 refine Q9 L (i+1) _ i O_ ?_;simp [I6]
theorem Gs{L:List Nd}(hA:EB L){i:Nat}(hi:i<L.length){k:Nat}(hk:(k:Int)∈BQ L i):∀x∈(Al L k).a,x∈BQ L i:=by
 unfold BQ at hk ⊢
 intro x hx
 rw [List.mem_reverse] at hk ⊢
 exact U1 L (i+1) _ (by simp) (fun k hk x hx=>(hA.nd (i:=k) O_).args x hx) k hk x hx
def ej:AB 8:=[97#8,116#8,111#8,109#8]
def mO:AB 8:=[119#8,111#8,114#8,100#8]
def LI(X:Nd→(Int→AB 8)→AB 8×Nat)(L:List Nd)(g:Int→AB 8)(y:Nd):AB 8×Nat:=
 if y.k=1 then jt ej y.n.toNat
 else if y.k=2 then jt mO y.n.toNat
 else if y.k=3 then Jc (LH (y.a.map g))
 else if y.k=9 then LH (y.a.map g)
 else if y.k=4 then WA (Aa (g (AX y.a 0))) y.n.toNat
 else if y.k=6 then IT (Aa (g (AX y.a 0))) (LH ((y.a.drop 1).map g))
 else if y.k=7∧ ¬(Al L (AX y.a 0).toNat).k=5 then ([],6)
 else X y g
def UL(L:List Nd)(y:Nd):Prop:=y.k=5∨y.k=8∨(y.k=7∧(Al L (AX y.a 0).toNat).k=5)
def Gu(X:Nd→(Int→AB 8)→AB 8×Nat)(L:List Nd):List Int→Dn→Dn×Nat
 |[],D=>(D,0)
 |k::r,D=>if (LI X L (An D) (Al L k.toNat)).2=0 then Gu X L r (D++[(k,(LI X L (An D) (Al L k.toNat)).1)]) else (D,(LI X L (An D) (Al L k.toNat)).2)
def JB(X:Nd→(Int→AB 8)→AB 8×Nat)(L:List Nd)(i:Nat):AB 8×Nat:=
 if (Gu X L (BQ L i) []).2=0 then (An (Gu X L (BQ L i) []).1 i,0) else ([],(Gu X L (BQ L i) []).2)
theorem QV{D:Dn}{x:Int}(h:D9 D x)(p:Int×AB 8):D9 (D++[p]) x:=by
 obtain ⟨q,hq,e⟩:=h
 exact ⟨q,List.mem_append_left _ hq,e⟩
theorem Ok(D:Dn)(x:Int)(b:AB 8):D9 (D++[(x,b)]) x:=⟨(x,b),by simp,rfl⟩
theorem Xm.snoc{D:Dn}(h:Xm D){x:Int}{b:AB 8}(hx:¬D9 D x)(hb:b.length≤100000):Xm (D++[(x,b)]):=by
 refine ⟨?_,fun p hp=>?_⟩
 ·rw [List.pairwise_append]
  refine ⟨h.dist,by simp,fun p hp q hq=>?_⟩
  obtain rfl:=List.mem_singleton.1 hq
  exact fun e=>hx ⟨p,hp,e⟩
 ·rcases List.mem_append.1 hp with hp | hp
  ·exact h.len p hp
  ·obtain rfl:=List.mem_singleton.1 hp
   exact hb
theorem ZR(D:Dn)(x:Int)(b:AB 8):EF (D++[(x,b)])=EF D++[(.int .i64 x,.bs b)]:=by simp [EF]
theorem Zx{D:Dn}{x:Int}(h:¬D9 D x):∀p∈EF D,p.1≠ .int .i64 x:=by
 intro p hp e
 obtain ⟨q,hq,rfl⟩:=List.mem_map.1 hp
 exact h ⟨q,hq,(Value.int.inj e).2⟩
theorem Xk{X:Nd→(Int→AB 8)→AB 8×Nat}{L:List Nd}{g:Int→AB 8}{y:Nd}(hX:UL L y→(X y g).1.length≤100000)(hk:1≤y.k∧y.k≤9):(LI X L g y).1.length≤100000:=by
 have hh:∀q:AB 8×Nat,(Jc q).1.length≤32:=fun q=>by
  unfold Jc
  split
  ·dsimp only;rw [Av];omega
  ·exact Nat.zero_le _
 have hs:∀(k:AB 8) (l:List (AB 8)),k.length=32→(IT k (LH l)).1.length≤65552:=fun k l hk=>by
  unfold IT
  have:=KT l
  split
  ·dsimp only;rw [D4 _ _ _ _ hk (BO 12)];omega
  ·exact Nat.zero_le _
 unfold LI jt WA
 split
 ·dsimp only;rw [Av];omega
 ·split
  ·dsimp only;rw [Av];omega
  ·split
   ·exact Nat.le_trans (hh _) D_
   ·split
    ·exact Nat.le_trans (KT _) D_
    ·split
     ·dsimp only;rw [N8];omega
     ·split
      ·exact Nat.le_trans (hs _ _ (Av _)) D_
      ·split
       ·exact Nat.zero_le _
       ·refine hX ?_
        unfold UL
        by_cases e:y.k=7
        ·rename_i h;exact .inr (.inr ⟨e,by by_cases e2:(Al L (AX y.a 0).toNat).k=5;exact e2;exact absurd ⟨e,e2⟩ h⟩)
        ·omega
section
variable (X:Nd→(Int→AB 8)→AB 8×Nat) (L:List Nd)
def tb:Nat→List (AB 8)
 |0=>[]
 |i+1=>tb i++[(LI X L (fun x=>Ih (tb i) x.toNat) (Al L i)).1]
def bt(i:Nat):AB 8×Nat:=LI X L (fun x=>Ih (tb X L i) x.toNat) (Al L i)
def gB(x:Int):AB 8:=(bt X L x.toNat).1
end
variable {X:Nd→(Int→AB 8)→AB 8×Nat} {L:List Nd}
theorem Oj:∀i,(tb X L i).length=i
 |0=>rfl
 |i+1=>by simp [tb,Oj i]
theorem nf:∀(i j:Nat),j<i→Ih (tb X L i) j=(bt X L j).1
 |0,j,h=>by omega
 |i+1,j,h=>by
  rw [tb]
  by_cases e:j=i
  ·subst e
   simp only [Ih,List.getD_eq_getElem?_getD]
   rw [List.getElem?_append_right (by rw [Oj];exact Nat.le_refl _),Oj,Nat.sub_self]
   rfl
  ·have:=nf i j O_
   simp only [Ih,List.getD_eq_getElem?_getD] at this ⊢
   rw [List.getElem?_append_left (by rw [Oj];omega)]
   exact this
def mv(X:Nd→(Int→AB 8)→AB 8×Nat):Prop:= ∀y g g',(Cr y.k≤y.a.length)→(∀x∈y.a,g x=g' x)→X y g=X y g'
theorem Y0(hX:mv X){y:Nd}{g g':Int→AB 8}(hl:Cr y.k≤y.a.length)(h:∀x∈y.a,g x=g' x):LI X L g y=LI X L g' y:=by
 have h1:y.a.map g=y.a.map g':=List.map_congr_left h
 have h2:(y.a.drop 1).map g=(y.a.drop 1).map g':=List.map_congr_left fun x hx=>h x (List.mem_of_mem_drop hx)
 have first:1≤y.a.length→g (AX y.a 0)=g' (AX y.a 0):=fun hl=>h _ (by simp [AX,show 0<y.a.length by omega])
 unfold LI
 rw [h1,h2,hX y g g' hl h]
 by_cases e4:y.k=4
 ·rw [first (by rw [e4] at hl;exact hl)]
 ·by_cases e6:y.k=6
  ·rw [first (by rw [e6] at hl;exact hl)]
  ·rw [if_neg e4,if_neg e4,if_neg e6,if_neg e6]
theorem gG(hX:mv X)(hA:EB L){i:Nat}(hi:i<L.length):bt X L i=LI X L (gB X L) (Al L i):=by
 have hnd:=hA.nd hi
 unfold bt
 refine Y0 hX hnd.len.1 fun x hx=>?_
 have:=hnd.args x hx
 unfold gB
 rw [nf _ _ O_]
theorem ZQ{D:Dn}{x:Int}{b:AB 8}(h:¬D9 D x):An (D++[(x,b)]) x=b:=by
 unfold An
 rw [List.find?_append]
 cases hf:D.find? (fun p=>p.1==x) with
 |some p=>
  have h1:=List.mem_of_find?_eq_some hf
  have h2:=List.find?_some hf
  simp only [beq_iff_eq] at h2
  exact absurd ⟨p,h1,h2⟩ h
 |none=>simp
theorem aX{D:Dn}{x y:Int}{b:AB 8}(h:x≠y):An (D++[(y,b)]) x=An D x:=by
 unfold An
 rw [List.find?_append]
 cases hf:D.find? (fun p=>p.1==x) with
 |some p=>rfl
 |none=>simp [Ne.symm h]
theorem Wh(hX:mv X)(hA:EB L):∀(l:List Int) (D:Dn),l.Pairwise (· < ·)→(∀k∈l,0≤k∧k<(L.length:Int))→(∀k∈l,¬D9 D k)→(∀k∈l,∀x∈(Al L k.toNat).a,D9 D x∨x∈l)→(∀x,D9 D x→An D x=gB X L x)→(∀k∈l,∀x,D9 D x→x<k)→
  ((∀k∈l,(bt X L k.toNat).2=0)∧(Gu X L l D).2=0∧(∀x,D9 D x∨x∈l→An (Gu X L l D).1 x=gB X L x))∨(∃k∈l,¬(bt X L k.toNat).2=0∧(Gu X L l D).2=(bt X L k.toNat).2)
 |[],D,_,_,_,_,hD,_=> .inl ⟨fun k hk=>(by cases hk),rfl,fun x hx=>hD x (by rcases hx with h | h;exact h;cases h)⟩
 |k::l,D,hp,hr,hn,ha,hD,hlt=>by
  obtain ⟨hp1,hp2⟩:=List.pairwise_cons.1 hp
  have hk:=hr k List.mem_cons_self
  have hkL:k.toNat<L.length:=by omega
  have hnd:=hA.nd hkL
  have hargs:∀x∈(Al L k.toNat).a,D9 D x:=fun x hx=>by
   have h1:=hnd.args x hx
   rcases ha k List.mem_cons_self x hx with h | h
   ·exact h
   ·rcases List.mem_cons.1 h with rfl | h
    ·omega
    ·have:=hp1 x h;omega
  have hv:LI X L (An D) (Al L k.toNat)=bt X L k.toNat:=by
   rw [gG hX hA hkL]
   exact Y0 hX hnd.len.1 fun x hx=>hD x (hargs x hx)
  rw [Gu.eq_2,hv]
  by_cases he:(bt X L k.toNat).2=0
  ·rw [if_pos he]
   have hnk:=hn k List.mem_cons_self
   have hd:∀x,D9 (D++[(k,(bt X L k.toNat).1)]) x→D9 D x∨x=k:=fun x ⟨p,hp,e⟩=>by
    rcases List.mem_append.1 hp with hp | hp
    ·exact .inl ⟨p,hp,e⟩
    ·obtain rfl:=List.mem_singleton.1 hp
     exact .inr e.symm
   rcases Wh hX hA l (D++[(k,(bt X L k.toNat).1)]) hp2 (fun x hx=>hr x (List.mem_cons_of_mem _ hx)) (fun x hx h=>by
     rcases hd x h with h | h
     ·exact hn x (List.mem_cons_of_mem _ hx) h
     ·have:=hp1 x hx;omega) (fun y hy x hx=>by
     rcases ha y (List.mem_cons_of_mem _ hy) x hx with h | h
     ·exact .inl (QV h _)
     ·rcases List.mem_cons.1 h with rfl | h
      ·exact .inl (Ok _ _ _)
      ·exact .inr h) (fun x h=>by
     by_cases e:x=k
     ·subst e
      rw [ZQ hnk]
      rfl
     ·rw [aX e]
      rcases hd x h with h | h
      ·exact hD x h
      ·exact absurd h e) (fun y hy x h=>by
     have h1:=hp1 y hy
     rcases hd x h with h | h
     ·have:=hlt k List.mem_cons_self x h;omega
     ·omega) with ⟨h1,h2,h3⟩ | ⟨y,hy,h1,h2⟩
   ·refine .inl ⟨fun y hy=>?_,h2,fun x hx=>h3 x ?_⟩
    ·rcases List.mem_cons.1 hy with rfl | hy
     ·exact he
     ·exact h1 y hy
    ·rcases hx with h | h
     ·exact .inl (QV h _)
     ·rcases List.mem_cons.1 h with rfl | h
      ·exact .inl (Ok _ _ _)
      ·exact .inr h
   ·exact .inr ⟨y,List.mem_cons_of_mem _ hy,h1,h2⟩
  ·rw [if_neg he]
   exact .inr ⟨k,List.mem_cons_self,he,rfl⟩
theorem Pi(hX:mv X)(hA:EB L){i:Nat}(hi:i<L.length):((∀k∈BQ L i,(bt X L k.toNat).2=0)∧JB X L i=((bt X L i).1,0))∨(∃k∈BQ L i,¬(bt X L k.toNat).2=0∧JB X L i=([],(bt X L k.toNat).2)):=by
 have hlt:=Ee L i
 rcases Wh hX hA (BQ L i) [] (ON L i) (fun k hk=>by have:=hlt k hk;omega) (fun k _ ⟨p,hp,_⟩=>by cases hp) (fun k hk x hx=> .inr (by
   have h1:=hlt k hk
   have h2:=Gs hA hi (k:=k.toNat) (by rwa [Int.toNat_of_nonneg h1.1]) x hx
   exact h2)) (fun x ⟨p,hp,_⟩=>by cases hp) (fun k _ x ⟨p,hp,_⟩=>by cases hp) with ⟨h1,h2,h3⟩ | ⟨k,hk,h1,h2⟩
 ·refine .inl ⟨h1,?_⟩
  unfold JB
  rw [if_pos h2,h3 _ (.inr (ID L i))]
  rfl
 ·refine .inr ⟨k,hk,h1,?_⟩
  unfold JB
  rw [if_neg (by rw [h2];exact h1),h2]
def P0(L:List Nd)(es:List (Value×C1))(N:Nat)(D:Dn)(y:Nd)(v:AB 8×Nat):Prop:=
 Ev prog (.call 45 [.c (.ptr 0 0),.agg (.ac [.val (.int .i64 y.k),.val (.int .i64 y.n),.is y.a])] [.row false (.ac [.ptr 1 0,.mp 2]),.row false (.ac [.sl 3 0 N N 3,.mp 4]),.row false (.mp (EF D)),.row false (.an L),.row false (.mp es)]) (.val (.tup [.c (.bs v.1),.c (.val (.int .i64 ((v.2:Nat):Int)))]) [.row false (.ac [.ptr 1 0,.mp 2]),.row false (.ac [.sl 3 0 N N 3,.mp 4]),.row false (.mp (EF D)),.row false (.an L),.row false (.mp es)])
theorem Sp(X:Nd→(Int→AB 8)→AB 8×Nat)(L:List Nd)(es:List (Value×C1))(N:Nat)(D:Dn)(y:Nd)(i:Nat)(hN:L.length=N)(hi:i<N)(hnd:uD i y)(hsm:y.n≤9223372036854775807)(hD:Xm D)(ha:∀x∈y.a,D9 D x)(hX:UL L y→P0 L es N D y (X y (An D))):
  P0 L es N D y (LI X L (An D) y):=by
 obtain ⟨k,n,a⟩:=y
 have hk:=hnd.kind
 have hn:=hnd.num.1
 have hlen:=hnd.len
 have hml:=Dj k
 have hargs:=hnd.args
 have h400:a.length≤400:=by dsimp only at hlen;omega
 dsimp only at hk hn hsm ha hlen hargs
 obtain ⟨n,rfl⟩:∃m:Nat,n=(m:Int):=⟨n.toNat,by omega⟩
 have hsm:n≤9223372036854775807:=by omega
 have first:1≤a.length→AX a 0∈a:=fun h=>by simp [AX,show 0<a.length by omega]
 have go:∀j:Int,k=j→Cr k=Cr j:=fun j h=>by rw [h]
 by_cases e1:k=1
 ·subst e1
  rw [show LI X L (An D) ⟨1,(n:Int),a⟩=jt ej n by simp [LI]]
  exact jD L es N D n a hsm
 by_cases e2:k=2
 ·subst e2
  rw [show LI X L (An D) ⟨2,(n:Int),a⟩=jt mO n by simp [LI]]
  exact gY L es N D n a hsm
 by_cases e3:k=3
 ·subst e3
  rw [show LI X L (An D) ⟨3,(n:Int),a⟩=Jc (LH (a.map (An D))) by simp [LI]]
  exact jA L es N D n a hD ha h400
 by_cases e9:k=9
 ·subst e9
  rw [show LI X L (An D) ⟨9,(n:Int),a⟩=LH (a.map (An D)) by simp [LI]]
  exact iu L es N D n a hD ha h400
 by_cases e4:k=4
 ·subst e4
  have h1:1≤a.length:=hlen.1
  rw [show LI X L (An D) ⟨4,(n:Int),a⟩=WA (Aa (An D (AX a 0))) n by simp [LI]]
  exact Od L es N D 4 n a _ hD (ha _ (first h1)) h1 D_ D_ D_ D_ D_ (mq L es N D n a hsm _ (Av _))
 by_cases e6:k=6
 ·subst e6
  have h1:1≤a.length:=hlen.1
  rw [show LI X L (An D) ⟨6,(n:Int),a⟩=IT (Aa (An D (AX a 0))) (LH ((a.drop 1).map (An D))) by simp [LI]]
  exact Od L es N D 6 n a _ hD (ha _ (first h1)) h1 D_ D_ D_ D_ D_ (im L es N D n a hD ha h400 h1 _ (Av _))
 by_cases e7:k=7∧ ¬(Al L (AX a 0).toNat).k=5
 ·obtain ⟨e7,e5⟩:=e7
  subst e7
  have h1:1≤a.length:=Nat.le_trans (show 1≤Cr 7 by decide) hlen.1
  have h2:=hargs _ (first h1)
  rw [show LI X L (An D) ⟨7,(n:Int),a⟩=([],6) by simp [LI,e5]]
  exact Vo L es N D n a ([],6) (qu L es N D 7 n a (AX a 0).toNat O_ hN O_ h1 e5)
 ·rw [show LI X L (An D) ⟨k,(n:Int),a⟩=X ⟨k,(n:Int),a⟩ (An D) by
   unfold LI
   dsimp only
   rw [if_neg e1,if_neg e2,if_neg e3,if_neg e9,if_neg e4,if_neg e6,if_neg e7]]
  refine hX ?_;unfold UL
  dsimp only
  by_cases e:k=7
  ·exact .inr (.inr ⟨e,by by_cases e2:(Al L (AX a 0).toNat).k=5;exact e2;exact absurd ⟨e,e2⟩ e7⟩)
  ·omega
theorem yW(b c:Nat):Bo prog 87 [(0,.c (.ptr b 0)),(1,.c (.mp c))]=some (.agg (.ac [.ptr b 0,.mp c])):=by kernel_rfl
theorem fy{T:Nat→AV}{M:Ag}{x y:Operand}{b c:Nat}(hx:AC T x= .c (.ptr b 0))(hy:AC T y= .c (.mp c)):AI prog (AC T) M (.build 87 #[(0,x),(1,y)])=some (.agg (.ac [.ptr b 0,.mp c])):=
 W1 (by simp [hx,hy]) (yW b c)
theorem cm(X:Nd→(Int→AB 8)→AB 8×Nat)(L:List Nd)(es:List (Value×C1))(N i:Nat)(hN:L.length=N)(hNl:N≤1048576)(hi:i<N)(hA:EB L)
  (hX:∀(D:Dn) (k:Nat),(k:Int)∈BQ L i→Xm D→(∀x∈(Al L k).a,D9 D x)→UL L (Al L k)→(X (Al L k) (An D)).1.length≤100000∧P0 L es N D (Al L k) (X (Al L k) (An D))):
  Ev prog (.call 22 [.c (.ptr 0 0),.c (.val (.int .i64 (i:Int)))] [.row false (.ac [.sl 1 0 N N 3,.mp 2]),.row false (.an L),.row false (.mp es)]) (.val (.tup [.c (.bs (JB X L i).1),.c (.val (.int .i64 (((JB X L i).2:Nat):Int)))]) [.row false (.ac [.sl 1 0 N N 3,.mp 2]),.row false (.an L),.row false (.mp es)]):=by
 have hl1:=NM L i
 have hlt:=Ee L i
 have hasc:=ON L i
 have htop:=ID L i
 have hcl:∀k:Nat,(k:Int)∈BQ L i→ ∀x∈(Al L k).a,x∈BQ L i:=fun k hk=>Gs hA O_ hk
 unfold JB
 have hBen:=mV L es N i hN hNl hi hA
 generalize hall:BQ L i=all at*
 clear hall
 generalize hn:all.length=n at*
 refine AJ func22 rfl ntmps22 rfl AN ?_;refine AG ?_;refine Fm ?_;refine BB ?_;refine FC (hBen) rk ?_;refine E1 ?_;refine Fu ?_;refine DK (Rz) rfl ?_;refine AA (fy rfl rfl) rfl ?_;refine bp ?_;refine AY ?_;refine IF ?_;refine Pn ?_;refine DL [0,1,8,26,27,28] (fun (zz:Nat×Dn)=>⟨58,AQ [0,1,8,26,27,28] [Ai 0,Aj (i:Int),Ai 3,.c (.is all),Aj (n:Int),Aj (zz.1:Int)],[.row false (.ac [.sl 1 0 N N 3,.mp 2]),.row false (.an L),.row false (.mp es),.row true (.ac [.ptr 0 0,.mp 4]),.row true (.mp (EF zz.2))]⟩) (fun zz=>n-zz.1) (fun zz=>(zz.1≤n∧Xm zz.2)∧(∀x,D9 zz.2 x↔x∈all.take zz.1)∧Gu X L all []=Gu X L (all.drop zz.1) zz.2) (0,[]) K_ ⟨⟨Nat.zero_le _,⟨List.Pairwise.nil,fun p hp=>by cases hp⟩⟩,fun x=>by simp [D9],rfl⟩ ?_
 rintro ⟨j,D⟩ ⟨⟨hj,hD⟩,hdh,hrun⟩
 dsimp only at hj hD hdh hrun ⊢
 by_cases hlt':j<n
 ·obtain ⟨k,hx⟩:∃k:Nat,AX all j=(k:Int):=⟨(AX all j).toNat,by
   have h1:=hlt (AX all j) (by simp [AX,show j<all.length by omega])
   omega⟩
  have hget:all[j]'O_=(k:Int):=by rw [←hx];simp [AX,show j<all.length by omega]
  have hdrop:all.drop j=(k:Int)::all.drop (j+1):=by rw [List.drop_eq_getElem_cons O_,hget]
  have hmem:(k:Int)∈all:=by rw [←hget];exact List.getElem_mem _
  have hkN:k<N:=by have:=(hlt _ hmem).2;omega
  have hsplit:all=all.take j++(k:Int)::all.drop (j+1):=by rw [←hdrop,List.take_append_drop]
  have hp:=hasc
  rw [hsplit,List.pairwise_append] at hp
  obtain ⟨_,hp2,hp3⟩:=hp
  have hp4:=(List.pairwise_cons.1 hp2).1
  have hnot:¬D9 D (k:Int):=fun h=>by
   have:=hp3 _ ((hdh _).1 h) _ List.mem_cons_self
   omega
  have ha:∀x∈(Al L k).a,D9 D x:=fun x hx=>by
   have h1:=hcl k hmem x hx
   have h2:=((hA.nd (i:=k) O_).args x hx).2
   rw [hsplit] at h1
   rcases List.mem_append.1 h1 with h1 | h1
   ·exact (hdh x).2 h1
   ·rcases List.mem_cons.1 h1 with rfl | h1
    ·omega
    ·have:=hp4 x h1;omega
  have hB:=Sp X L es N D (Al L k) k hN hkN (hA.nd O_) (hA.small k O_) hD ha (fun h=>(hX D k hmem hD ha h).2)
  have hvl:=Xk (g:=An D) (fun h=>(hX D k hmem hD ha h).1) (hA.nd (i:=k) O_).kind
  have hAt:=gQ L es N k hN hkN
  rw [←hx] at hAt
  unfold qe at hAt
  unfold P0 at hB
  rw [hdrop,Gu.eq_2,Int.toNat_natCast] at hrun
  generalize LI X L (An D) (Al L k)=v at*
  generalize Al L k=y at*
  obtain ⟨b,e⟩:=v
  dsimp only at hB hrun hvl
  refine NJ ?_;refine U7 ?_;refine bD ?_;refine BB ?_;refine AO ?_;refine Bq (AZ (bs:=[0,1,2]) (hAt) Vr K_ K_ rfl Bb) AK rfl ?_;refine Bq (AZ (bs:=[3,0,4,1,2]) (hB) rm K_ K_ rfl Bb) AK rfl ?_;refine CD ?_;refine KD ?_;by_cases he:e=0
  ·subst he
   rw [if_pos rfl] at hrun
   refine BC ?_;refine Ik ?_;refine AM ?_;rw [hx]
   refine BC ?_;refine KB ?_;refine Ub ?_;refine VV ?_;refine Fa ?_;refine fZ (Qh (c:= .bs b) underlying85 underlying3 rfl rfl rfl rfl hD.keyed rfl (Zx hnot) AK) ?_;refine Do ?_;rw [←ZR]
   refine ⟨(j+1,D++[((k:Int),b)]),K_,by show n-(j+1)<n-j;omega,⟨hlt',hD.snoc hnot hvl⟩,fun x=>?_,hrun⟩
   dsimp only
   rw [List.take_succ_eq_append_getElem O_,hget,List.mem_append,List.mem_singleton,←hdh]
   constructor
   ·rintro ⟨p,hp,rfl⟩
    rcases List.mem_append.1 hp with hp | hp
    ·exact .inl ⟨p,hp,rfl⟩
    ·obtain rfl:=List.mem_singleton.1 hp
     exact .inr rfl
   ·rintro (h | rfl)
    ·exact QV h _
    ·exact Ok _ _ _
  ·rw [if_neg he] at hrun
   rw [hrun,show (if (D,e).2=0 then (An (D,e).1 (i:Int),0) else ([],(D,e).2))=(([]:AB 8),e) by rw [if_neg he]]
   dsimp only
   refine BC ?_;refine Fu ?_;refine F6 ?_;refine No 4 rfl ?_;exact F7
 ·obtain rfl:j=n:=by omega
  have hi':D9 D (i:Int):=(hdh _).2 (by rw [←hn,List.take_length];exact htop)
  have hl:=NS hD (i:Int)
  rw [hrun,←hn,List.drop_length,show Gu X L [] D=(D,0) from rfl,if_pos rfl]
  rw [hn]
  dsimp only
  refine NJ ?_;refine IZ ?_;refine AO ?_;refine KB ?_;refine Ub ?_;refine VV ?_;refine AO ?_;refine DK (IG (c:= .bs (An D (i:Int))) underlying85 underlying3 rfl rfl rfl hD.keyed (IH hi')) rfl ?_;refine cM ?_;exact Cu
theorem L3(k:r)(h:Hid r→g:=by intro h;refine AA (GL rfl rfl) rfl ?_;exact h.out):g:=h ⟨k⟩
theorem KA(k:r)(h:Hid r→g:=by intro h;refine EQ 9 mixed K_ rfl rfl rfl ?_;exact h.out):g:=h ⟨k⟩
theorem oR(r s:AB 8)(o p n c d:Nat)(hr:o+n≤r.length)(hs:p+n≤s.length)(hn:n≤1099511627776)(he:∀i,i<n→nth r (o+i)=nth s (p+i)):
  Ev prog (.call 13 [.c (.sl 0 o n c 1),.c (.sl 1 p n d 1)] [.row false (.a8 r),.row false (.a8 s)]) (.val (.c (.val (.bool true))) [.row false (.a8 r),.row false (.a8 s)]):=by
 refine AJ func13 rfl ntmps13 rfl AN ?_;refine Hk ?_;refine Bt ?_;refine AO ?_;refine Bt ?_;refine L3 ?_;refine E6 ?_;refine Bn rfl (by simp) ?_
 refine AG ?_;refine A7 ?_;refine AT [0,1,5] (fun (x:Nat)=>⟨26,AQ [0,1,5] [.c (.sl 0 o n c 1),.c (.sl 1 p n d 1),Aj (x)],[B1 (r),B1 (s)]⟩) (fun j=>j) (n) K_ ?_ ?_
 ·intro j hj
  refine BD ?_;refine Bt ?_;refine CF ?_;refine A1 ?_;refine KA ?_;refine By ?_;refine AE (YX rfl rfl underlying23 CE O_) rfl ?_;refine Kx ?_;refine By ?_;refine AE (YX rfl rfl underlying23 CE O_) rfl ?_;refine Kx ?_;refine AE (vd rfl rfl) rfl ?_;refine GN ?_;refine Bn rfl (by simp [he j hj]) ?_
  refine BC ?_;refine DG ?_;exact ⟨_,K_,rfl⟩
 ·refine S_ ?_
  refine CX ?_;refine AO ?_;refine Bt ?_;refine CF ?_;exact Jw
theorem mY(x:AB 8)(hx:x.length≤1099511627776):Ev prog (.call 13 [.c (.bs x),.c (.bs x)] []) (.val (.c (.val (.bool true))) []):=
 Ev.partsB (m:=[]) (m':=[.row false (.a8 x),.row false (.a8 x)]) (N:=[]) (N':=[]) [none,none] [0,1] (.no (.no .nil)) (.c (.same rfl) (.c (.same rfl) .nil)) (.bs rfl rfl (.bs rfl rfl .nil)) rfl rfl (oR x x 0 0 x.length x.length x.length O_ O_ hx (fun i _=>rfl)) rfl rfl
theorem VQ{n:Nat}{a b:AB n}(hl:a.length=b.length)(h:∀i,i<a.length→nth a i=nth b i):a=b:=by
 refine List.ext_getElem hl fun i h1 h2=>?_
 have:=h i h1
 rwa [Pm a i h1,Pm b i h2] at this
theorem Vz(key:AB 8)(c:BitVec 32)(nonce t:AB 8)(hk:key.length=32)(hn:nonce.length=12)(i:Nat)(hi:i<t.length):
  nth (GR key c nonce t) i=nth t i^^^nth (Dl key (c+BitVec.ofNat 32 (i/64)) nonce) (i%64):=by
 have h7:∀X j3 j7,64*j3+j7≤X.length→j7≤64→ ∀i,i<X.length→nth (ES key c nonce X j3 j7) i=if 64*j3≤i∧i<64*j3+j7 then nth X i^^^nth (Dl key (c+BitVec.ofNat 32 (i/64)) nonce) (i%64) else nth X i:=fun X j3 j7=>by
  induction j7 with
  |zero=>intro _ _ i _;rw [if_neg O_];rfl
  |succ j7 ih=>
   intro h1 h2 i hi
   rw [ES,Mm,C3 _ _ _ _ (by rw [I9];omega)]
   by_cases e:64*j3+j7=i
   ·subst e
    rw [if_pos rfl,if_pos O_,ih O_ O_ _ O_,if_neg O_,Nat.add_sub_cancel_left,Nat.mul_div_cancel_left _ D_,show (64*j3+j7)/64=j3 from by omega,show (64*j3+j7)%64=j7 from by omega]
   ·rw [if_neg e,ih O_ O_ _ hi]
    by_cases h:64*j3≤i∧i<64*j3+j7
    ·rw [if_pos h,if_pos O_]
    ·rw [if_neg h,if_neg O_]
 have h3:∀j3,j3≤(t.length+63)/64→ ∀i,i<t.length→nth (ER key c nonce t j3) i=if i<64*j3 then nth t i^^^nth (Dl key (c+BitVec.ofNat 32 (i/64)) nonce) (i%64) else nth t i:=fun j3=>by
  induction j3 with
  |zero=>intro _ i _;rw [if_neg O_];rfl
  |succ j3 ih=>
   intro h1 i hi
   rw [ER,L2,h7 _ _ _ (by rw [Gn _ _ _ _ hk hn];omega) O_ _ (by rw [Gn _ _ _ _ hk hn];exact hi)]
   by_cases e:64*j3≤i∧i<64*j3+(min (64*j3+64) t.length-64*j3)
   ·rw [if_pos e,if_pos O_,ih O_ _ hi,if_neg O_]
   ·rw [if_neg e,ih O_ _ hi]
    by_cases h:i<64*j3
    ·rw [if_pos h,if_pos O_]
    ·rw [if_neg h,if_neg O_]
 unfold GR
 rw [h3 _ (Nat.le_refl _) _ hi,if_pos O_]
def oW(n i:Nat):BitVec 8:=((BitVec.ofNat 64 n)>>>(8*i)).setWidth 8
theorem ar(n:Nat):Ge n=[oW n 0,oW n 1,oW n 2,oW n 3]:=by unfold Ge;rfl
theorem TG{n:Nat}(h:n<18446744073709551616)(i:Nat):(oW n i).toNat=n/2^(8*i)%256:=by
 unfold oW
 rw [BitVec.toNat_setWidth,BitVec.toNat_ushiftRight,BitVec.toNat_ofNat,Nat.mod_eq_of_lt (show n<2^64 by omega),Nat.shiftRight_eq_div_pow]
theorem WG(b:AB 8):∀k,Yz b k<2^(8*k)
 |0=>by simp [Yz]
 |k+1=>by
  have h:=WG b k
  refine Nat.or_lt_two_pow (Nat.lt_of_lt_of_le h (Nat.pow_le_pow_right D_ O_)) ?_;have h2:=(nth b k).isLt
  calc (nth b k).toNat*2^(8*k)<256*2^(8*k):=Nat.mul_lt_mul_of_pos_right h2 (Nat.pow_pos D_)
   _=2^(8*(k+1)):=by rw [Nat.mul_add,Nat.pow_add];omega
theorem Q3(b:AB 8)(k:Nat):Yz b (k+1)=Yz b k+(nth b k).toNat*2^(8*k):=by
 rw [Yz.eq_2,Nat.or_comm,Nat.mul_comm,←Nat.two_pow_add_eq_or_of_lt (WG b k)]
 omega
theorem qO(b:AB 8):Yz b 4=(nth b 0).toNat+(nth b 1).toNat*256+(nth b 2).toNat*65536+(nth b 3).toNat*16777216:=by
 rw [Q3,Q3,Q3,Q3]
 simp [Yz]
theorem ms(a0 a1 a2 a3:BitVec 8)(r:AB 8):nth ([a0,a1,a2,a3]++r) 0=a0∧nth ([a0,a1,a2,a3]++r) 1=a1∧nth ([a0,a1,a2,a3]++r) 2=a2∧nth ([a0,a1,a2,a3]++r) 3=a3:=⟨rfl,rfl,rfl,rfl⟩
theorem uK(n:Nat)(h:n<4294967296)(r:AB 8):Yz (Ge n++r) 4=n:=by
 rw [qO,ar]
 obtain ⟨h0,h1,h2,h3⟩:=ms (oW n 0) (oW n 1) (oW n 2) (oW n 3) r
 rw [h0,h1,h2,h3,TG O_,TG O_,TG O_,TG O_]
 simp only [Nat.reduceMul,Nat.reducePow,Nat.mul_zero,Nat.pow_zero,Nat.div_one]
 omega
theorem Zs(x:AB 8)(l:List (AB 8)):∀j,bU (x::l) (j+1)=Ge x.length++(x++bU l j)
 |0=>by simp [bU,Ih]
 |j+1=>by
  rw [bU.eq_2,Zs x l j,bU.eq_2]
  simp [Ih]
theorem gS(x:AB 8)(l:List (AB 8)):jn (x::l)=Ge x.length++(x++jn l):=Zs x l l.length
theorem ux:jn []=[]:=rfl
theorem Qc(x:AB 8)(l:List (AB 8)):jl (x::l)=4+x.length+jl l:=by
 rw [←SC,gS,List.length_append,List.length_append,Px,SC]
 omega
theorem wI(l:List (AB 8))(h:jl l≤65536):oc (jn l)=some l:=by
 induction l with
 |nil=>rw [ux,oc];simp
 |cons x l ih=>
  rw [Qc] at h
  have ih:=ih O_
  rw [gS,oc]
  have hlen:(Ge x.length++(x++jn l)).length=4+(x.length+(jn l).length):=by simp
  have hd:(Ge x.length++(x++jn l)).drop 4=x++jn l:=by
   have h4:=Px x.length
   rw [←h4,List.drop_left]
  rw [if_neg O_,dif_neg O_,hd,uK _ O_,if_neg (by simp),List.drop_left,List.take_left,ih]
  rfl
theorem rQ(x t:AB 8)(m:Nat)(h:x.length=m):cut (x++t) 0 m=x:=by subst h;simp [cut]
theorem wX(x t:AB 8)(m k:Nat)(h:x.length=m)(hk:t.length=k):cut (x++t) m k=t:=by subst h hk;simp [cut]
theorem mn(key nonce t:AB 8)(c:BitVec 32)(hkey:key.length=32)(hnonce:nonce.length=12):GR key c nonce (GR key c nonce t)=t:=by
 have hl:=JG key c nonce t hkey hnonce
 refine VQ (by rw [JG _ _ _ _ hkey hnonce,hl]) fun i hi=>?_
 rw [JG _ _ _ _ hkey hnonce,hl] at hi
 rw [Vz _ _ _ _ hkey hnonce _ O_,Vz _ _ _ _ hkey hnonce _ hi,BitVec.xor_assoc,BitVec.xor_self,BitVec.xor_zero]
theorem uM(key nonce text:AB 8)(hkey:key.length=32)(hnonce:nonce.length=12):
  DC key nonce [] (cut (CT key nonce [] text) 0 ((CT key nonce [] text).length-16))=cut (CT key nonce [] text) ((CT key nonce [] text).length-16) 16:=by
 have hx:=JG key 1#32 nonce text hkey hnonce
 have hl:=D4 key nonce [] text hkey hnonce
 rw [hl,Nat.add_sub_cancel]
 unfold CT at hl ⊢
 rw [List.length_append] at hl
 unfold F5 at hl ⊢
 rw [hx] at hl
 rw [rQ _ _ _ hx,wX _ _ _ _ hx O_]
 unfold DC Gm
 rfl
theorem oJ(key nonce text:AB 8)(hkey:key.length=32)(hnonce:nonce.length=12):Fl key nonce (CT key nonce [] text)=text:=by
 have hx:=JG key 1#32 nonce text hkey hnonce
 have hl:=D4 key nonce [] text hkey hnonce
 unfold Fl
 rw [hl,Nat.add_sub_cancel]
 unfold CT F5
 rw [rQ _ _ _ hx,mn _ _ _ _ hkey hnonce]
theorem dt(key box:AB 8)(hkey:key.length=32)(hbn:box.length≤1099511627)(h16:16≤box.length)(hT:box.length-16≤65536)(hE:DC key (Am 12) [] (cut box 0 (box.length-16))=cut box (box.length-16) 16):
  Ev prog (.call 53 [.agg (.a8 key),.agg (.a8 (Am 12)),.c .nsl,.c (.bs box)] []) (.val (.tup [.c (.sl 0 0 (box.length-16) (box.length-16) 1),.c (.val (.int .i64 ((0:Nat):Int)))]) [.row true (.a8 (Fl key (Am 12) box))]):=
 Ev.partsB (m:=[]) (m':=[.row false (.a8 []),.row false (.a8 box)]) (N:=[.row true (.a8 (Fl key (Am 12) box))]) (N':=[.row true (.a8 (Fl key (Am 12) box))]) [none,none] [1] (.no (.no .nil)) (.agg rfl (.agg rfl (.c .nil (.c (.same rfl) .nil)))) (.same (.same (.same (.bs rfl rfl .nil)))) rfl rfl (jV key (Am 12) [] 0 0 box box.length box.length hkey (BO 12) rfl D_ rfl hbn D_ h16 hT hE) rfl rfl
def PY(key box:AB 8):Nat:=if box.length<16∨65536<box.length-16 then 2 else if DC key (Am 12) [] (cut box 0 (box.length-16))=cut box (box.length-16) 16 then 0 else 3
theorem jN(key box:AB 8)(hkey:key.length=32)(hbn:box.length≤1099511627)(he:¬PY key box=0):
  Ev prog (.call 53 [.agg (.a8 key),.agg (.a8 (Am 12)),.c .nsl,.c (.bs box)] []) (.val (.tup [.c .nsl,.c (.val (.int .i64 ((PY key box:Nat):Int)))]) []):=by
 have go:∀e:Nat,Ev prog (.call 53 [.agg (.a8 key),.agg (.a8 (Am 12)),.c (.sl 0 0 0 0 1),.c (.sl 1 0 box.length box.length 1)] [.row false (.a8 []),.row false (.a8 box)]) (.val (.tup [.c .nsl,.c (.val (.int .i64 ((e:Nat):Int)))]) [.row false (.a8 []),.row false (.a8 box)])→Ev prog (.call 53 [.agg (.a8 key),.agg (.a8 (Am 12)),.c .nsl,.c (.bs box)] []) (.val (.tup [.c .nsl,.c (.val (.int .i64 ((e:Nat):Int)))]) []):=fun e h=>
  Ev.partsB (m:=[]) (m':=[.row false (.a8 []),.row false (.a8 box)]) (N:=[]) (N':=[]) [none,none] [1] (.no (.no .nil)) (.agg rfl (.agg rfl (.c .nil (.c (.same rfl) .nil)))) (.same (.same (.same (.bs rfl rfl .nil)))) rfl rfl h rfl rfl
 unfold PY at he ⊢
 by_cases h1:box.length<16
 ·rw [if_pos (.inl h1)]
  exact go _ (cd key (Am 12) [] 0 0 box box.length box.length hkey (BO 12) rfl D_ rfl hbn D_ h1)
 by_cases h2:65536<box.length-16
 ·rw [if_pos (.inr h2)]
  exact go _ (cL key (Am 12) [] 0 0 box box.length box.length hkey (BO 12) rfl D_ rfl hbn D_ O_ h2)
 rw [if_neg O_] at he ⊢
 by_cases h3:DC key (Am 12) [] (cut box 0 (box.length-16))=cut box (box.length-16) 16
 ·rw [if_pos h3] at he
  exact absurd rfl he
 ·rw [if_neg h3]
  exact go _ (dp key (Am 12) [] 0 0 box box.length box.length hkey (BO 12) rfl D_ rfl hbn D_ O_ O_ h3)
def sS(key box:AB 8):List (AB 8)×Nat:=if PY key box=0 then oV (Fl key (Am 12) box) else ([],PY key box)
theorem gq(key box:AB 8)(hkey:key.length=32)(hbn:box.length≤1099511627):Ev prog (.call 26 [Co key,.c (.bs box)] []) (.val (.tup [.c (.sl 0 0 (sS key box).1.length (sS key box).1.length 1),Aj (((sS key box).2:Nat):Int)]) [.row true (.ab (sS key box).1)]):=by
 unfold sS
 by_cases he:PY key box=0
 ·rw [if_pos he]
  have h1:16≤box.length∧box.length-16≤65536∧DC key (Am 12) [] (cut box 0 (box.length-16))=cut box (box.length-16) 16:=by
   unfold PY at he
   split at he
   ·cases he
   ·split at he
    ·rename_i h1 h2
     exact ⟨by omega,by omega,h2⟩
    ·cases he
  have hO:=dt key box hkey hbn h1.1 h1.2.1 h1.2.2
  have hl:(Fl key (Am 12) box).length=box.length-16:=by
   unfold Fl
   rw [JG _ _ _ _ hkey (BO 12),Cg]
   omega
  have h65:=h1.2.1
  generalize Fl key (Am 12) box=t at*
  generalize box.length-16=m at*
  have hS:=cZ t O_
  generalize oV t=q at*
  refine AJ func26 rfl ntmps26 rfl AN ?_;refine Bk ?_;refine El ?_;refine J2 ?_;refine YD ?_;refine AO ?_;refine FC (hO) sF ?_;refine CD ?_;refine Iu ?_;refine IB 6 rfl rfl hl AK ?_;refine BC ?_;refine Fu ?_;refine FC (hS) wZ ?_;refine Ty ?_;exact Cu
 ·rw [if_neg he]
  have hO:=jN key box hkey hbn he
  generalize PY key box=e at*
  refine AJ func26 rfl ntmps26 rfl AN ?_;refine Bk ?_;refine El ?_;refine J2 ?_;refine YD ?_;refine AO ?_;refine FC (hO) sF ?_;refine E1 ?_;refine Fu ?_;refine F6 ?_;refine Jn 4 1 (.ab []) rfl rfl AN rfl ?_;exact F7
section
variable {P:Program} {k:Nat} {ops:Array Oper} {l:List Oper} {N d:Nat} {T:Nat→AV} {M M':Ag} {K:St→Prop} {ty t t':TypeId} {pos:String} {af:Array Edge}
theorem kS{x:Operand}{n el:Nat}{y:AB 8}(hx:AC T x= .c (.bs y))(hu:P.underlying t=some (.array n el))(h1:n≤y.length)(h0:0<n):AI P (AC T) M (.sliceToArrayPointer t x)=some (.c (.qb y 0)):=by
 show LX P t (AC T x)=_
 rw [hx];simp [LX,hu,h1,h0]
theorem mP{a:Operand}{o n:Nat}{y:AB 8}(ha:AC T a= .c (.qb y o))(hr:A5 P t=some true)(hs:DN P t=some n)(h:o+n≤y.length)(h0:0<n):AI P (AC T) M (.load t a)=some (.agg (.a8 (cut y o n))):=by
 have hh:o+n≤(Arr.a8 y).size:=h
 simp [AI,ha,Eu,hr,hs,hh,h0,ra]
theorem bO{a:Operand}{n:Nat}{y:AB 8}(ha:AC T a= .c (.qb y 0))(hr:A5 P t=some true)(hs:DN P t=some n)(h:y.length=n)(h0:0<n):AI P (AC T) M (.load t a)=some (.agg (.a8 y)):=by
 have:=mP (P:=P) (M:=M) ha hr hs O_ h0
 rwa [HD h] at this
end
def Dq(x y:BitVec 64):BitVec 64:=(((x>>>32)*(y>>>32))+((((x>>>32)*(y&&&4294967295#64))+(((x&&&4294967295#64)*(y&&&4294967295#64))>>>32))>>>32))+((((((x>>>32)*(y&&&4294967295#64))+(((x&&&4294967295#64)*(y&&&4294967295#64))>>>32))&&&4294967295#64)+((x&&&4294967295#64)*(y>>>32)))>>>32)
def Ay(x y:BitVec 64):BitVec 64:=x*y
theorem Ug(k:r)(h:Hid r→g:=by intro h;refine AA (CQ (j:=32) rfl rfl) rfl ?_;exact h.out):g:=h ⟨k⟩
theorem Te(x y:BitVec 64):Ev prog (.call 163 [.c (.val (BP x)),.c (.val (BP y))] []) (.val (.tup [.c (.val (BP (Dq x y))),.c (.val (BP (Ay x y)))]) []):=by
 have hP_mul640:Hid (Dq x y=(((x>>>32)*(y>>>32))+((((x>>>32)*(y&&&4294967295#64))+(((x&&&4294967295#64)*(y&&&4294967295#64))>>>32))>>>32))+((((((x>>>32)*(y&&&4294967295#64))+(((x&&&4294967295#64)*(y&&&4294967295#64))>>>32))&&&4294967295#64)+((x&&&4294967295#64)*(y>>>32)))>>>32)):=⟨rfl⟩
 have hP_mul641:Hid (Ay x y=x*y):=⟨rfl⟩
 refine AJ func163 rfl ntmps163 rfl AN ?_;refine AG ?_;refine IM ?_;refine AA (FE (b:=4294967295#64) rfl rfl) rfl ?_;refine AY ?_;refine Ug ?_;refine AY ?_;refine AA (FE (b:=4294967295#64) rfl rfl) rfl ?_;refine AY ?_;refine Ug ?_;refine BB ?_;refine AA (GX rfl rfl) rfl ?_;refine BB ?_;refine AA (GX rfl rfl) rfl ?_;refine AO ?_;refine Ug ?_;refine DR ?_;refine AY ?_;refine AA (FE (b:=4294967295#64) rfl rfl) rfl ?_;refine AY ?_;refine Ug ?_;refine BB ?_;refine AO ?_;refine AA (GX rfl rfl) rfl ?_;refine DR ?_;refine BB ?_;refine AA (GX rfl rfl) rfl ?_;refine AO ?_;refine DR ?_;refine AO ?_;refine Ug ?_;refine DR ?_;refine BB ?_;refine AA (GX rfl rfl) rfl ?_;refine A7 ?_;rw [hP_mul640.out,hP_mul641.out]
 exact Sq
attribute [irreducible] Dq
attribute [irreducible] Ay
theorem pL(x y c:BitVec 64)(h:c.toNat≤1):(Cj x y c).toNat≤1:=by
 have:=x.isLt;have:=y.isLt
 unfold Cj
 rw [BitVec.toNat_ofNat]
 omega
theorem fm(x y c:BitVec 64):(Hl x y c).toNat≤1:=by
 unfold Hl
 split<;>decide
def Pl(X1:BitVec 64)(X2:AB 64)(j3:Nat):BitVec 64×AB 64:=((nth (put X2 j3 ((nth X2 j3)+X1)) j3)>>>51,put (put X2 j3 ((nth X2 j3)+X1)) j3 ((nth (put X2 j3 ((nth X2 j3)+X1)) j3)&&&2251799813685247#64))
def C0(a:AB 64):Nat→BitVec 64×AB 64
 |0=>(0#64,a)
 |j3+1=>Pl (C0 a j3).1 (C0 a j3).2 j3
theorem Kv(a:AB 64)(ha:a.length=5)(j3:Nat):(C0 a j3).2.length=5:=by
 induction j3 with
 |zero=>(simp [C0, *];done)
 |succ j3 ih=>rw [C0.eq_2,Pl];(simp [ih];done)
def A4(a:AB 64):AB 64:=put ((C0 a 5).2) 0 ((nth ((C0 a 5).2) 0)+(19#64*((C0 a 5).1)))
theorem C2(k:r)(h:Hid r→g:=by intro h;refine A2 (BR N5 AN) AK rfl ?_;exact h.out):g:=h ⟨k⟩
theorem Hf(k:r)(h:Hid r→g:=by intro h;refine AA (AP rfl rfl underlying160 BN O_) rfl ?_;exact h.out):g:=h ⟨k⟩
theorem Uj(k:r)(h:Hid r→g:=by intro h;refine AA (CQ (j:=51) rfl rfl) rfl ?_;exact h.out):g:=h ⟨k⟩
theorem Mf(k:r)(h:Hid r→g:=by intro h;refine AA (FE (b:=2251799813685247#64) rfl rfl) rfl ?_;exact h.out):g:=h ⟨k⟩
theorem QC(k:r)(h:Hid r→g:=by intro h;refine AA (BE (a:=5) (b:=5) rfl rfl) rfl ?_;exact h.out):g:=h ⟨k⟩
theorem M5(k:r)(h:Hid r→g:=by intro h;refine AA (AP (j:=0) rfl rfl underlying160 BN O_) rfl ?_;exact h.out):g:=h ⟨k⟩
theorem F3(k:r)(h:Hid r→g:=by intro h;refine AA (Bi rfl rfl Fd E9 C7 D_) rfl ?_;exact h.out):g:=h ⟨k⟩
theorem K5(k:r)(h:Hid r→g:=by intro h;refine B0 rfl rfl rfl rfl E9 C7 C7 AK ?_;refine AM ?_;refine S_ ?_;exact h.out):g:=h ⟨k⟩
theorem ME(h:g:=by exact fS (Iy rfl rfl Fd E9 C7 D_) (by (kernel_rfl))):g:=h
theorem LM(a:AB 64)(ha:a.length=5):Ev prog (.call 187 [EE (a)] []) (.val (EE (A4 a)) []):=by
 have hP:=Hid.mk (A4.eq_1 a)
 refine AJ func187 rfl ntmps187 rfl AN ?_;refine Bk ?_;refine C2 ?_;refine AS ?_;refine AY ?_;refine A1 ?_;refine AT [1,2,3,5] (fun (zz:Nat×BitVec 64×AB 64)=>⟨31,AQ [1,2,3,5] [Ai 0,Ai 1,.c (.val (BP (zz.2.1))),Aj (((zz.1:Nat):Int))],[CA (zz.2.2),CA (Af 5)]⟩) (fun j3=>(j3,C0 a j3)) (5) K_ ?_ ?_
 ·intro j3 hj3
  try dsimp only
  have hX2:(C0 a j3).2.length=5:=by rw [Kv a ha _];try omega
  rw [C0.eq_2,Pl]
  generalize C0 a j3=Z3 at*
  obtain ⟨X1,X2⟩:=Z3
  try dsimp only at*
  refine Ef ?_;refine AW ?_;refine AY ?_;refine Hf ?_;refine Db ?_;refine DR ?_;refine Hf ?_;refine FO ?_;refine AW ?_;refine Hf ?_;refine BM ?_;refine Uj ?_;refine AY ?_;refine Hf ?_;refine BM ?_;refine Mf ?_;refine Hf ?_;refine FR ?_;exact ⟨(j3+1,_),K_,rfl⟩
 ·try dsimp only
  have hY5:(C0 a 5).2.length=5:=by rw [Kv a ha _];try omega
  generalize C0 a 5=Z6 at*
  obtain ⟨Y4,Y5⟩:=Z6
  try dsimp only at*
  refine AG ?_;refine QC ?_;refine AS ?_;refine M5 ?_;refine Db ?_;refine AA (GX (a:=19#64) rfl rfl) rfl ?_;refine DR ?_;refine M5 ?_;refine FO ?_;refine AS ?_;refine F3 ?_;refine K5 ?_;rw [hP.out]
  exact ME
@[simp] theorem vu(a:AB 64)(ha:a.length=5):(A4 a).length=5:=by
 unfold A4
 (simp [Kv, *];done)
attribute [irreducible] A4
def Mn(a b:AB 64)(j3:Nat)(X3 X4:AB 64)(j6:Nat):AB 64×AB 64:=(put X3 ((j3+j6)%5) ((nth X3 ((j3+j6)%5))+((Dq (nth a j3) (if 5≤j3+j6 then (nth b j6)*19#64 else nth b j6))+(Cj (nth X4 ((j3+j6)%5)) (Ay (nth a j3) (if 5≤j3+j6 then (nth b j6)*19#64 else nth b j6)) 0#64))),put X4 ((j3+j6)%5) ((nth X4 ((j3+j6)%5))+(Ay (nth a j3) (if 5≤j3+j6 then (nth b j6)*19#64 else nth b j6))+0#64))
def CH(a b X1 X2:AB 64)(j3:Nat):Nat→AB 64×AB 64
 |0=>(X1,X2)
 |j6+1=>Mn a b j3 (CH a b X1 X2 j3 j6).1 (CH a b X1 X2 j3 j6).2 j6
theorem Ki(a b X1 X2:AB 64)(j3:Nat)(_ha:a.length=5)(_hb:b.length=5)(hX1:X1.length=5)(hX2:X2.length=5)(j6:Nat):(CH a b X1 X2 j3 j6).1.length=5∧(CH a b X1 X2 j3 j6).2.length=5:=by
 induction j6 with
 |zero=>refine ⟨?_,?_⟩<;>(simp (maxDischargeDepth:=9) [CH, *];done)
 |succ j6 ih=>
  obtain ⟨ih0,ih1⟩:=ih
  rw [CH.eq_2,Mn]
  refine ⟨?_,?_⟩<;>(simp (maxDischargeDepth:=9) [*];done)
theorem H5(a b X1 X2:AB 64)(j3:Nat)(ha:a.length=5)(hb:b.length=5)(hX1:X1.length=5)(hX2:X2.length=5)(j6:Nat):(CH a b X1 X2 j3 j6).1.length=5:=(Ki a b X1 X2 j3 ha hb hX1 hX2 j6).1
theorem IC(a b X1 X2:AB 64)(j3:Nat)(ha:a.length=5)(hb:b.length=5)(hX1:X1.length=5)(hX2:X2.length=5)(j6:Nat):(CH a b X1 X2 j3 j6).2.length=5:=(Ki a b X1 X2 j3 ha hb hX1 hX2 j6).2
def L9(a b X1 X2:AB 64)(j3:Nat):AB 64×AB 64:=(((CH a b X1 X2 j3 5).1),((CH a b X1 X2 j3 5).2))
def Ao(a b:AB 64):Nat→AB 64×AB 64
 |0=>(Af 5,Af 5)
 |j3+1=>L9 a b (Ao a b j3).1 (Ao a b j3).2 j3
theorem H2(a b:AB 64)(ha:a.length=5)(hb:b.length=5)(j3:Nat):(Ao a b j3).1.length=5∧(Ao a b j3).2.length=5:=by
 induction j3 with
 |zero=>refine ⟨?_,?_⟩<;>(simp (maxDischargeDepth:=9) [Ao, *];done)
 |succ j3 ih=>
  obtain ⟨ih0,ih1⟩:=ih
  rw [Ao.eq_2,L9]
  refine ⟨?_,?_⟩<;>(simp (maxDischargeDepth:=9) [H5,IC, *];done)
theorem Kh(a b:AB 64)(ha:a.length=5)(hb:b.length=5)(j3:Nat):(Ao a b j3).1.length=5:=(H2 a b ha hb j3).1
theorem Kj(a b:AB 64)(ha:a.length=5)(hb:b.length=5)(j3:Nat):(Ao a b j3).2.length=5:=(H2 a b ha hb j3).2
def N1(Y11 Y12:AB 64)(X14:BitVec 64)(X15:AB 64)(j21:Nat):BitVec 64×AB 64:=((((nth Y11 j21)+(Cj (nth Y12 j21) X14 0#64))<<<13) ||| (((nth Y12 j21)+X14+0#64)>>>51),put X15 j21 (((nth Y12 j21)+X14+0#64)&&&2251799813685247#64))
def BU(Y11 Y12:AB 64):Nat→BitVec 64×AB 64
 |0=>(0#64,Af 5)
 |j21+1=>N1 Y11 Y12 (BU Y11 Y12 j21).1 (BU Y11 Y12 j21).2 j21
theorem JQ(Y11 Y12:AB 64)(_hY11:Y11.length=5)(_hY12:Y12.length=5)(j21:Nat):(BU Y11 Y12 j21).2.length=5:=by
 induction j21 with
 |zero=>(simp (maxDischargeDepth:=9) [BU, *];done)
 |succ j21 ih=>rw [BU.eq_2,N1];(simp (maxDischargeDepth:=9) [ih];done)
def AF(a b:AB 64):AB 64:=A4 (put (put ((BU ((Ao a b 5).1) ((Ao a b 5).2) 5).2) 0 (((Ay ((BU ((Ao a b 5).1) ((Ao a b 5).2) 5).1) 19#64)+(nth ((BU ((Ao a b 5).1) ((Ao a b 5).2) 5).2) 0)+0#64)&&&2251799813685247#64)) 1 ((nth (put ((BU ((Ao a b 5).1) ((Ao a b 5).2) 5).2) 0 (((Ay ((BU ((Ao a b 5).1) ((Ao a b 5).2) 5).1) 19#64)+(nth ((BU ((Ao a b 5).1) ((Ao a b 5).2) 5).2) 0)+0#64)&&&2251799813685247#64)) 1)+((((Dq ((BU ((Ao a b 5).1) ((Ao a b 5).2) 5).1) 19#64)+(Cj (Ay ((BU ((Ao a b 5).1) ((Ao a b 5).2) 5).1) 19#64) (nth ((BU ((Ao a b 5).1) ((Ao a b 5).2) 5).2) 0) 0#64))<<<13) ||| (((Ay ((BU ((Ao a b 5).1) ((Ao a b 5).2) 5).1) 19#64)+(nth ((BU ((Ao a b 5).1) ((Ao a b 5).2) 5).2) 0)+0#64)>>>51))))
theorem Rm(k:r)(h:Hid r→g:=by intro h;refine AA (AP rfl rfl underlying159 BN O_) rfl ?_;exact h.out):g:=h ⟨k⟩
theorem Ui(k:r)(h:Hid r→g:=by intro h;refine Bq (fu Ta rfl rfl rfl (rfl:_=BP (0#64)) D_) AK rfl ?_;exact h.out):g:=h ⟨k⟩
theorem XC(k:r)(h:Hid r→g:=by intro h;refine AA (AP (j:=1) rfl rfl underlying160 BN O_) rfl ?_;exact h.out):g:=h ⟨k⟩
theorem IW(k:r)(h:Hid r→g:=by intro h;refine S_ ?_;refine Ac ?_;refine AA (Bi rfl rfl Fd E9 C7 D_) rfl ?_;exact h.out):g:=h ⟨k⟩
theorem Bd(a b:AB 64)(ha:a.length=5)(hb:b.length=5):Ev prog (.call 158 [EE (a),EE (b)] []) (.val (EE (AF a b)) []):=by
 have hP:=Hid.mk (AF.eq_1 a b)
 refine AJ func158 rfl ntmps158 rfl AN ?_;refine B5 ?_;refine C2 ?_;refine AS ?_;refine A2 (BR jp AN) AK rfl ?_;refine A2 (BR jp AN) AK rfl ?_;refine DF ?_;refine AT [2,3,4,5,6,22] (fun (zz:Nat×AB 64×AB 64)=>⟨122,AQ [2,3,4,5,6,22] [Ai 0,Ai 1,Ai 2,Ai 3,Ai 4,Aj (((zz.1:Nat):Int))],[CA (a),CA (b),CA (Af 5),CA (zz.2.1),CA (zz.2.2)]⟩) (fun j3=>(j3,Ao a b j3)) (5) K_ ?_ ?_
 ·intro j3 hj3
  try dsimp only
  have hX1:(Ao a b j3).1.length=5:=by rw [Kh a b ha hb _];try omega
  have hX2:(Ao a b j3).2.length=5:=by rw [Kj a b ha hb _];try omega
  rw [Ao.eq_2,L9]
  generalize Ao a b j3=Z3 at*
  obtain ⟨X1,X2⟩:=Z3
  try dsimp only at*
  refine Ef ?_;refine AW ?_;refine AY ?_;refine A1 ?_;refine AT [2,3,4,5,6,7,22,25] (fun (zz:Nat×AB 64×AB 64)=>⟨122,AQ [2,3,4,5,6,7,22,25] [Ai 0,Ai 1,Ai 2,Ai 3,Ai 4,Aj (((j3:Nat):Int)),Aj (((j3:Nat):Int)),Aj (((zz.1:Nat):Int))],[CA (a),CA (b),CA (Af 5),CA (zz.2.1),CA (zz.2.2)]⟩) (fun j6=>(j6,CH a b X1 X2 j3 j6)) (5) K_ ?_ ?_
  ·intro j6 hj6
   try dsimp only
   have hX4:(CH a b X1 X2 j3 j6).1.length=5:=by rw [H5 a b X1 X2 j3 ha hb hX1 hX2 _];try omega
   have hX5:(CH a b X1 X2 j3 j6).2.length=5:=by rw [IC a b X1 X2 j3 ha hb hX1 hX2 _];try omega
   rw [CH.eq_2,Mn]
   generalize CH a b X1 X2 j3 j6=Z6 at*
   obtain ⟨X4,X5⟩:=Z6
   try dsimp only at*
   refine Ef ?_;refine AW ?_;refine AY ?_;refine Hf ?_;refine BM ?_;refine BB ?_;refine Hu ?_;refine AA (MZ (b:=5) rfl rfl) rfl ?_;refine E6 ?_;refine Id [2,3,4,5,6,7,8,9,22,25] (fun (zz:BitVec 64)=>⟨122,AQ [2,3,4,5,6,7,8,9,22,25] [Ai 0,Ai 1,Ai 2,Ai 3,Ai 4,Aj (((j3:Nat):Int)),Aj (((j6:Nat):Int)),.c (.val (BP (zz))),Aj (((j3:Nat):Int)),Aj (((j6:Nat):Int))],[CA (a),CA (b),CA (Af 5),CA (X4),CA (X5)]⟩) (if 5≤j3+j6 then (nth b j6)*19#64 else nth b j6) rfl (fun hb=>?_) (fun hb=>?_) ?_
   ·have hb_:=of_decide_eq_true hb
    refine BC ?_;refine AA (GX (b:=19#64) rfl rfl) rfl ?_;refine A7 ?_;refine ⟨((nth b j6)*19#64),K_,?_⟩
    rw [if_pos (of_decide_eq_true hb)]
   ·have hb_:=of_decide_eq_false hb
    refine S_ ?_;refine ⟨(nth b j6),K_,?_⟩
    rw [if_neg (of_decide_eq_false hb)]
   generalize (if 5≤j3+j6 then (nth b j6)*19#64 else nth b j6)=J7 at*
   refine BC ?_;refine Hf ?_;refine Db ?_;refine BL (Te (nth a j3) J7) ci ?_;refine CD ?_;refine Fm ?_;refine BB ?_;refine Hu ?_;refine bf ?_;refine Ad ?_;refine BB ?_;refine Rm ?_;refine Db ?_;refine Ui ?_;refine CD ?_;refine Rm ?_;refine FO ?_;refine AY ?_;refine Rm ?_;refine Db ?_;refine AO ?_;refine DR ?_;refine DR ?_;refine Rm ?_;refine FR ?_;exact ⟨(j6+1,_),K_,rfl⟩
  ·try dsimp only
   have hY8:(CH a b X1 X2 j3 5).1.length=5:=by rw [H5 a b X1 X2 j3 ha hb hX1 hX2 _];try omega
   have hY9:(CH a b X1 X2 j3 5).2.length=5:=by rw [IC a b X1 X2 j3 ha hb hX1 hX2 _];try omega
   generalize CH a b X1 X2 j3 5=Z10 at*
   obtain ⟨Y8,Y9⟩:=Z10
   try dsimp only at*
   refine AG ?_;refine QC ?_;refine Do ?_;exact ⟨(j3+1,_),K_,rfl⟩
 ·try dsimp only
  have hY11:(Ao a b 5).1.length=5:=by rw [Kh a b ha hb _];try omega
  have hY12:(Ao a b 5).2.length=5:=by rw [Kj a b ha hb _];try omega
  generalize Ao a b 5=Z13 at*
  obtain ⟨Y11,Y12⟩:=Z13
  try dsimp only at*
  refine AG ?_;refine QC ?_;refine AS ?_;refine C2 ?_;refine AS ?_;refine AY ?_;refine A1 ?_;refine AT [4,5,6,14,15,69] (fun (zz:Nat×BitVec 64×AB 64)=>⟨122,AQ [4,5,6,14,15,69] [Ai 0,Ai 1,Ai 2,Ai 3,.c (.val (BP (zz.2.1))),Aj (((zz.1:Nat):Int))],[CA (Af 5),CA (Y11),CA (Y12),CA (zz.2.2)]⟩) (fun j21=>(j21,BU Y11 Y12 j21)) (5) K_ ?_ ?_
  ·intro j21 hj21
   try dsimp only
   have hX15:(BU Y11 Y12 j21).2.length=5:=by rw [JQ Y11 Y12 hY11 hY12 _];try omega
   rw [BU.eq_2,N1]
   generalize BU Y11 Y12 j21=Z16 at*
   obtain ⟨X14,X15⟩:=Z16
   try dsimp only at*
   refine Ef ?_;refine AW ?_;refine AY ?_;refine Rm ?_;refine Db ?_;refine Ui ?_;refine CD ?_;refine Fm ?_;refine BB ?_;refine Mf ?_;refine Hf ?_;refine FO ?_;refine AW ?_;refine Rm ?_;refine Db ?_;refine DR ?_;refine AA (B2 (j:=13) rfl rfl) rfl ?_;refine AO ?_;refine Uj ?_;refine FY ?_;refine Ad ?_;refine FW ?_;exact ⟨(j21+1,_),K_,rfl⟩
  ·try dsimp only
   have hY18:(BU Y11 Y12 5).2.length=5:=by rw [JQ Y11 Y12 hY11 hY12 _];try omega
   generalize BU Y11 Y12 5=Z19 at*
   obtain ⟨Y17,Y18⟩:=Z19
   try dsimp only at*
   refine AG ?_;refine QC ?_;refine AW ?_;refine BL (Te Y17 19#64) ci ?_;refine E1 ?_;refine M5 ?_;refine BM ?_;refine Ui ?_;refine E1 ?_;refine Mf ?_;refine M5 ?_;refine FO ?_;refine AS ?_;refine XC ?_;refine Db ?_;refine AO ?_;refine DR ?_;refine AA (B2 (j:=13) rfl rfl) rfl ?_;refine AO ?_;refine Uj ?_;refine FY ?_;refine DR ?_;refine XC ?_;refine FO ?_;refine AM ?_;have hQ20:(A4 (put (put Y18 0 (((Ay Y17 19#64)+(nth Y18 0)+0#64)&&&2251799813685247#64)) 1 ((nth (put Y18 0 (((Ay Y17 19#64)+(nth Y18 0)+0#64)&&&2251799813685247#64)) 1)+((((Dq Y17 19#64)+(Cj (Ay Y17 19#64) (nth Y18 0) 0#64))<<<13) ||| (((Ay Y17 19#64)+(nth Y18 0)+0#64)>>>51))))).length=5:=Au
   refine IW ?_;refine BL (LM (put (put Y18 0 (((Ay Y17 19#64)+(nth Y18 0)+0#64)&&&2251799813685247#64)) 1 ((nth (put Y18 0 (((Ay Y17 19#64)+(nth Y18 0)+0#64)&&&2251799813685247#64)) 1)+((((Dq Y17 19#64)+(Cj (Ay Y17 19#64) (nth Y18 0) 0#64))<<<13) ||| (((Ay Y17 19#64)+(nth Y18 0)+0#64)>>>51)))) AD) R7 ?_
   refine K5 ?_;rw [hP.out]
   exact ME
@[simp] theorem ve(a b:AB 64)(ha:a.length=5)(hb:b.length=5):(AF a b).length=5:=by
 unfold AF
 (simp (maxDischargeDepth:=9) [Kh,Kj,JQ, *];done)
attribute [irreducible] AF
def AH(x:BitVec 64):AB 64:=put (Af 5) 0 x
theorem DA(x:BitVec 64):Ev prog (.call 155 [.c (.val (BP x))] []) (.val (EE (AH x)) []):=by
 have hP:=Hid.mk (AH.eq_1 x)
 refine AJ func155 rfl ntmps155 rfl AN ?_;refine AG ?_;refine C2 ?_;refine AW ?_;refine AA (qZ tq underlying160 BN rfl rfl rfl) rfl ?_;refine K5 ?_;rw [hP.out]
 exact ME
@[simp] theorem rp(x:BitVec 64):(AH x).length=5:=by
 unfold AH
 (simp [*];done)
attribute [irreducible] AH
def Ph(b X1:AB 64)(j2:Nat):AB 64:=put X1 j2 ((nth X1 j2)+(nth b j2))
def E0(a b:AB 64):Nat→AB 64
 |0=>a
 |j2+1=>Ph b (E0 a b j2) j2
theorem MH(a b:AB 64)(ha:a.length=5)(j2:Nat):(E0 a b j2).length=5:=by
 induction j2 with
 |zero=>(simp [E0, *];done)
 |succ j2 ih=>rw [E0.eq_2,Ph];(simp [ih];done)
def AU(a b:AB 64):AB 64:=A4 (E0 a b 5)
theorem P3(k:r)(h:Hid r→g:=by intro h;refine AE (AP rfl rfl underlying160 BN O_) rfl ?_;exact h.out):g:=h ⟨k⟩
theorem FS(a b:AB 64)(ha:a.length=5)(hb:b.length=5):Ev prog (.call 156 [EE (a),EE (b)] []) (.val (EE (AU a b)) []):=by
 have hP:=Hid.mk (AU.eq_1 a b)
 refine AJ func156 rfl ntmps156 rfl AN ?_;refine B5 ?_;refine C2 ?_;refine DF ?_;refine AT [2,3,4,6] (fun (zz:Nat×AB 64)=>⟨20,AQ [2,3,4,6] [Ai 0,Ai 1,Ai 2,Aj (((zz.1:Nat):Int))],[CA (zz.2),CA (b),CA (Af 5)]⟩) (fun j2=>(j2,E0 a b j2)) (5) K_ ?_ ?_
 ·intro j2 hj2
  try dsimp only
  have hX1:(E0 a b j2).length=5:=by rw [MH a b ha _];try omega
  rw [E0.eq_2,Ph]
  generalize E0 a b j2=X1 at*
  refine Ef ?_;refine CU ?_;refine QA ?_;refine A0 ?_;refine P3 ?_;refine Hm ?_;refine P3 ?_;refine G6 ?_;refine Jq ?_;refine P3 ?_;refine Bc ?_;refine FR ?_;exact ⟨(j2+1,_),K_,rfl⟩
 ·try dsimp only
  have hY2:(E0 a b 5).length=5:=by rw [MH a b ha _];try omega
  generalize E0 a b 5=Y2 at*
  refine AG ?_;refine QC ?_;refine AM ?_;have hQ3:(A4 Y2).length=5:=Au
  refine IW ?_;refine BL (LM Y2 AD) R7 ?_;refine K5 ?_;rw [hP.out]
  exact ME
@[simp] theorem vg(a b:AB 64)(ha:a.length=5)(_hb:b.length=5):(AU a b).length=5:=by
 unfold AU
 (simp [MH, *];done)
attribute [irreducible] AU
end Go.Proofs.YtmbepikkgkcgkaaGreatDoor
