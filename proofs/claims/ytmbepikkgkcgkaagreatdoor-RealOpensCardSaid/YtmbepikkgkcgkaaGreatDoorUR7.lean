/- Merged and shortened by a program: part 7. -/
import Derived.Test.YtmbepikkgkcgkaaGreatDoorUR6
set_option maxRecDepth 100000
set_option maxHeartbeats 8000000
namespace Go.Proofs.YtmbepikkgkcgkaaGreatDoor
open Go.RowKit
variable {g r : Prop}
open Go.Proofs.Tryz
def U9(X1:AA 8):AA 8:=X1++[0#8]
def GZ(tx:AA 8):Nat→AA 8
 |0=>tx++[128#8]
 |j3+1=>U9 (GZ tx j3)
@[simp] theorem MV(tx:AA 8)(j3:Nat):(GZ tx j3).length=(tx.length+1)+j3:=by
 induction j3 with
 |zero=>(simp [GZ, *];done)
 |succ j3 ih=>rw [GZ.eq_2,U9];(simp [ih];omega)
def RH(tx X3:AA 8)(j7:Nat):AA 8:=(if 8≤7-j7 then X3++[0#8] else X3++[(((BitVec.ofNat 64 tx.length)*8#64)>>>(8#64*(BitVec.ofNat 64 (7-j7))).toNat).setWidth 8])
def Fh(tx Y2:AA 8):Nat→AA 8
 |0=>Y2
 |j7+1=>RH tx (Fh tx Y2 j7) j7
@[simp] theorem Qr(tx Y2:AA 8)(j7:Nat):(Fh tx Y2 j7).length=Y2.length+j7:=by
 induction j7 with
 |zero=>(simp [Fh, *];done)
 |succ j7 ih=>rw [Fh.eq_2,RH];(split<;>first | (simp [ih];done) | (simp [ih];omega) | (simp [MV, *];done))
def Nk(tx:AA 8):AA 8:=(Fh tx (GZ tx ((120-(tx.length+1)%64)%64)) 8)
theorem QE(k:r)(h:Hid r→g:=by intro h;refine AB (F9 rfl underlying3 underlying71 (AA6 _)) rfl ?_;exact h.out):g:=h ⟨k⟩
theorem zV(b:AA 8)(o n cap:Nat)(hb:o+n≤b.length)(hn:n≤4398046511104):Ev prog (.call 65 [.c (.sl 0 o n cap 1),At ((64:Nat):Int),At ((8:Nat):Int)] [A0 (b)]) (.val (.c (.sl 1 0 (((n+1)+(120-(n+1)%64)%64)+8) (((n+1)+(120-(n+1)%64)%64)+8) 1)) [A0 (b),BP (Nk (cut b o n))]):=by
 have hP:=Hid.mk (Nk.eq_1 (cut b o n))
 have htx:(cut b o n).length=n:=by rw [BV];omega
 try simp only [htx] at hP
 refine AI func65 rfl ntmps65 rfl AM ?_;refine P3 ?_;refine Be ?_;refine Ap (nC rfl rfl rfl underlying23 underlying23 KM Wg O_ AM) AT rfl ?_;refine gQ ?_;refine DD ?_;refine Al ?_;refine AK [0,1,2,7] (fun (zz:Nat×AA 8)=>⟨50,AU [0,1,2,7] [.c (.sl 0 o n cap 1),At (((64:Nat):Int)),At (((8:Nat):Int)),.c (.sl 1 0 ((n+1)+zz.1) ((n+1)+zz.1) 1)],[A0 (b),BP (zz.2)]⟩) (fun j3=>(j3,GZ (cut b o n) j3)) ((120-(n+1)%64)%64) K_ ?_ ?_
 ·intro j3 hj3
  try dsimp only
  have hX1:(GZ (cut b o n) j3).length=(n+1)+j3:=by rw [MV (cut b o n) _];try omega
  rw [GZ.eq_2,U9]
  try simp only [htx]
  generalize GZ (cut b o n) j3=X1 at*
  refine JI ?_;refine AX ?_;refine AB (B8 (b:=8) rfl rfl O_) rfl ?_;refine AX ?_;refine U6 ?_;refine Jm ?_;refine Ak ?_;refine Wf ?_;refine DD ?_;refine BZ ?_;exact ⟨(j3+1,_),K_,rfl⟩
 ·try dsimp only
  have hY2:(GZ (cut b o n) ((120-(n+1)%64)%64)).length=(n+1)+(120-(n+1)%64)%64:=by rw [MV (cut b o n) _];try omega
  generalize GZ (cut b o n) ((120-(n+1)%64)%64)=Y2 at*
  refine JI ?_;refine AX ?_;refine AB (B8 (b:=8) rfl rfl O_) rfl ?_;refine AX ?_;refine U6 ?_;refine Jm ?_;refine Jk ?_;refine Yr ?_;refine AB (Gx (b:=8#64) rfl rfl) rfl ?_;refine BF ?_;refine AB (E4 (a:=8) (b:=1) rfl rfl O_ O_) rfl ?_;refine Al ?_;refine AK [7,8,9] (fun (zz:Nat×AA 8)=>⟨50,AU [7,8,9] [.c (.sl 1 0 (((n+1)+(120-(n+1)%64)%64)+zz.1) (((n+1)+(120-(n+1)%64)%64)+zz.1) 1),.c (.val (Bp ((BitVec.ofNat 64 n)*8#64))),At (((7:Nat):Int)-((zz.1:Nat):Int))],[A0 (b),BP (zz.2)]⟩) (fun j7=>(j7,Fh (cut b o n) Y2 j7)) (8) K_ ?_ ?_
  ·intro j7 hj7
   try dsimp only
   have hX3:(Fh (cut b o n) Y2 j7).length=((n+1)+(120-(n+1)%64)%64)+j7:=by rw [Qr (cut b o n) Y2 _];try omega
   rw [Fh.eq_2,RH]
   try simp only [htx]
   generalize Fh (cut b o n) Y2 j7=X3 at*
   rw [show ((7:Nat):Int)-((j7:Nat):Int)=((7-j7:Nat):Int) from by omega]
   refine PH ?_;refine Ak ?_;refine AB (XH (b:=8) rfl rfl) rfl ?_;refine EA ?_;refine Eb [7,8,9] (fun (zz:AA 8)=>⟨50,AU [7,8,9] [.c (.sl 1 0 ((((n+1)+(120-(n+1)%64)%64)+j7)+1) ((((n+1)+(120-(n+1)%64)%64)+j7)+1) 1),.c (.val (Bp ((BitVec.ofNat 64 n)*8#64))),At (((7-j7:Nat):Int))],[A0 (b),BP (zz)]⟩) (if 8≤7-j7 then X3++[0#8] else X3++[(((BitVec.ofNat 64 n)*8#64)>>>(8#64*(BitVec.ofNat 64 (7-j7))).toNat).setWidth 8]) rfl (fun hb=>?_) (fun hb=>?_) ?_
   ·have hb_:=of_decide_eq_true hb
    refine A1 ?_;refine Wf ?_;refine DD ?_;refine Al ?_;refine ⟨(X3++[0#8]),K_,?_⟩
    rw [if_pos (of_decide_eq_true hb)]
   ·have hb_:=of_decide_eq_false hb
    refine CK ?_;refine AX ?_;refine QE ?_;refine AB (Gx (a:=8#64) rfl rfl) rfl ?_;refine Vv ?_;refine RS ?_;refine Yp ?_;refine DD ?_;refine Al ?_;refine ⟨(X3++[(((BitVec.ofNat 64 n)*8#64)>>>(8#64*(BitVec.ofNat 64 (7-j7))).toNat).setWidth 8]),K_,?_⟩
    rw [if_neg (of_decide_eq_false hb)]
   have hJ4:(if 8≤7-j7 then X3++[0#8] else X3++[(((BitVec.ofNat 64 n)*8#64)>>>(8#64*(BitVec.ofNat 64 (7-j7))).toNat).setWidth 8]).length=(((n+1)+(120-(n+1)%64)%64)+j7)+1:=by split<;>simp [*]
   generalize (if 8≤7-j7 then X3++[0#8] else X3++[(((BitVec.ofNat 64 n)*8#64)>>>(8#64*(BitVec.ofNat 64 (7-j7))).toNat).setWidth 8])=J4 at*
   refine A1 ?_;refine PE ?_;refine ⟨(j7+1,_),(by
    dsimp only
    rw [show ((7:Nat):Int)-((j7+1:Nat):Int)=((7-j7:Nat):Int)-1 from by omega]
    kernel_rfl),rfl⟩
  ·try dsimp only
   have hY5:(Fh (cut b o n) Y2 8).length=((n+1)+(120-(n+1)%64)%64)+8:=by rw [Qr (cut b o n) Y2 _];try omega
   generalize Fh (cut b o n) Y2 8=Y5 at*
   refine RU ?_;refine Eg ?_;rw [hP.out]
   exact CF
@[simp] theorem AHs(tx:AA 8):(Nk tx).length=((tx.length+1)+(120-(tx.length+1)%64)%64)+8:=by
 unfold Nk
 (simp [MV,Qr, *];done)
attribute [irreducible] Nk
def JS:AA 32:=[1116352408#32,1899447441#32,3049323471#32,3921009573#32,961987163#32,1508970993#32,2453635748#32,2870763221#32,3624381080#32,310598401#32,607225278#32,1426881987#32,1925078388#32,2162078206#32,2614888103#32,3248222580#32,3835390401#32,4022224774#32,264347078#32,604807628#32,770255983#32,1249150122#32,1555081692#32,1996064986#32,2554220882#32,2821834349#32,2952996808#32,3210313671#32,3336571891#32,3584528711#32,113926993#32,338241895#32,666307205#32,773529912#32,1294757372#32,1396182291#32,1695183700#32,1986661051#32,2177026350#32,2456956037#32,2730485921#32,2820302411#32,3259730800#32,3345764771#32,3516065817#32,3600352804#32,4094571909#32,275423344#32,430227734#32,506948616#32,659060556#32,883997877#32,958139571#32,1322822218#32,1537002063#32,1747873779#32,1955562222#32,2024104815#32,2227730452#32,2361852424#32,2428436474#32,2756734187#32,3204031479#32,3329325298#32]
theorem vg:Ev prog (.call 64 [] []) (.val (.agg (.a32 (JS))) []):=by
 have hP:=Hid.mk (JS.eq_1)
 refine AI func64 rfl ntmps64 rfl AM ?_;refine Ab ?_;refine Ap (Ay jb AM) AT rfl ?_;refine AZ ?_;refine AB (Zb (l:=[1116352408#32,1899447441#32,3049323471#32,3921009573#32,961987163#32,1508970993#32,2453635748#32,2870763221#32,3624381080#32,310598401#32,607225278#32,1426881987#32,1925078388#32,2162078206#32,2614888103#32,3248222580#32,3835390401#32,4022224774#32,264347078#32,604807628#32,770255983#32,1249150122#32,1555081692#32,1996064986#32,2554220882#32,2821834349#32,2952996808#32,3210313671#32,3336571891#32,3584528711#32,113926993#32,338241895#32,666307205#32,773529912#32,1294757372#32,1396182291#32,1695183700#32,1986661051#32,2177026350#32,2456956037#32,2730485921#32,2820302411#32,3259730800#32,3345764771#32,3516065817#32,3600352804#32,4094571909#32,275423344#32,430227734#32,506948616#32,659060556#32,883997877#32,958139571#32,1322822218#32,1537002063#32,1747873779#32,1955562222#32,2024104815#32,2227730452#32,2361852424#32,2428436474#32,2756734187#32,3204031479#32,3329325298#32]) AEm underlying111 Bi rfl rfl D_) rfl ?_;refine Bs rfl rfl rfl rfl oh B7 B7 AT ?_;refine Ar ?_;rw [hP.out]
 exact kG (Hu rfl rfl AC6 oh B7 D_) (by (kernel_rfl))
@[simp] theorem AGu:(JS).length=64:=by
 unfold JS
 (simp [*];done)
attribute [irreducible] JS
def KE:AA 64:=[4794697086780616226#64,8158064640168781261#64,13096744586834688815#64,16840607885511220156#64,4131703408338449720#64,6480981068601479193#64,10538285296894168987#64,12329834152419229976#64,15566598209576043074#64,1334009975649890238#64,2608012711638119052#64,6128411473006802146#64,8268148722764581231#64,9286055187155687089#64,11230858885718282805#64,13951009754708518548#64,16472876342353939154#64,17275323862435702243#64,1135362057144423861#64,2597628984639134821#64,3308224258029322869#64,5365058923640841347#64,6679025012923562964#64,8573033837759648693#64,10970295158949994411#64,12119686244451234320#64,12683024718118986047#64,13788192230050041572#64,14330467153632333762#64,15395433587784984357#64,489312712824947311#64,1452737877330783856#64,2861767655752347644#64,3322285676063803686#64,5560940570517711597#64,5996557281743188959#64,7280758554555802590#64,8532644243296465576#64,9350256976987008742#64,10552545826968843579#64,11727347734174303076#64,12113106623233404929#64,14000437183269869457#64,14369950271660146224#64,15101387698204529176#64,15463397548674623760#64,17586052441742319658#64,1182934255886127544#64,1847814050463011016#64,2177327727835720531#64,2830643537854262169#64,3796741975233480872#64,4115178125766777443#64,5681478168544905931#64,6601373596472566643#64,7507060721942968483#64,8399075790359081724#64,8693463985226723168#64,9568029438360202098#64,10144078919501101548#64,10430055236837252648#64,11840083180663258601#64,13761210420658862357#64,14299343276471374635#64,14566680578165727644#64,15097957966210449927#64,16922976911328602910#64,17689382322260857208#64,500013540394364858#64,748580250866718886#64,1242879168328830382#64,1977374033974150939#64,2944078676154940804#64,3659926193048069267#64,4368137639120453308#64,4836135668995329356#64,5532061633213252278#64,6448918945643986474#64,6902733635092675308#64,7801388544844847127#64]
theorem vy:Ev prog (.call 176 [] []) (.val (Aw (KE)) []):=by
 have hP:=Hid.mk (KE.eq_1)
 refine AI func176 rfl ntmps176 rfl AM ?_;refine Ab ?_;refine Ap (Ay ib AM) AT rfl ?_;refine AZ ?_;refine AB (JX (l:=[4794697086780616226#64,8158064640168781261#64,13096744586834688815#64,16840607885511220156#64,4131703408338449720#64,6480981068601479193#64,10538285296894168987#64,12329834152419229976#64,15566598209576043074#64,1334009975649890238#64,2608012711638119052#64,6128411473006802146#64,8268148722764581231#64,9286055187155687089#64,11230858885718282805#64,13951009754708518548#64,16472876342353939154#64,17275323862435702243#64,1135362057144423861#64,2597628984639134821#64,3308224258029322869#64,5365058923640841347#64,6679025012923562964#64,8573033837759648693#64,10970295158949994411#64,12119686244451234320#64,12683024718118986047#64,13788192230050041572#64,14330467153632333762#64,15395433587784984357#64,489312712824947311#64,1452737877330783856#64,2861767655752347644#64,3322285676063803686#64,5560940570517711597#64,5996557281743188959#64,7280758554555802590#64,8532644243296465576#64,9350256976987008742#64,10552545826968843579#64,11727347734174303076#64,12113106623233404929#64,14000437183269869457#64,14369950271660146224#64,15101387698204529176#64,15463397548674623760#64,17586052441742319658#64,1182934255886127544#64,1847814050463011016#64,2177327727835720531#64,2830643537854262169#64,3796741975233480872#64,4115178125766777443#64,5681478168544905931#64,6601373596472566643#64,7507060721942968483#64,8399075790359081724#64,8693463985226723168#64,9568029438360202098#64,10144078919501101548#64,10430055236837252648#64,11840083180663258601#64,13761210420658862357#64,14299343276471374635#64,14566680578165727644#64,15097957966210449927#64,16922976911328602910#64,17689382322260857208#64,500013540394364858#64,748580250866718886#64,1242879168328830382#64,1977374033974150939#64,2944078676154940804#64,3659926193048069267#64,4368137639120453308#64,4836135668995329356#64,5532061633213252278#64,6448918945643986474#64,6902733635092675308#64,7801388544844847127#64]) AFE underlying201 Am rfl rfl D_) rfl ?_;refine Bs rfl rfl rfl rfl qU B7 B7 AT ?_;refine Ar ?_;rw [hP.out]
 exact kG (Hu rfl rfl ABq qU B7 D_) (by (kernel_rfl))
@[simp] theorem AGm:(KE).length=80:=by
 unfold KE
 (simp [*];done)
attribute [irreducible] KE
def FM(x:BitVec 32)(n:Nat):BitVec 32:=Ck x (-((n:Nat):Int))
theorem Fn(x:BitVec 32)(n:Nat)(hn:n≤1099511627776):Ev prog (.call 66 [.c (.val (EQ x)),At ((n:Nat):Int)] []) (.val (.c (.val (EQ (FM x n)))) []):=by
 have hP:=Hid.mk (FM.eq_1 x n)
 refine AI func66 rfl ntmps66 rfl AM ?_;refine Ab ?_;refine Be ?_;refine AB (lK rfl O_) rfl ?_;refine Ae (Cf x (-((n:Nat):Int))) KG ?_;refine Al ?_;rw [hP.out]
 exact CF
attribute [irreducible] FM
def FK(x:BitVec 64)(n:Nat):BitVec 64:=Hf x (-((n:Nat):Int))
theorem Fl(x:BitVec 64)(n:Nat)(hn:n≤1099511627776):Ev prog (.call 177 [.c (.val (Bp x)),At ((n:Nat):Int)] []) (.val (.c (.val (Bp (FK x n)))) []):=by
 have hP:=Hid.mk (FK.eq_1 x n)
 refine AI func177 rfl ntmps177 rfl AM ?_;refine Ab ?_;refine Be ?_;refine AB (lK rfl O_) rfl ?_;refine Ae (GL x (-((n:Nat):Int))) NJ ?_;refine Al ?_;rw [hP.out]
 exact CF
attribute [irreducible] FK
def Nx(tx:AA 8)(j5 j9:Nat)(X6:AA 32)(j13:Nat):AA 32:=put X6 j9 (((nth X6 j9)<<<8) ||| ((nth (Nk tx) (((64*j5)+(4*j9))+j13)).setWidth 32))
def EN(tx:AA 8)(j5:Nat)(X4:AA 32)(j9:Nat):Nat→AA 32
 |0=>X4
 |j13+1=>Nx tx j5 j9 (EN tx j5 X4 j9 j13) j13
theorem Ib(tx:AA 8)(j5:Nat)(X4:AA 32)(j9:Nat)(hX4:X4.length=64)(j13:Nat):(EN tx j5 X4 j9 j13).length=64:=by
 induction j13 with
 |zero=>(simp [EN, *];done)
 |succ j13 ih=>rw [EN.eq_2,Nx];(simp [ih];done)
def Qx(tx:AA 8)(j5:Nat)(X4:AA 32)(j9:Nat):AA 32:=if j9<16 then (EN tx j5 X4 j9 4) else put X4 j9 ((((nth X4 (j9-16))+(nth X4 (j9-7)))+(((FM (nth X4 (j9-15)) 7)^^^(FM (nth X4 (j9-15)) 18))^^^((nth X4 (j9-15))>>>3)))+(((FM (nth X4 (j9-2)) 17)^^^(FM (nth X4 (j9-2)) 19))^^^((nth X4 (j9-2))>>>10)))
def F7(tx:AA 8)(j5:Nat):Nat→AA 32
 |0=>DF 64
 |j9+1=>Qx tx j5 (F7 tx j5 j9) j9
@[simp] theorem Mf(tx:AA 8)(j5 j9:Nat):(F7 tx j5 j9).length=64:=by
 induction j9 with
 |zero=>(simp [F7, *];done)
 |succ j9 ih=>rw [F7.eq_2,Qx];(split<;>first | (simp [ih];done) | (simp [ih];omega) | (simp [Ib, *];done))
def Ng(Y5 X6:AA 32)(j20:Nat):AA 32:=[(((((nth X6 7)+(((FM (nth X6 4) 6)^^^(FM (nth X6 4) 11))^^^(FM (nth X6 4) 25)))+(((nth X6 4)&&&(nth X6 5))^^^((~~~(nth X6 4))&&&(nth X6 6))))+(nth JS j20))+(nth Y5 j20))+((((FM (nth X6 0) 2)^^^(FM (nth X6 0) 13))^^^(FM (nth X6 0) 22))+((((nth X6 0)&&&(nth X6 1))^^^((nth X6 0)&&&(nth X6 2)))^^^((nth X6 1)&&&(nth X6 2)))),nth X6 0,nth X6 1,nth X6 2,(nth X6 3)+(((((nth X6 7)+(((FM (nth X6 4) 6)^^^(FM (nth X6 4) 11))^^^(FM (nth X6 4) 25)))+(((nth X6 4)&&&(nth X6 5))^^^((~~~(nth X6 4))&&&(nth X6 6))))+(nth JS j20))+(nth Y5 j20)),nth X6 4,nth X6 5,nth X6 6]
def Eo(X3 Y5:AA 32):Nat→AA 32
 |0=>X3
 |j20+1=>Ng Y5 (Eo X3 Y5 j20) j20
theorem K2(X3 Y5:AA 32)(hX3:X3.length=8)(_hY5:Y5.length=64)(j20:Nat):(Eo X3 Y5 j20).length=8:=by
 induction j20 with
 |zero=>(simp [Eo, *];done)
 |succ j20 ih=>rw [Eo.eq_2,Ng];(simp;done)
def Se(Y7 X8:AA 32)(j27:Nat):AA 32:=put X8 j27 ((nth X8 j27)+(nth Y7 j27))
def Et(X3 Y7:AA 32):Nat→AA 32
 |0=>X3
 |j27+1=>Se Y7 (Et X3 Y7 j27) j27
theorem K4(X3 Y7:AA 32)(hX3:X3.length=8)(j27:Nat):(Et X3 Y7 j27).length=8:=by
 induction j27 with
 |zero=>(simp [Et, *];done)
 |succ j27 ih=>rw [Et.eq_2,Se];(simp [ih];done)
def Qe(tx:AA 8)(X3:AA 32)(j5:Nat):AA 32:=(Et X3 (Eo X3 (F7 tx j5 64) 64) 8)
def GU(tx:AA 8):Nat→AA 32
 |0=>[1779033703#32,3144134277#32,1013904242#32,2773480762#32,1359893119#32,2600822924#32,528734635#32,1541459225#32]
 |j5+1=>Qe tx (GU tx j5) j5
@[simp] theorem Pq(tx:AA 8)(j5:Nat):(GU tx j5).length=8:=by
 induction j5 with
 |zero=>(simp [GU, *];done)
 |succ j5 ih=>rw [GU.eq_2,Qe];(simp [K4, *];done)
def Ns(Y13:AA 32)(X14:AA 8)(j32:Nat):AA 8:=put X14 j32 (((nth Y13 (j32/4))>>>(BitVec.ofNat 64 (24-(8*(j32%4)))).toNat).setWidth 8)
def Es(Y13:AA 32):Nat→AA 8
 |0=>Ac 32
 |j32+1=>Ns Y13 (Es Y13 j32) j32
@[simp] theorem Ob(Y13:AA 32)(j32:Nat):(Es Y13 j32).length=32:=by
 induction j32 with
 |zero=>(simp [Es, *];done)
 |succ j32 ih=>rw [Es.eq_2,Ns];(simp [ih];done)
def ET(tx:AA 8):AA 8:=(Es (GU tx (((((tx.length+1)+(120-(tx.length+1)%64)%64)+8)+63)/64)) 32)
theorem Lh(k:r)(h:Hid r→g:=by intro h;refine Ap (Ay YJ AM) AT rfl ?_;refine AR ?_;exact h.out):g:=h ⟨k⟩
theorem Hh(k:r)(h:Hid r→g:=by intro h;refine S_ ?_;refine A2 ?_;refine AB (Ao rfl) rfl ?_;refine AB (A8 (b:=64) rfl rfl) rfl ?_;exact h.out):g:=h ⟨k⟩
theorem iW(k:r)(h:Hid r→g:=by intro h;refine B5 17 mixed K_ rfl rfl rfl ?_;exact h.out):g:=h ⟨k⟩
theorem P0(k:r)(h:Hid r→g:=by intro h;refine AH (B8 rfl rfl O_) rfl ?_;exact h.out):g:=h ⟨k⟩
theorem Up(k:r)(h:Hid r→g:=by intro h;refine AH (F9 rfl underlying5 underlying106 (AEP _)) rfl ?_;exact h.out):g:=h ⟨k⟩
theorem I7(k:r)(h:Hid r→g:=by intro h;refine AH (A6 rfl) rfl ?_;refine BJ ?_;refine AR ?_;refine S_ ?_;exact h.out):g:=h ⟨k⟩
theorem AAV(b:AA 8)(o n cap:Nat)(hb:o+n≤b.length)(hn:n≤2199023255552):Ev prog (.call 39 [.c (.sl 0 o n cap 1)] [A0 (b)]) (.val (BM (ET (cut b o n))) [A0 (b)]):=by
 have hP:=Hid.mk (ET.eq_1 (cut b o n))
 have htx:(cut b o n).length=n:=by rw [BV];omega
 try simp only [htx] at hP
 refine AI func39 rfl ntmps39 rfl AM ?_;refine Ab ?_;refine Lh ?_;have hQ1:(JS).length=64:=AP
 refine Ab ?_;refine Ae (vg) AJ7 ?_;refine Ap (Ay jb AM) AT rfl ?_;refine Bs rfl rfl rfl rfl oh B7 B7 AT ?_;refine AZ ?_;refine zL ?_;refine Ap (Ay ge AM) AT rfl ?_;refine YG ?_;refine AR ?_;have hQ2:(Nk (cut b o n)).length=((n+1)+(120-(n+1)%64)%64)+8:=AP
 refine A1 ?_;refine bM (zV b o n cap AD AD) AEM ?_;refine Ai ?_;refine Al ?_;refine AK [2,3,4,5,6] (fun (zz:Nat×AA 32)=>⟨208,AU [2,3,4,5,6] [AY 1,AY 2,AY 3,.c (.sl 4 0 (((n+1)+(120-(n+1)%64)%64)+8) (((n+1)+(120-(n+1)%64)%64)+8) 1),At (((64*zz.1:Nat):Int))],[A0 (b),BP (Ac 32),Fz (JS),Fz (zz.2),BP (Nk (cut b o n))]⟩) (fun j5=>(j5,GU (cut b o n) j5)) (((((n+1)+(120-(n+1)%64)%64)+8)+63)/64) K_ ?_ ?_
 ·intro j5 hj5
  try dsimp only
  have hX3:(GU (cut b o n) j5).length=8:=by rw [Pq (cut b o n) _];try omega
  rw [GU.eq_2,Qe]
  try simp only [htx]
  generalize GU (cut b o n) j5=X3 at*
  refine CK ?_;refine Hc ?_;refine AZ ?_;refine Ap (Ay jb AM) AT rfl ?_;refine B0 ?_;refine AK [2,3,4,5,6,7,8] (fun (zz:Nat×AA 32)=>⟨208,AU [2,3,4,5,6,7,8] [AY 1,AY 2,AY 3,.c (.sl 4 0 (((n+1)+(120-(n+1)%64)%64)+8) (((n+1)+(120-(n+1)%64)%64)+8) 1),At (((64*j5:Nat):Int)),AY 5,At (((zz.1:Nat):Int))],[A0 (b),BP (Ac 32),Fz (JS),Fz (X3),BP (Nk (cut b o n)),Fz (zz.2)]⟩) (fun j9=>(j9,F7 (cut b o n) j5 j9)) (64) K_ ?_ ?_
  ·intro j9 hj9
   try dsimp only
   have hX4:(F7 (cut b o n) j5 j9).length=64:=by rw [Mf (cut b o n) j5 _];try omega
   rw [F7.eq_2,Qx]
   try simp only [htx]
   generalize F7 (cut b o n) j5 j9=X4 at*
   refine Hh ?_;refine Ak ?_;refine GF ?_;refine EA ?_;by_cases hc5:j9<16
   ·try simp only [if_pos hc5] at*
    refine FJ rfl (decide_eq_true hc5) ?_;refine Ab ?_;refine Al ?_;refine AK [2,3,4,5,6,7,8,9] (fun (zz:Nat×AA 32)=>⟨208,AU [2,3,4,5,6,7,8,9] [AY 1,AY 2,AY 3,.c (.sl 4 0 (((n+1)+(120-(n+1)%64)%64)+8) (((n+1)+(120-(n+1)%64)%64)+8) 1),At (((64*j5:Nat):Int)),AY 5,At (((j9:Nat):Int)),At (((zz.1:Nat):Int))],[A0 (b),BP (Ac 32),Fz (JS),Fz (X3),BP (Nk (cut b o n)),Fz (zz.2)]⟩) (fun j13=>(j13,EN (cut b o n) j5 X4 j9 j13)) (4) K_ ?_ ?_
    ·intro j13 hj13
     try dsimp only
     have hX6:(EN (cut b o n) j5 X4 j9 j13).length=64:=by rw [Ib (cut b o n) j5 X4 j9 hX4 _];try omega
     rw [EN.eq_2,Nx]
     try simp only [htx]
     generalize EN (cut b o n) j5 X4 j9 j13=X6 at*
     refine A1 ?_;refine IU ?_;refine Ar ?_;refine iW ?_;refine Ca ?_;refine I9 ?_;refine Dk ?_;refine AH (SC (j:=8) rfl rfl) rfl ?_;refine Ca ?_;refine AW ?_;refine AH (S8 (a:=4) rfl rfl O_) rfl ?_;refine P0 ?_;refine AW ?_;refine P0 ?_;refine Of ?_;refine EK ?_;refine Up ?_;refine AH (Xu rfl rfl) rfl ?_;refine I9 ?_;refine S6 ?_;refine Cc ?_;exact ⟨(j13+1,_),K_,rfl⟩
    ·try dsimp only
     have hY7:(EN (cut b o n) j5 X4 j9 4).length=64:=by rw [Ib (cut b o n) j5 X4 j9 hX4 _];try omega
     generalize EN (cut b o n) j5 X4 j9 4=Y7 at*
     refine A1 ?_;refine PO ?_;refine Cc ?_;exact ⟨(j9+1,_),K_,rfl⟩
   ·try simp only [if_neg hc5] at*
    refine Cg rfl (decide_eq_false hc5) ?_;refine S_ ?_;refine RZ ?_;refine ft ?_;refine I9 ?_;refine Il ?_;refine fk ?_;refine I9 ?_;refine Dk ?_;refine I6 ?_;refine I7 ?_;refine B5 29 mixed K_ rfl rfl rfl ?_;refine Ca ?_;refine gK ?_;refine I9 ?_;refine Il ?_;refine jJ ?_;refine I9 ?_;refine Dk ?_;refine Mu ?_;refine AO (Fn (nth X4 (j9-15)) 7 AD) UP ?_;refine AW ?_;refine AO (Fn (nth X4 (j9-15)) 18 AD) UP ?_;refine GK ?_;refine AW ?_;refine AH (Hp (j:=3) rfl rfl) rfl ?_;refine GK ?_;refine Mu ?_;refine AO (Fn (nth X4 (j9-2)) 17 AD) UP ?_;refine AW ?_;refine AO (Fn (nth X4 (j9-2)) 19 AD) UP ?_;refine GK ?_;refine AW ?_;refine AH (Hp (j:=10) rfl rfl) rfl ?_;refine GK ?_;refine Ia ?_;refine I9 ?_;refine S6 ?_;refine Cc ?_;exact ⟨(j9+1,_),K_,rfl⟩
  ·try dsimp only
   have hY8:(F7 (cut b o n) j5 64).length=64:=by rw [Mf (cut b o n) j5 _];try omega
   generalize F7 (cut b o n) j5 64=Y8 at*
   refine A1 ?_;refine Lr ?_;refine AZ ?_;refine AB (A9 rfl rfl sT qg B7 D_) rfl ?_;refine Ap (Ay ge AM) AT rfl ?_;refine YG ?_;refine B0 ?_;refine AK [2,3,4,5,6,7,12,13] (fun (zz:Nat×AA 32)=>⟨208,AU [2,3,4,5,6,7,12,13] [AY 1,AY 2,AY 3,.c (.sl 4 0 (((n+1)+(120-(n+1)%64)%64)+8) (((n+1)+(120-(n+1)%64)%64)+8) 1),At (((64*j5:Nat):Int)),AY 5,AY 6,At (((zz.1:Nat):Int))],[A0 (b),BP (Ac 32),Fz (JS),Fz (X3),BP (Nk (cut b o n)),Fz (Y8),Fz (zz.2)]⟩) (fun j20=>(j20,Eo X3 Y8 j20)) (64) K_ ?_ ?_
   ·intro j20 hj20
    try dsimp only
    have hX9:(Eo X3 Y8 j20).length=8:=by rw [K2 X3 Y8 hX3 hY8 _];try omega
    rw [Eo.eq_2,Ng]
    try simp only [htx]
    generalize Eo X3 Y8 j20=X9 at*
    refine Hh ?_;refine Ar ?_;refine SU ?_;refine AH (AN (j:=0) rfl rfl underlying107 Bi O_) rfl ?_;refine Dk ?_;refine AH (AN (j:=4) rfl rfl underlying107 Bi O_) rfl ?_;refine Dk ?_;refine I6 ?_;refine I7 ?_;refine B5 31 mixed K_ rfl rfl rfl ?_;refine AH (AN (j:=7) rfl rfl underlying107 Bi O_) rfl ?_;refine Il ?_;refine AO (Fn (nth X9 4) 6 AD) UP ?_;refine AW ?_;refine AO (Fn (nth X9 4) 11 AD) UP ?_;refine GK ?_;refine AW ?_;refine AO (Fn (nth X9 4) 25 AD) UP ?_;refine GK ?_;refine Mu ?_;refine AH (AN (j:=5) rfl rfl underlying107 Bi O_) rfl ?_;refine Dk ?_;refine U5 ?_;refine AW ?_;refine AH (eu rfl) rfl ?_;refine AH (AN (j:=6) rfl rfl underlying107 Bi O_) rfl ?_;refine Dk ?_;refine U5 ?_;refine GK ?_;refine Mu ?_;refine I9 ?_;refine Dk ?_;refine Mu ?_;refine I9 ?_;refine Dk ?_;refine Ia ?_;refine I7 ?_;refine iO ?_;refine AW ?_;refine AO (Fn (nth X9 0) 2 AD) UP ?_;refine AW ?_;refine AO (Fn (nth X9 0) 13 AD) UP ?_;refine GK ?_;refine AW ?_;refine AO (Fn (nth X9 0) 22 AD) UP ?_;refine GK ?_;refine AW ?_;refine AH (AN (j:=1) rfl rfl underlying107 Bi O_) rfl ?_;refine Dk ?_;refine U5 ?_;refine AW ?_;refine AH (AN (j:=2) rfl rfl underlying107 Bi O_) rfl ?_;refine Dk ?_;refine U5 ?_;refine GK ?_;refine AH (AN (j:=1) rfl rfl underlying107 Bi O_) rfl ?_;refine Dk ?_;refine AH (AN (j:=2) rfl rfl underlying107 Bi O_) rfl ?_;refine Dk ?_;refine U5 ?_;refine GK ?_;refine Ia ?_;refine Ft ?_;refine GW ?_;refine RK ?_;refine AB (AN (j:=0) rfl rfl underlying107 Bi O_) rfl ?_;refine Ds ?_;refine jh ?_;refine Ds ?_;refine gu ?_;refine Ds ?_;refine AB (AN (j:=3) rfl rfl underlying107 Bi O_) rfl ?_;refine Ds ?_;refine AX ?_;refine RK ?_;refine AB (AN (j:=4) rfl rfl underlying107 Bi O_) rfl ?_;refine Ds ?_;refine AB (AN (j:=5) rfl rfl underlying107 Bi O_) rfl ?_;refine Ds ?_;refine AB (AN (j:=6) rfl rfl underlying107 Bi O_) rfl ?_;refine Ds ?_;refine AB (Zb (l:=[_,_,_,_,_,_,_,_]) qA underlying107 Bi rfl rfl D_) rfl ?_;refine YG ?_;refine Cc ?_;exact ⟨(j20+1,_),K_,rfl⟩
   ·try dsimp only
    have hY10:(Eo X3 Y8 64).length=8:=by rw [K2 X3 Y8 hX3 hY8 _];try omega
    generalize Eo X3 Y8 64=Y10 at*
    refine A1 ?_;refine Lr ?_;refine B0 ?_;refine AK [2,3,4,5,6,12,18] (fun (zz:Nat×AA 32)=>⟨208,AU [2,3,4,5,6,12,18] [AY 1,AY 2,AY 3,.c (.sl 4 0 (((n+1)+(120-(n+1)%64)%64)+8) (((n+1)+(120-(n+1)%64)%64)+8) 1),At (((64*j5:Nat):Int)),AY 5,At (((zz.1:Nat):Int))],[A0 (b),BP (Ac 32),Fz (JS),Fz (zz.2),BP (Nk (cut b o n)),Fz (Y10)]⟩) (fun j27=>(j27,Et X3 Y10 j27)) (8) K_ ?_ ?_
    ·intro j27 hj27
     try dsimp only
     have hX11:(Et X3 Y10 j27).length=8:=by rw [K4 X3 Y10 hX3 _];try omega
     rw [Et.eq_2,Se]
     try simp only [htx]
     generalize Et X3 Y10 j27=X11 at*
     refine A1 ?_;refine Rc ?_;refine Ar ?_;refine SG ?_;refine AW ?_;refine YE ?_;refine Il ?_;refine YE ?_;refine Dk ?_;refine Ia ?_;refine YE ?_;refine S6 ?_;refine Cc ?_;exact ⟨(j27+1,_),K_,rfl⟩
    ·try dsimp only
     have hY12:(Et X3 Y10 8).length=8:=by rw [K4 X3 Y10 hX3 _];try omega
     generalize Et X3 Y10 8=Y12 at*
     refine A1 ?_;refine Ub ?_;refine Ak ?_;refine XW ?_;refine BZ ?_;exact ⟨(j5+1,_),K_,rfl⟩
 ·try dsimp only
  have hY13:(GU (cut b o n) (((((n+1)+(120-(n+1)%64)%64)+8)+63)/64)).length=8:=by rw [Pq (cut b o n) _];try omega
  generalize GU (cut b o n) (((((n+1)+(120-(n+1)%64)%64)+8)+63)/64)=Y13 at*
  refine CK ?_;refine Hc ?_;refine AZ ?_;refine Dr ?_;refine B0 ?_;refine AK [2,4,19,20] (fun (zz:Nat×AA 8)=>⟨208,AU [2,4,19,20] [AY 1,AY 2,AY 3,At (((zz.1:Nat):Int))],[A0 (b),BP (Ac 32),Fz (Y13),BP (zz.2)]⟩) (fun j32=>(j32,Es Y13 j32)) (32) K_ ?_ ?_
  ·intro j32 hj32
   try dsimp only
   have hX14:(Es Y13 j32).length=32:=by rw [Ob Y13 _];try omega
   rw [Es.eq_2,Ns]
   try simp only [htx]
   generalize Es Y13 j32=X14 at*
   refine A1 ?_;refine Oi ?_;refine GW ?_;refine AB (VD (b:=4) rfl rfl O_ O_) rfl ?_;refine AB (AN rfl rfl underlying107 Bi O_) rfl ?_;refine Ds ?_;refine AX ?_;refine cY ?_;refine KN ?_;refine AB (E4 (a:=24) rfl rfl O_ O_) rfl ?_;refine QE ?_;refine AB (aZ rfl rfl) rfl ?_;refine qj ?_;refine O2 ?_;refine Ct ?_;refine Cc ?_;exact ⟨(j32+1,_),K_,rfl⟩
  ·try dsimp only
   have hY15:(Es Y13 32).length=32:=by rw [Ob Y13 _];try omega
   generalize Es Y13 32=Y15 at*
   refine A1 ?_;refine Pu ?_;refine Fu ?_;refine GH ?_;rw [hP.out]
   exact Ec
theorem Pf(b:AA 8)(n cap:Nat)(hb:b.length=n)(hn:n≤2199023255552):Ev prog (.call 39 [.c (.sl 0 0 n cap 1)] [A0 (b)]) (.val (BM (ET b)) [A0 (b)]):=by
 have h_:=AAV b 0 n cap O_ hn
 rw [IE hb] at h_
 exact h_
@[simp] theorem AHz(tx:AA 8):(ET tx).length=32:=by
 unfold ET
 (simp [Ob, *];done)
attribute [irreducible] ET
theorem AB5(n j:Nat):nth (DF n) j=0#32:=by
 unfold nth DF
 rw [List.getD_eq_getElem?_getD,List.getElem?_replicate]
 split<;>rfl
theorem ADM(n j:Nat):nth (AC n) j=0#64:=by
 unfold nth AC
 rw [List.getD_eq_getElem?_getD,List.getElem?_replicate]
 split<;>rfl
theorem rr{n:Nat}(l:AA n)(i:Nat)(v w:BitVec n):put (put l i v) i w=put l i w:=by simp [put]
theorem rE{n:Nat}(l:AA n)(i:Nat)(h:i<l.length):put l i (nth l i)=l:=by
 unfold put nth
 rw [List.getD_eq_getElem?_getD,List.getElem?_eq_getElem h]
 simp
theorem VV{n:Nat}(l:AA n)(i:Nat)(v:BitVec n)(h:i<l.length):nth (put l i v) i=v:=by rw [CD l i i v h,if_pos rfl]
theorem AIb(x:BitVec 64):x*8#64=x<<<3:=by
 rw [BitVec.shiftLeft_eq_mul_twoPow]
 rfl
theorem AKI{k:Nat}(h:k<8):(8#64*BitVec.ofNat 64 k).toNat=8*k:=by
 rw [BitVec.toNat_mul,BitVec.toNat_ofNat,BitVec.toNat_ofNat]
 omega
theorem ABk(Y:AA 8):∀j,j≤8→Bn Y 0#64 j=Y++List.replicate j 0#8:=by
 intro j
 induction j with
 |zero=>intro _;simp [Bn]
 |succ j ih=>intro hj;rw [Bn.eq_2,ih O_,F5,List.replicate_succ'];simp
theorem wC:H1=JS:=by with_unfolding_all rfl
theorem ALh(tx:AA 8)(n:Nat):GZ tx n=Ey tx n:=by
 induction n with
 |zero=>rfl
 |succ n ih=>rw [GZ.eq_2,Ey.eq_2,ih];rfl
theorem AJE(tx Y:AA 8):Fh tx Y 8=Cs Y (BitVec.ofNat 64 tx.length<<<3):=by
 have h:∀j,j≤8→Fh tx Y j=Bn Y (BitVec.ofNat 64 tx.length<<<3) j:=by
  intro j
  induction j with
  |zero=>intro _;rfl
  |succ j ih=>
   intro hj
   rw [Fh.eq_2,Bn.eq_2,ih O_,RH,F5,if_neg O_,AIb,AKI O_]
 unfold Cs
 exact h 8 O_
theorem yX(tx:AA 8):Nk tx=Hg tx:=by
 unfold Nk Hg
 rw [AJE,ALh]
theorem AFL(X:BitVec 64)(b:BitVec 8):((X<<<8) ||| b.setWidth 64).setWidth 32=(X.setWidth 32<<<8) ||| b.setWidth 32:=by
 apply BitVec.eq_of_getLsbD_eq
 intro i hi
 simp only [BitVec.getLsbD_setWidth,BitVec.getLsbD_or,BitVec.getLsbD_shiftLeft,hi,decide_true,Bool.true_and]
 by_cases h:i<8
 ·simp [h];omega
 ·have h1:i-8<32:=by omega
  have h2:i<64:=by omega
  simp [h,h1,h2]
theorem ABi(tx:AA 8)(q:Nat)(X:AA 32)(hX:X.length=64)(j:Nat)(hj:j<64)(h0:nth X j=0#32):EN tx q X j 4=put X j ((MR (Hg tx) ((64*q)+(4*j)) (((4*j)+4)-(4*j))).setWidth 32):=by
 have hpad:=yX tx
 have h:∀i,i≤4→EN tx q X j i=put X j ((Ea (Hg tx) ((64*q)+(4*j)) i).setWidth 32):=by
  intro i
  induction i with
  |zero=>intro _;show X=put X j _;rw [show (Ea (Hg tx) ((64*q)+(4*j)) 0).setWidth 32=nth X j from h0.symm,rE X j O_]
  |succ i ih=>
   intro hi
   rw [EN.eq_2,ih O_,Nx,rr,VV X j _ O_,Ea.eq_2,MN,AFL,hpad]
 have e:=h 4 O_
 rw [e,show (4*j)+4-(4*j)=4 by omega]
 unfold MR
 rfl
theorem zQ(tx:AA 8)(q:Nat):∀j,j≤64→F7 tx q j=Dy tx q j∧ ∀i,j≤i→nth (Dy tx q j) i=0#32:=by
 intro j
 induction j with
 |zero=>intro _;exact ⟨rfl,fun i _=>AB5 _ _⟩
 |succ j ih=>
  intro hj
  obtain ⟨h1,h2⟩:=ih O_
  have hl:=Ic tx q j
  rw [F7.eq_2,Dy.eq_2,h1]
  generalize Dy tx q j=X at*
  rw [Qx,N8]
  by_cases h:j<16
  ·rw [if_pos h,if_pos h]
   refine ⟨ABi tx q X hl j O_ (h2 j (Nat.le_refl _)),fun i hi=>?_⟩
   rw [CD X j i _ O_,if_neg O_]
   exact h2 i O_
  ·rw [if_neg h,if_neg h]
   refine ⟨?_,fun i hi=>?_⟩
   ·unfold FM
    congr 1
    congr 1
    rw [BitVec.add_assoc,BitVec.add_assoc]
    congr 1
    exact BitVec.add_comm _ _
   ·rw [CD X j i _ O_,if_neg O_]
    exact h2 i O_
theorem wd(H Y:AA 32)(j:Nat):Eo H Y j=D5 H Y j:=by
 induction j with
 |zero=>rfl
 |succ j ih=>
  rw [Eo.eq_2,D5.eq_2,ih,Ng,MK,wC]
  unfold FM
  rfl
theorem ACD(H Y:AA 32)(j:Nat):Et H Y j=D3 H Y j:=by
 induction j with
 |zero=>rfl
 |succ j ih=>rw [Et.eq_2,D3.eq_2,ih];rfl
theorem tm(tx:AA 8)(j:Nat):GU tx j=E0 tx j:=by
 induction j with
 |zero=>rfl
 |succ j ih=>rw [GU.eq_2,E0.eq_2,ih,Qe,N9,ACD,wd,(zQ tx j 64 O_).1]
theorem ACd(H:AA 32)(j:Nat):Es H j=D1 H j:=by
 induction j with
 |zero=>rfl
 |succ j ih=>
  rw [Es.eq_2,D1.eq_2,ih,Ns,MJ,BitVec.toNat_ofNat,Nat.mod_eq_of_lt O_]
theorem Lc(tx:AA 8):ET tx=BR tx:=by
 unfold ET BR
 rw [ACd,tm tx]
 congr 2
 omega
def Md(X3 X4:AA 8)(j8:Nat):AA 8×AA 8:=(put X3 j8 ((nth X3 j8)^^^54#8),put X4 j8 ((nth X4 j8)^^^92#8))
def B1(key:AA 8):Nat→AA 8×AA 8
 |0=>(over (Ac 64) 0 (cut key 0 (min key.length 64)),over (Ac 64) 0 (cut key 0 (min key.length 64)))
 |j8+1=>Md (B1 key j8).1 (B1 key j8).2 j8
@[simp] theorem Ls(key:AA 8)(j8:Nat):(B1 key j8).1.length=64:=by
 induction j8 with
 |zero=>(simp [B1, *];omega)
 |succ j8 ih=>rw [B1.eq_2,Md];(simp [ih];done)
@[simp] theorem Lk(key:AA 8)(j8:Nat):(B1 key j8).2.length=64:=by
 induction j8 with
 |zero=>(simp [B1, *];omega)
 |succ j8 ih=>rw [B1.eq_2,Md];(simp [ih];done)
def Qz(key b:AA 8):AA 8:=BR (((B1 key 64).2)++(BR (((B1 key 64).1)++b)))
theorem sR{A B:Prop}(a:A)(b:B)(k:r)(h:A→B→Hid r→g:=by intro a b h;refine CQ (Ah (bs:=[7]) a b K_ K_ rfl B4) AT rfl ?_;exact h.out):g:=h a b ⟨k⟩
theorem bm(k:r)(h:Hid r→g:=by intro h;refine AB (II (b:=64) rfl rfl) rfl ?_;exact h.out):g:=h ⟨k⟩
theorem IL(k:r)(h:Hid r→g:=by intro h;refine S_ ?_;refine B5 4 mixed K_ rfl rfl rfl ?_;exact h.out):g:=h ⟨k⟩
theorem gq(k:r)(h:Hid r→g:=by intro h;refine Hn (sL (a:=64) (b:=64) underlying23 rfl rfl KM AEa O_ O_ O_ AM) AT rfl ?_;exact h.out):g:=h ⟨k⟩
theorem Gf(k:r)(h:Hid r→g:=by intro h;refine Ap (Ay YJ AM) AT rfl ?_;refine Bs rfl rfl rfl rfl Pg B7 B7 AT ?_;exact h.out):g:=h ⟨k⟩
theorem O5(k:r)(h:Hid r→g:=by intro h;refine AB (IH (l:=0) (h:=32) (len:=32) (cp:=32) rfl underlying37 Bt rfl rfl rfl O_ O_ T6 rfl rfl) rfl ?_;exact h.out):g:=h ⟨k⟩
theorem Gr(k:r)(h:Hid r→g:=by intro h;refine Bs rfl rfl rfl rfl Pg B7 B7 AT ?_;exact h.out):g:=h ⟨k⟩
theorem pm(key:AA 8)(kn kcap:Nat)(b:AA 8)(n cap:Nat)(hkey:key.length=kn)(hkn:kn≤1099511627776)(hb:b.length=n)(hn:n≤1099511627776)(hshort:kn≤64):Ev prog (.call 116 [.c (.sl 0 0 kn kcap 1),.c (.sl 1 0 n cap 1)] [A0 (key),A0 (b)]) (.val (BM (Qz key b)) [A0 (key),A0 (b)]):=by
 have hP:=Hid.mk (Qz.eq_1 key b)
 subst hkey
 subst hb
 refine AI func116 rfl ntmps116 rfl AM ?_;refine Ab ?_;refine Dr ?_;refine Jk ?_;refine bm ?_;refine EA ?_;refine Cg rfl (decide_eq_false O_) ?_;refine IL ?_;refine gq ?_;refine gq ?_;refine I6 ?_;refine Ft ?_;refine GW ?_;refine sc rfl rfl rfl rfl underlying23 Bt Wg Wg MN_ AT rfl ?_;refine AR ?_;have hQ1:(over (Ac 64) 0 (cut key 0 (min key.length 64))).length=64:=AP
 refine CK ?_;refine sc rfl rfl rfl rfl underlying23 Bt Wg Wg MN_ AT rfl ?_;refine AR ?_;have hQ2:(over (Ac 64) 0 (cut key 0 (min key.length 64))).length=64:=AP
 refine JI ?_;refine V5 ?_;refine AK [1,4,6,7,25,26] (fun (zz:Nat×AA 8×AA 8)=>⟨50,AU [1,4,6,7,25,26] [.c (.sl 1 0 b.length cap 1),AY 2,.c (.sl 3 0 64 64 1),.c (.sl 4 0 64 64 1),At (((64:Nat):Int)),At (((zz.1:Nat):Int))],[A0 (key),A0 (b),BP (Ac 32),BP (zz.2.1),BP (zz.2.2)]⟩) (fun j8=>(j8,B1 key j8)) (64) K_ ?_ ?_
 ·intro j8 hj8
  try dsimp only
  have hX3:(B1 key j8).1.length=64:=by rw [Ls key _];try omega
  have hX4:(B1 key j8).2.length=64:=by rw [Lk key _];try omega
  rw [B1.eq_2,Md]
  generalize B1 key j8=Z5 at*
  obtain ⟨X3,X4⟩:=Z5
  try dsimp only at*
  refine Ab ?_;refine HM ?_;refine Ak ?_;refine Be ?_;refine Ju ?_;refine GA ?_;refine AB (OW (b:=54#8) rfl rfl) rfl ?_;refine Ju ?_;refine Ct ?_;refine GW ?_;refine Ju ?_;refine GA ?_;refine AB (OW (b:=92#8) rfl rfl) rfl ?_;refine Ju ?_;refine Ct ?_;refine Cj ?_;exact ⟨(j8+1,_),K_,rfl⟩
 ·try dsimp only
  have hY6:(B1 key 64).1.length=64:=by rw [Ls key _];try omega
  have hY7:(B1 key 64).2.length=64:=by rw [Lk key _];try omega
  generalize B1 key 64=Z8 at*
  obtain ⟨Y6,Y7⟩:=Z8
  try dsimp only at*
  refine Ab ?_;refine Lr ?_;refine GW ?_;refine DD ?_;refine CQ (Ah (bs:=[5]) (Ks (Y6++b) (64+b.length) (64+b.length) AD AD) Vz K_ K_ rfl B4) AT rfl ?_;refine Gf ?_;refine AR ?_;have hQ9:(BR (Y6++b)).length=32:=AP
  refine A1 ?_;refine O5 ?_;refine DD ?_;refine sR (Ks (Y7++(BR (Y6++b))) 96 96 AD AD) Vz ?_;refine Gr ?_;refine AR ?_;have hQ10:(BR (Y7++(BR (Y6++b)))).length=32:=AP
  refine S_ ?_;rw [hP.out]
  exact Ec
@[simp] theorem AD8(key b:AA 8):(Qz key b).length=32:=by
 unfold Qz
 (simp [*];done)
attribute [irreducible] Qz
def MQ(X4 X5:AA 8)(j8:Nat):AA 8×AA 8:=(put X4 j8 ((nth X4 j8)^^^54#8),put X5 j8 ((nth X5 j8)^^^92#8))
def Bw(key:AA 8):Nat→AA 8×AA 8
 |0=>(over (Ac 64) 0 (BR key),over (Ac 64) 0 (BR key))
 |j8+1=>MQ (Bw key j8).1 (Bw key j8).2 j8
@[simp] theorem Lj(key:AA 8)(j8:Nat):(Bw key j8).1.length=64:=by
 induction j8 with
 |zero=>(simp [Bw, *];done)
 |succ j8 ih=>rw [Bw.eq_2,MQ];(simp [ih];done)
@[simp] theorem Ly(key:AA 8)(j8:Nat):(Bw key j8).2.length=64:=by
 induction j8 with
 |zero=>(simp [Bw, *];done)
 |succ j8 ih=>rw [Bw.eq_2,MQ];(simp [ih];done)
def Q6(key b:AA 8):AA 8:=BR (((Bw key 64).2)++(BR (((Bw key 64).1)++b)))
theorem qD(key:AA 8)(kn kcap:Nat)(b:AA 8)(n cap:Nat)(hkey:key.length=kn)(hkn:kn≤1099511627776)(hb:b.length=n)(hn:n≤1099511627776)(hlong:64<kn):Ev prog (.call 116 [.c (.sl 0 0 kn kcap 1),.c (.sl 1 0 n cap 1)] [A0 (key),A0 (b)]) (.val (BM (Q6 key b)) [A0 (key),A0 (b)]):=by
 have hP:=Hid.mk (Q6.eq_1 key b)
 subst hkey
 subst hb
 refine AI func116 rfl ntmps116 rfl AM ?_;refine Ab ?_;refine Dr ?_;refine Jk ?_;refine bm ?_;refine EA ?_;refine FJ rfl (decide_eq_true O_) ?_;refine A1 ?_;refine bM (Ks key key.length kcap AD AD) Vz ?_;refine Gf ?_;refine AR ?_;have hQ1:(BR key).length=32:=AP
 refine Ab ?_;refine O5 ?_;refine Al ?_;refine B5 4 mixed K_ rfl rfl rfl ?_;refine gq ?_;refine gq ?_;refine I6 ?_;refine Ft ?_;refine GW ?_;refine mr rfl rfl rfl rfl underlying23 Bt Wg Iz MN_ rfl AT rfl ?_;refine AR ?_;have hQ2:(over (Ac 64) 0 (BR key)).length=64:=AP
 refine CK ?_;refine mr rfl rfl rfl rfl underlying23 Bt Wg Iz MN_ rfl AT rfl ?_;refine AR ?_;have hQ3:(over (Ac 64) 0 (BR key)).length=64:=AP
 refine JI ?_;refine V5 ?_;refine AK [1,4,6,7,25,26] (fun (zz:Nat×AA 8×AA 8)=>⟨50,AU [1,4,6,7,25,26] [.c (.sl 1 0 b.length cap 1),AY 2,.c (.sl 3 0 64 64 1),.c (.sl 4 0 64 64 1),At (((64:Nat):Int)),At (((zz.1:Nat):Int))],[A0 (key),A0 (b),BP (Ac 32),BP (zz.2.1),BP (zz.2.2)]⟩) (fun j8=>(j8,Bw key j8)) (64) K_ ?_ ?_
 ·intro j8 hj8
  try dsimp only
  have hX4:(Bw key j8).1.length=64:=by rw [Lj key _];try omega
  have hX5:(Bw key j8).2.length=64:=by rw [Ly key _];try omega
  rw [Bw.eq_2,MQ]
  generalize Bw key j8=Z6 at*
  obtain ⟨X4,X5⟩:=Z6
  try dsimp only at*
  refine Ab ?_;refine HM ?_;refine Ak ?_;refine Be ?_;refine Ju ?_;refine GA ?_;refine AB (OW (b:=54#8) rfl rfl) rfl ?_;refine Ju ?_;refine Ct ?_;refine GW ?_;refine Ju ?_;refine GA ?_;refine AB (OW (b:=92#8) rfl rfl) rfl ?_;refine Ju ?_;refine Ct ?_;refine Cj ?_;exact ⟨(j8+1,_),K_,rfl⟩
 ·try dsimp only
  have hY7:(Bw key 64).1.length=64:=by rw [Lj key _];try omega
  have hY8:(Bw key 64).2.length=64:=by rw [Ly key _];try omega
  generalize Bw key 64=Z9 at*
  obtain ⟨Y7,Y8⟩:=Z9
  try dsimp only at*
  refine Ab ?_;refine Lr ?_;refine GW ?_;refine DD ?_;refine CQ (Ah (bs:=[5]) (Ks (Y7++b) (64+b.length) (64+b.length) AD AD) Vz K_ K_ rfl B4) AT rfl ?_;refine Gf ?_;refine AR ?_;have hQ10:(BR (Y7++b)).length=32:=AP
  refine A1 ?_;refine O5 ?_;refine DD ?_;refine sR (Ks (Y8++(BR (Y7++b))) 96 96 AD AD) Vz ?_;refine Gr ?_;refine AR ?_;have hQ11:(BR (Y8++(BR (Y7++b)))).length=32:=AP
  refine S_ ?_;rw [hP.out]
  exact Ec
@[simp] theorem AD6(key b:AA 8):(Q6 key b).length=32:=by
 unfold Q6
 (simp [*];done)
attribute [irreducible] Q6
def Fv(key b:AA 8):AA 8:=if 64<key.length then Q6 key b else Qz key b
@[simp] theorem AHc(key b:AA 8):(Fv key b).length=32:=by unfold Fv;split<;>simp
theorem eo(key:AA 8)(kn kcap:Nat)(b:AA 8)(n cap:Nat)(hkey:key.length=kn)(hkn:kn≤1099511627776)(hb:b.length=n)(hn:n≤1099511627776):Ev prog (.call 116 [.c (.sl 0 0 kn kcap 1),.c (.sl 1 0 n cap 1)] [A0 key,A0 b]) (.val (BM (Fv key b)) [A0 key,A0 b]):=by
 unfold Fv
 by_cases h:64<key.length
 ·rw [if_pos h];exact qD key kn kcap b n cap hkey hkn hb hn O_
 ·rw [if_neg h];exact pm key kn kcap b n cap hkey hkn hb hn O_
attribute [irreducible] Fv
def Nm(key info X1 X2:AA 8)(j5:Nat):AA 8×AA 8:=(X1++(Fv key ((X2++info)++[BitVec.ofNat 8 (1+j5)])),Fv key ((X2++info)++[BitVec.ofNat 8 (1+j5)]))
def Cr(key info:AA 8):Nat→AA 8×AA 8
 |0=>([],[])
 |j5+1=>Nm key info (Cr key info j5).1 (Cr key info j5).2 j5
@[simp] theorem NT(key info:AA 8)(j5:Nat):(Cr key info j5).1.length=32*j5:=by
 induction j5 with
 |zero=>(simp [Cr, *];done)
 |succ j5 ih=>rw [Cr.eq_2,Nm];(simp [ih];omega)
@[simp] theorem NO(key info:AA 8)(j5:Nat):(Cr key info j5).2.length=lst j5:=by
 induction j5 with
 |zero=>(simp [Cr, *];done)
 |succ j5 ih=>rw [Cr.eq_2,Nm];(simp;done)
def LG(key info:AA 8)(n:Nat):AA 8:=cut ((Cr key info ((n+31)/32)).1) 0 n
theorem HH(k:r)(h:Hid r→g:=by intro h;refine AB (B8 (b:=1) rfl rfl O_) rfl ?_;refine AB (A6 rfl) rfl ?_;refine AR ?_;exact h.out):g:=h ⟨k⟩
theorem tq(key:AA 8)(kn kcap:Nat)(info:AA 8)(m mcap n:Nat)(hkey:key.length=kn)(hkn:kn≤1099511627)(hinfo:info.length=m)(hm:m≤1099511627)(hn:n≤1099511627)(hok:n≤8160):Ev prog (.call 105 [.c (.sl 0 0 kn kcap 1),.c (.sl 1 0 m mcap 1),At ((n:Nat):Int)] [A0 (key),A0 (info)]) (.val (.tup [.c (.sl 2 0 n n 1),At ((0:Nat):Int)]) [A0 (key),A0 (info),BP (LG key info n)]):=by
 have hP_macExp0:Hid (LG key info n=cut ((Cr key info ((n+31)/32)).1) 0 n):=⟨rfl⟩
 subst hkey
 subst hinfo
 refine AI func105 rfl ntmps105 rfl AM ?_;refine Jh ?_;refine AB (A8 (b:=0) rfl rfl) rfl ?_;refine Ip ?_;refine AB (II (b:=8160) rfl rfl) rfl ?_;refine Dm ?_;refine EA ?_;refine Cg rfl (decide_eq_false O_) ?_;refine Ab ?_;refine MA ?_;refine Al ?_;refine EU 8 1 (.a8 ([])) rfl rfl AM rfl ?_;refine S_ ?_;refine EU 9 1 (.a8 ([])) rfl rfl AM rfl ?_;refine S_ ?_;refine AK [0,1,2,8,9,10] (fun (zz:Nat×AA 8×AA 8)=>⟨44,AU [0,1,2,8,9,10] [.c (.sl 0 0 key.length kcap 1),.c (.sl 1 0 info.length mcap 1),At (((n:Nat):Int)),.c (.sl 2 0 (32*zz.1) (32*zz.1) 1),.c (.sl 3 0 (lst zz.1) (lst zz.1) 1),At (((1+zz.1:Nat):Int))],[A0 (key),A0 (info),BP (zz.2.1),BP (zz.2.2)]⟩) (fun j5=>(j5,Cr key info j5)) ((n+31)/32) K_ ?_ ?_
 ·intro j5 hj5
  try dsimp only
  have hX1:(Cr key info j5).1.length=32*j5:=by rw [NT key info _];try omega
  have hX2:(Cr key info j5).2.length=lst j5:=by rw [NO key info _];try omega
  have hl:=xS j5
  rw [Cr.eq_2,Nm]
  generalize Cr key info j5=Z3 at*
  obtain ⟨X1,X2⟩:=Z3
  try dsimp only at*
  refine JI ?_;refine AX ?_;refine OE ?_;refine Ak ?_;refine UF ?_;refine AX ?_;refine Ap (sD rfl rfl rfl underlying23 underlying23 KM Iz O_ AM) AT rfl ?_;refine AX ?_;refine DD ?_;refine AX ?_;refine AB (F9 rfl underlying3 underlying5 (AK7 _)) rfl ?_;refine Yp ?_;refine DD ?_;refine CQ (Ah (bs:=[0,7]) (eo key key.length kcap ((X2++info)++[BitVec.ofNat 8 (1+j5)]) (((lst j5)+info.length)+1) (((lst j5)+info.length)+1) AD AD AD AD) xc K_ K_ rfl B4) AT rfl ?_;refine Gf ?_;refine AR ?_;have hQ4:(Fv key ((X2++info)++[BitVec.ofNat 8 (1+j5)])).length=32:=AP
  refine Ab ?_;refine O5 ?_;refine Be ?_;refine DD ?_;refine BF ?_;refine HH ?_;exact ⟨(j5+1,_),K_,rfl⟩
 ·try dsimp only
  have hY5:(Cr key info ((n+31)/32)).1.length=32*((n+31)/32):=by rw [NT key info _];try omega
  have hY6:(Cr key info ((n+31)/32)).2.length=lst ((n+31)/32):=by rw [NO key info _];try omega
  have hl:=xS ((n+31)/32)
  generalize Cr key info ((n+31)/32)=Z7 at*
  obtain ⟨Y5,Y6⟩:=Z7
  try dsimp only at*
  refine JI ?_;refine AX ?_;refine OE ?_;refine AZ ?_;refine UF ?_;refine LU ?_;refine AB (AAr rfl underlying23 Bt rfl O_) rfl ?_;refine Wy ?_;refine Ys ?_;rw [hP_macExp0.out]
  exact UE
@[simp] theorem Yg(key info:AA 8)(n:Nat):(LG key info n).length=n:=by
 unfold LG
 (simp [NT, *];omega)
attribute [irreducible] LG
theorem Ps(b:AA 8)(hn:b.length≤2199023255552):Ev prog (.call 38 [.c (.bs b)] []) (.val (BM (BR b)) []):=
 Ev.partsB (m:=[]) (m':=[.row false (.a8 b)]) (N:=[]) (N':=[]) [none] [0] (.no .nil) (.c (.same rfl) .nil) (.bs rfl rfl .nil) rfl rfl (Ks b b.length b.length rfl hn) rfl rfl
def btN(w:AA 8)(n:Nat):AA 8×Nat:=(BR (w++HL n),0)
def QN(q:AA 8×Nat):AA 8×Nat:=if q.2=0 then (BR ([104#8,97#8,115#8,104#8]++q.1),0) else ([],q.2)
def fW(k:AA 8)(n:Nat):AA 8×Nat:=(LG k ([107#8,100#8,102#8]++HL n) 32,0)
def M9(k:AA 8)(q:AA 8×Nat):AA 8×Nat:=if q.2=0 then (Ej k (Ac 12) [] q.1,0) else ([],q.2)
theorem ns(key:AA 8)(c:Nat)(info:AA 8)(hkey:key.length=32)(hi:info.length≤1000):Ev prog (.call 105 [.c (.sl 0 0 32 c 1),.c (.bs info),At ((32:Nat):Int)] [A0 key]) (.val (.tup [.c (.sl 1 0 32 32 1),At ((0:Nat):Int)]) [A0 key,BP (LG key info 32)]):=
 Ev.partsB (m:=[.row false (.a8 key)]) (m':=[.row false (.a8 key),.row false (.a8 info)]) (N:=[.row true (.a8 (LG key info 32))]) (N':=[.row true (.a8 (LG key info 32))]) [some (0,0),none] [1] (.all rfl rfl (.no .nil)) (.c (.sl rfl rfl) (.c (.same rfl) (.c (.same rfl) .nil))) (.same (.bs rfl rfl (.same .nil))) rfl rfl (tq key 32 c info info.length info.length 32 hkey D_ rfl O_ D_ D_) rfl rfl
theorem zX(key text:AA 8)(hkey:key.length=32)(ht:text.length≤65536):Ev prog (.call 103 [BM key,BM (Ac 12),.c .nsl,.c (.bs text)] []) (.val (.tup [.c (.sl 0 0 (text.length+16) (text.length+16) 1),At ((0:Nat):Int)]) [BP (Ej key (Ac 12) [] text)]):=
 Ev.partsB (m:=[]) (m':=[.row false (.a8 []),.row false (.a8 text)]) (N:=[.row true (.a8 (Ej key (Ac 12) [] text))]) (N':=[.row true (.a8 (Ej key (Ac 12) [] text))]) [none,none] [1] (.no (.no .nil)) (.agg rfl (.agg rfl (.c .nil (.c (.same rfl) .nil)))) (.same (.same (.same (.bs rfl rfl .nil)))) rfl rfl (uu key (Ac 12) [] 0 0 text text.length text.length hkey (Bo 12) rfl D_ rfl O_ D_ ht) rfl rfl
theorem WG(l:List (AA 8)):(Wz l).1.length≤65536:=by
 unfold Wz
 split
 ·rw [Xw];assumption
 ·exact Nat.zero_le _
theorem XP(k:r)(h:Hid r→g:=by intro h;refine AI func45 rfl ntmps45 rfl AM ?_;exact h.out):g:=h ⟨k⟩
theorem Qq(k:r)(h:Hid r→g:=by intro h;refine AB (A7 rfl (ACb _ _)) rfl ?_;exact h.out):g:=h ⟨k⟩
theorem My(k:r)(h:Hid r→g:=by intro h;refine AB (DR rfl rfl E3 EO rfl) rfl ?_;exact h.out):g:=h ⟨k⟩
theorem nx(k:r)(h:Hid r→g:=by intro h;refine Hl (rH rfl underlying23 underlying5 rfl rfl AT) rfl ?_;exact h.out):g:=h ⟨k⟩
theorem uZ(L:List Nd)(es:List (Value×Fy))(N:Nat)(D:Dn)(n:Nat)(a:List Int)(hn:n≤9223372036854775807):Ev prog (.call 45 [AY 0,.agg (.ac [.val (.int .i64 1),.val (.int .i64 (n:Int)),.is a])] [.row false (.ac [.ptr 1 0,.mp 2]),.row false (.ac [.sl 3 0 N N 3,.mp 4]),.row false (.mp (Hi D)),.row false (.an L),.row false (.mp es)]) (.val (.tup [.c (.bs (btN [97#8,116#8,111#8,109#8] n).1),At (((btN [97#8,116#8,111#8,109#8] n).2:Nat):Int)]) [.row false (.ac [.ptr 1 0,.mp 2]),.row false (.ac [.sl 3 0 N N 3,.mp 4]),.row false (.mp (Hi D)),.row false (.an L),.row false (.mp es)]):=by
 have h8:(HL n).length=8:=Un n
 have hs:(BR ([97#8,116#8,111#8,109#8]++HL n)).length=32:=CI _
 unfold btN
 dsimp only
 refine XP ?_;refine BA ?_;refine MA ?_;refine Qq ?_;refine My ?_;refine Ra ?_;refine Ai ?_;refine Hl (tO (l:=[97#8,116#8,111#8,109#8]) underlying23 KM rfl rfl D_ D_ AM) rfl ?_;refine nx ?_;refine AB (A7 rfl (ic _ _)) rfl ?_;refine My ?_;refine Li (YF n hn) st ?_;refine Hl (tJ rfl rfl rfl h8 underlying23 underlying23 KM D_) rfl ?_;refine Li (Ps ([97#8,116#8,111#8,109#8]++HL n) (by simp [h8])) Vz ?_
 refine Gf ?_;refine AZ ?_;refine O5 ?_;refine Np ?_;refine Mh 4 rfl rfl hs AT ?_;exact En
theorem vv(L:List Nd)(es:List (Value×Fy))(N:Nat)(D:Dn)(n:Nat)(a:List Int)(hn:n≤9223372036854775807):Ev prog (.call 45 [AY 0,.agg (.ac [.val (.int .i64 2),.val (.int .i64 (n:Int)),.is a])] [.row false (.ac [.ptr 1 0,.mp 2]),.row false (.ac [.sl 3 0 N N 3,.mp 4]),.row false (.mp (Hi D)),.row false (.an L),.row false (.mp es)]) (.val (.tup [.c (.bs (btN [119#8,111#8,114#8,100#8] n).1),At (((btN [119#8,111#8,114#8,100#8] n).2:Nat):Int)]) [.row false (.ac [.ptr 1 0,.mp 2]),.row false (.ac [.sl 3 0 N N 3,.mp 4]),.row false (.mp (Hi D)),.row false (.an L),.row false (.mp es)]):=by
 have h8:(HL n).length=8:=Un n
 have hs:(BR ([119#8,111#8,114#8,100#8]++HL n)).length=32:=CI _
 unfold btN
 dsimp only
 refine XP ?_;refine BA ?_;refine MA ?_;refine Qq ?_;refine My ?_;refine Ra ?_;refine Ai ?_;refine UY ?_;refine Ai ?_;refine Hl (tO (l:=[119#8,111#8,114#8,100#8]) underlying23 KM rfl rfl D_ D_ AM) rfl ?_;refine nx ?_;refine AB (A7 rfl (ic _ _)) rfl ?_;refine My ?_;refine Li (YF n hn) st ?_;refine Hl (tJ rfl rfl rfl h8 underlying23 underlying23 KM D_) rfl ?_;refine Li (Ps ([119#8,111#8,114#8,100#8]++HL n) (by simp [h8])) Vz ?_
 refine Gf ?_;refine AZ ?_;refine O5 ?_;refine Np ?_;refine Mh 4 rfl rfl hs AT ?_;exact En
theorem rT{A B:Prop}(a:A)(b:B)(k:r)(h:A→B→Hid r→g:=by intro a b h;refine CQ (Ah (bs:=[0,1,2,3,4]) a b K_ K_ rfl B4) AT rfl ?_;exact h.out):g:=h a b ⟨k⟩
theorem Ir(k:r)(h:Hid r→g:=by intro h;refine AB (MW rfl) rfl ?_;refine AB (Bj rfl rfl) rfl ?_;refine AB (Bj rfl rfl) rfl ?_;refine AB (A6 rfl) rfl ?_;exact h.out):g:=h ⟨k⟩
theorem wc(L:List Nd)(es:List (Value×Fy))(N:Nat)(D:Dn)(n:Int)(a:List Int)(hD:rF D)(ha:∀x∈a,PT D x)(hlen:a.length≤400):Ev prog (.call 45 [AY 0,.agg (.ac [.val (.int .i64 3),.val (.int .i64 n),.is a])] [.row false (.ac [.ptr 1 0,.mp 2]),.row false (.ac [.sl 3 0 N N 3,.mp 4]),.row false (.mp (Hi D)),.row false (.an L),.row false (.mp es)]) (.val (.tup [.c (.bs (QN (Wz (a.map (Dl D)))).1),At (((QN (Wz (a.map (Dl D)))).2:Nat):Int)]) [.row false (.ac [.ptr 1 0,.mp 2]),.row false (.ac [.sl 3 0 N N 3,.mp 4]),.row false (.mp (Hi D)),.row false (.an L),.row false (.mp es)]):=by
 have hJ:=fw L es N D (a) hD ha hlen
 have hq1:=WG ((a).map (Dl D))
 generalize Wz ((a).map (Dl D))=q at*
 obtain ⟨j,e⟩:=q
 dsimp only at hJ hq1 ⊢
 refine XP ?_;refine BA ?_;refine MA ?_;refine Qq ?_;refine My ?_;refine Ra ?_;refine Ai ?_;refine UY ?_;refine Ai ?_;refine AB (DC (b:=3) rfl rfl) rfl ?_;refine BF ?_;refine AB (A7 rfl (TN _ _)) rfl ?_;refine AB (DR rfl rfl Xq EO rfl) rfl ?_;refine rT (hJ) zg ?_;refine Ir ?_;refine BZ ?_;by_cases he:e=0
 ·subst he
  have hs:(BR ([104#8,97#8,115#8,104#8]++j)).length=32:=CI _
  rw [show QN (j,0)=(BR ([104#8,97#8,115#8,104#8]++j),0) from rfl]
  dsimp only
  refine A1 ?_;refine Jm ?_;refine AZ ?_;refine Hl (tO (l:=[104#8,97#8,115#8,104#8]) underlying23 KM rfl rfl D_ D_ AM) rfl ?_;refine nx ?_;refine AX ?_;refine Hl (ss rfl rfl underlying23 underlying23 KM (by simp;omega)) rfl ?_
  refine Li (Ps ([104#8,97#8,115#8,104#8]++j) (by simp;omega)) Vz ?_
  refine Gf ?_;refine AZ ?_;refine O5 ?_;refine Np ?_;refine Mh 4 rfl rfl hs AT ?_;exact En
 ·rw [show QN (j,e)=([],e) by unfold QN;rw [if_neg he]]
  dsimp only
  refine A1 ?_;refine Jm ?_;refine Ak ?_;refine Np ?_;refine gY 4 rfl ?_;exact En
theorem uK(L:List Nd)(es:List (Value×Fy))(N:Nat)(D:Dn)(n:Int)(a:List Int)(hD:rF D)(ha:∀x∈a,PT D x)(hlen:a.length≤400):Ev prog (.call 45 [AY 0,.agg (.ac [.val (.int .i64 9),.val (.int .i64 n),.is a])] [.row false (.ac [.ptr 1 0,.mp 2]),.row false (.ac [.sl 3 0 N N 3,.mp 4]),.row false (.mp (Hi D)),.row false (.an L),.row false (.mp es)]) (.val (.tup [.c (.bs (Wz (a.map (Dl D))).1),At (((Wz (a.map (Dl D))).2:Nat):Int)]) [.row false (.ac [.ptr 1 0,.mp 2]),.row false (.ac [.sl 3 0 N N 3,.mp 4]),.row false (.mp (Hi D)),.row false (.an L),.row false (.mp es)]):=by
 have hJ:=fw L es N D (a) hD ha hlen
 have hq1:=WG ((a).map (Dl D))
 generalize Wz ((a).map (Dl D))=q at*
 obtain ⟨j,e⟩:=q
 dsimp only at hJ hq1 ⊢
 refine XP ?_;refine BA ?_;refine MA ?_;refine Qq ?_;refine My ?_;refine Ra ?_;refine Ai ?_;refine UY ?_;refine Ai ?_;refine AB (DC (b:=3) rfl rfl) rfl ?_;refine Ai ?_;refine AB (DC (b:=9) rfl rfl) rfl ?_;refine BF ?_;refine AB (A7 rfl (TN _ _)) rfl ?_;refine AB (DR rfl rfl Xq EO rfl) rfl ?_;refine rT (hJ) zg ?_;refine RX ?_;refine RX ?_;exact He
theorem AA9(L:List Nd)(es:List (Value×Fy))(N:Nat)(D:Dn)(n:Nat)(a:List Int)(hn:n≤9223372036854775807)(key:AA 8)(hkey:key.length=32):Ev prog (.call 71 [AY 0,.agg (.ac [.val (.int .i64 4),.val (.int .i64 (n:Int)),.is a]),BM key] [.row false (.ac [.ptr 1 0,.mp 2]),.row false (.ac [.sl 3 0 N N 3,.mp 4]),.row false (.mp (Hi D)),.row false (.an L),.row false (.mp es)]) (.val (.tup [.c (.bs (fW key n).1),At (((fW key n).2:Nat):Int)]) [.row false (.ac [.ptr 1 0,.mp 2]),.row false (.ac [.sl 3 0 N N 3,.mp 4]),.row false (.mp (Hi D)),.row false (.an L),.row false (.mp es)]):=by
 have h8:(HL n).length=8:=Un n
 have hs:(LG key ([107#8,100#8,102#8]++HL n) 32).length=32:=Yg _ _ _
 unfold fW
 dsimp only
 refine AI func71 rfl ntmps71 rfl AM ?_;refine BO ?_;refine MA ?_;refine Qq ?_;refine My ?_;refine AZ ?_;refine dO ?_;refine Al ?_;refine rO [(1,[]),(2,[]),(7,[])] [] 3 mixed K_ K_ ?_;refine Le (IH (l:=0) (h:=32) (len:=32) (cp:=32) rfl underlying37 Bt rfl rfl rfl O_ O_ T6 rfl rfl) rfl ?_;refine V4 (tO (l:=[107#8,100#8,102#8]) underlying23 KM rfl rfl D_ D_ AM) rfl AG_ ?_;refine V4 (rH rfl underlying23 underlying5 rfl rfl AT) rfl AG_ ?_;refine Le (A7 rfl (ic _ _)) rfl ?_;refine Le (DR rfl rfl E3 EO rfl) rfl ?_;refine Uk (kX (Ah (YF n hn) st rfl rfl rfl B4) AM AP rfl) (fun _=>rfl) rfl ?_
 refine Uk (ss rfl rfl underlying23 underlying23 KM (by simp [h8])) (fun _=>rfl) rfl ?_
 refine V4 (Ah (ns key 32 ([107#8,100#8,102#8]++HL n) hkey (by simp [h8])) AG6 rfl rfl rfl B4) rfl AG_ ?_
 refine Le (Bj rfl rfl) rfl ?_;refine Le (Bj rfl rfl) rfl ?_;refine Le (A6 rfl) rfl ?_;refine Le (A6 rfl) rfl ?_;refine ADq ?_;refine Q_ ?_;refine Mh 6 rfl rfl hs AT ?_;exact En
theorem bV(k:r)(h:Hid r→g:=by intro h;refine AB (nw (l:=(Ac 12)) AIP underlying98 Bt rfl rfl) rfl ?_;exact h.out):g:=h ⟨k⟩
theorem tr(L:List Nd)(es:List (Value×Fy))(N:Nat)(D:Dn)(n:Int)(a:List Int)(hD:rF D)(ha:∀x∈a,PT D x)(hlen:a.length≤400)(h1:1≤a.length)(key:AA 8)(hkey:key.length=32):Ev prog (.call 71 [AY 0,.agg (.ac [.val (.int .i64 6),.val (.int .i64 n),.is a]),BM key] [.row false (.ac [.ptr 1 0,.mp 2]),.row false (.ac [.sl 3 0 N N 3,.mp 4]),.row false (.mp (Hi D)),.row false (.an L),.row false (.mp es)]) (.val (.tup [.c (.bs (M9 key (Wz ((a.drop 1).map (Dl D)))).1),At (((M9 key (Wz ((a.drop 1).map (Dl D)))).2:Nat):Int)]) [.row false (.ac [.ptr 1 0,.mp 2]),.row false (.ac [.sl 3 0 N N 3,.mp 4]),.row false (.mp (Hi D)),.row false (.an L),.row false (.mp es)]):=by
 have hJ:=fw L es N D (a.drop 1) hD (fun x hx=>ha x (List.mem_of_mem_drop hx)) (by rw [List.length_drop];omega)
 have hq1:=WG ((a.drop 1).map (Dl D))
 generalize Wz ((a.drop 1).map (Dl D))=q at*
 obtain ⟨j,e⟩:=q
 dsimp only at hJ hq1 ⊢
 refine AI func71 rfl ntmps71 rfl AM ?_;refine BO ?_;refine MA ?_;refine Qq ?_;refine My ?_;refine AZ ?_;refine dO ?_;refine Ai ?_;refine kS ?_;refine BF ?_;refine AB (A7 rfl (TN _ _)) rfl ?_;refine AB (DR rfl rfl Xq EO rfl) rfl ?_;refine Hl (Ev.val (AEh (l:=1) rfl rfl underlying41 dT h1)) rfl ?_;refine rT (hJ) zg ?_;refine Ir ?_;refine BZ ?_;by_cases he:e=0
 ·subst he
  have hs:(Ej key (Ac 12) [] j).length=j.length+16:=LP _ _ _ _ hkey (Bo 12)
  rw [show M9 key (j,0)=(Ej key (Ac 12) [] j,0) from rfl]
  dsimp only
  refine A1 ?_;refine Jm ?_;refine AZ ?_;refine Qq ?_;refine My ?_;refine AB (DC (b:=6) rfl rfl) rfl ?_;refine Fu ?_;refine bV ?_;refine AX ?_;refine Li (zX key j hkey hq1) AFl ?_;refine RX ?_;refine RX ?_;refine Np ?_;refine Mh 6 rfl rfl hs AT ?_;exact En
 ·rw [show M9 key (j,e)=([],e) by unfold M9;rw [if_neg he]]
  dsimp only
  refine A1 ?_;refine Jm ?_;refine Ak ?_;refine Np ?_;refine gY 6 rfl ?_;exact En
theorem sF(b:AA 8)(hn:b.length≤2199023255552):Ev prog (.call 17 [.c (.bs b)] []) (.val (BM (BR b)) []):=by
 have hs:(BR b).length=32:=CI _
 refine AI func17 rfl ntmps17 rfl AM ?_;refine Ab ?_;refine Dr ?_;refine Ak ?_;refine Li (Ps b hn) Vz ?_;refine GH ?_;exact Ec
theorem Xh(k:r)(h:Hid r→g:=by intro h;refine AH (Bj rfl rfl) rfl ?_;exact h.out):g:=h ⟨k⟩
theorem dq(L:List Nd)(es:List (Value×Fy))(N:Nat)(D:Dn)(k n:Int)(a:List Int)(v:AA 8×Nat)(hD:rF D)(h0:PT D (DU a 0))(ha:1≤a.length)(h1:¬k=1)(h2:¬k=2)(h3:¬k=3)(h7:¬k=7)(h9:¬k=9)
  (hK:Ev prog (.call 71 [.c (.ptr 0 0),.agg (.ac [.val (.int .i64 k),.val (.int .i64 n),.is a]),.agg (.a8 (BR (Dl D (DU a 0))))] [.row false (.ac [.ptr 1 0,.mp 2]),.row false (.ac [.sl 3 0 N N 3,.mp 4]),.row false (.mp (Hi D)),.row false (.an L),.row false (.mp es)]) (.val (.tup [.c (.bs v.1),.c (.val (.int .i64 ((v.2:Nat):Int)))]) [.row false (.ac [.ptr 1 0,.mp 2]),.row false (.ac [.sl 3 0 N N 3,.mp 4]),.row false (.mp (Hi D)),.row false (.an L),.row false (.mp es)])):
  Ev prog (.call 45 [.c (.ptr 0 0),.agg (.ac [.val (.int .i64 k),.val (.int .i64 n),.is a])] [.row false (.ac [.ptr 1 0,.mp 2]),.row false (.ac [.sl 3 0 N N 3,.mp 4]),.row false (.mp (Hi D)),.row false (.an L),.row false (.mp es)]) (.val (.tup [.c (.bs v.1),.c (.val (.int .i64 ((v.2:Nat):Int)))]) [.row false (.ac [.ptr 1 0,.mp 2]),.row false (.ac [.sl 3 0 N N 3,.mp 4]),.row false (.mp (Hi D)),.row false (.an L),.row false (.mp es)]):=by
 have hl:=dP hD (DU a 0)
 refine XP ?_;refine BA ?_;refine MA ?_;refine Qq ?_;refine My ?_;refine AZ ?_;refine KO ?_;refine Ai ?_;refine KO ?_;refine Ai ?_;refine KO ?_;refine Ai ?_;refine KO ?_;refine Ai ?_;refine KO ?_;refine Al ?_;refine iW ?_;refine AW ?_;refine AH (A9 rfl rfl jN aq B7 D_) rfl ?_;refine AW ?_;refine AH (RG rfl) rfl ?_;refine AH (A7 rfl (Zj _ _)) rfl ?_;refine AH (DR rfl rfl gT EO rfl) rfl ?_;refine AH (A7 rfl (TN _ _)) rfl ?_;refine AH (DR rfl rfl Xq EO rfl) rfl ?_;refine AH (bD (j:=0) rfl rfl underlying41 dT EO) rfl ?_;refine AH (MP rfl E3 ha) rfl ?_;refine AIE (dC (c:= .bs (Dl D (DU a 0))) underlying85 underlying3 rfl rfl rfl hD.keyed (cl h0)) rfl ?_;refine Hw (Ah (sF (Dl D (DU a 0)) O_) ADu rfl rfl rfl B4) AT rfl ?_;refine Hw (Ah (bs:=[0,1,2,3,4]) (hK) AIQ K_ K_ rfl B4) AT rfl ?_;refine Xh ?_;refine Xh ?_;refine I6 ?_;refine I7 ?_;exact UE
theorem AKb(k n:Int)(a:List Int):Zg prog 58 (.agg (.ac [.val (.int .i64 k),.val (.int .i64 n),.is a])) 0=some (.c (.val (.int .i64 k))):=by kernel_rfl
theorem AJj{P:Program}{T:Nat→AV}{M:Az}{t:TypeId}{f:Nat}{x:Operand}{y v:AV}(hx:AF T x=y)(h:Zg P t y f=some v):AS P (AF T) M (.field t x f)=some v:=by
 subst hx
 exact h
theorem ACU{T:Nat→AV}{M:Az}{x:Operand}{k n:Int}{a:List Int}(hx:AF T x= .agg (.ac [.val (.int .i64 k),.val (.int .i64 n),.is a])):AS prog (AF T) M (.field 58 x 0)=some (.c (.val (.int .i64 k))):=
 AJj hx (AKb k n a)
theorem ADE(L:List Nd)(es:List (Value×Fy))(N:Nat)(D:Dn)(k n:Int)(a:List Int)(x:Nat)(hx:DU a 0=(x:Int))(hN:L.length=N)(hxN:x<N)(ha:1≤a.length)(h5:¬(DY L x).k=5):
  Ev prog (.call 70 [.c (.ptr 0 0),.agg (.ac [.val (.int .i64 k),.val (.int .i64 n),.is a])] [.row false (.ac [.ptr 1 0,.mp 2]),.row false (.ac [.sl 3 0 N N 3,.mp 4]),.row false (.mp (Hi D)),.row false (.an L),.row false (.mp es)]) (.val (.tup [.c (.bs []),.c (.val (.int .i64 ((6:Nat):Int)))]) [.row false (.ac [.ptr 1 0,.mp 2]),.row false (.ac [.sl 3 0 N N 3,.mp 4]),.row false (.mp (Hi D)),.row false (.an L),.row false (.mp es)]):=by
 have hAt:=ADa L es N x hN hxN
 rw [←hx] at hAt
 unfold ndA at hAt
 generalize DY L x=y at*
 generalize y.k=yk at*
 refine AI func70 rfl ntmps70 rfl AM ?_;refine BA ?_;refine Ys ?_;refine B5 11 mixed K_ rfl rfl rfl ?_;refine AW ?_;refine AH (RG rfl) rfl ?_;refine AH (A7 rfl (AC7 _ _)) rfl ?_;refine AH (DR rfl rfl AG7 EO rfl) rfl ?_;refine AH (A7 rfl (TN _ _)) rfl ?_;refine AH (DR rfl rfl Xq EO rfl) rfl ?_;refine AH (bD (j:=0) rfl rfl underlying41 dT EO) rfl ?_;refine AH (MP rfl E3 ha) rfl ?_;refine Hw (Ah (bs:=[1,3,4]) (hAt) ADR K_ K_ rfl B4) AT rfl ?_;refine AH (ACU rfl) rfl ?_;refine AH (AGQ rfl rfl) rfl ?_;refine BJ ?_;refine KP ?_;refine gY 4 rfl ?_;exact En
theorem vU(L:List Nd)(es:List (Value×Fy))(N:Nat)(D:Dn)(n:Int)(a:List Int)(v:AA 8×Nat)
  (hK:Ev prog (.call 70 [.c (.ptr 0 0),.agg (.ac [.val (.int .i64 7),.val (.int .i64 n),.is a])] [.row false (.ac [.ptr 1 0,.mp 2]),.row false (.ac [.sl 3 0 N N 3,.mp 4]),.row false (.mp (Hi D)),.row false (.an L),.row false (.mp es)]) (.val (.tup [.c (.bs v.1),.c (.val (.int .i64 ((v.2:Nat):Int)))]) [.row false (.ac [.ptr 1 0,.mp 2]),.row false (.ac [.sl 3 0 N N 3,.mp 4]),.row false (.mp (Hi D)),.row false (.an L),.row false (.mp es)])):
  Ev prog (.call 45 [.c (.ptr 0 0),.agg (.ac [.val (.int .i64 7),.val (.int .i64 n),.is a])] [.row false (.ac [.ptr 1 0,.mp 2]),.row false (.ac [.sl 3 0 N N 3,.mp 4]),.row false (.mp (Hi D)),.row false (.an L),.row false (.mp es)]) (.val (.tup [.c (.bs v.1),.c (.val (.int .i64 ((v.2:Nat):Int)))]) [.row false (.ac [.ptr 1 0,.mp 2]),.row false (.ac [.sl 3 0 N N 3,.mp 4]),.row false (.mp (Hi D)),.row false (.an L),.row false (.mp es)]):=by
 refine XP ?_;refine BA ?_;refine MA ?_;refine Qq ?_;refine My ?_;refine Ra ?_;refine Ai ?_;refine UY ?_;refine Ai ?_;refine AB (DC (b:=3) rfl rfl) rfl ?_;refine Ai ?_;refine AB (DC (b:=9) rfl rfl) rfl ?_;refine Ai ?_;refine AB (DC (b:=7) rfl rfl) rfl ?_;refine BF ?_;refine AB (A9 rfl rfl jN aq B7 D_) rfl ?_;refine rT (hK) AKZ ?_;refine RX ?_;refine RX ?_;exact He
theorem mW(a:List Int):∀(c:List Bool) (k:Nat),T7 c k=true→T7 (mark c a) k=true:=by
 induction a with
 |nil=>intro c k h;exact h
 |cons x a ih=>
  intro c k h
  refine ih _ k ?_;simp only [T7,List.getD_eq_getElem?_getD,List.getElem?_set] at h ⊢
  split
  ·split
   ·rfl
   ·rename_i h1 h2
    subst h1
    rw [List.getElem?_eq_none O_] at h
    exact h
  ·exact h
theorem AAh(a:List Int):∀(c:List Bool) (x:Int),x∈a→x.toNat<c.length→T7 (mark c a) x.toNat=true:=by
 induction a with
 |nil=>intro c x h;cases h
 |cons y a ih=>
  intro c x h hl
  rcases List.mem_cons.1 h with rfl | h
  ·refine mW a _ _ ?_
   simp [T7,hl]
  ·exact ih _ x h (by simpa using hl)
theorem aw(L:List Nd):∀n c x,x∈lk L n c→0≤x∧x<(n:Int)
 |0,_,x,h=>by cases h
 |n+1,c,x,h=>by
  unfold lk at h
  split at h
  ·rcases List.mem_cons.1 h with rfl | h
   ·omega
   ·have:=aw L n _ x h;omega
  ·have:=aw L n _ x h;omega
theorem cE(L:List Nd):∀n c,(lk L n c).Pairwise (fun x y=>y<x)
 |0,_=>List.Pairwise.nil
 |n+1,c=>by
  unfold lk
  split
  ·exact List.pairwise_cons.2 ⟨fun y hy=>(aw L n _ y hy).2,cE L n _⟩
  ·exact cE L n _
theorem Wa(L:List Nd):∀(n:Nat) (c:List Bool) (k:Nat),k<n→T7 c k=true→(k:Int)∈lk L n c
 |0,_,k,h,_=>by omega
 |n+1,c,k,h,hk=>by
  unfold lk
  by_cases e:k=n
  ·subst e
   rw [if_pos hk]
   exact List.mem_cons_self
  ·split
   ·exact List.mem_cons_of_mem _ (Wa L n _ k O_ (mW _ _ _ hk))
   ·exact Wa L n _ k O_ hk
theorem cy(L:List Nd):∀(n:Nat) (c:List Bool),n≤c.length→(∀k,k<n→ ∀x∈(DY L k).a,0≤x∧x<(k:Int))→ ∀k:Nat,(k:Int)∈lk L n c→ ∀x∈(DY L k).a,x∈lk L n c
 |0,_,_,_,k,h=>by cases h
 |n+1,c,hc,hL,k,h=>by
  intro x hx
  have hnd:=aw L (n+1) c k h
  have hx2:=hL k O_ x hx
  unfold lk at h ⊢
  split
  ·rename_i hq
   rw [if_pos hq] at h
   rcases List.mem_cons.1 h with e | h
   ·obtain rfl:k=n:=by omega
    refine List.mem_cons_of_mem _ ?_;have h1:=AAh (DY L k).a c x hx O_
    have h2:=Wa L k (mark c (DY L k).a) x.toNat O_ h1
    rwa [show ((x.toNat:Nat):Int)=x by omega] at h2
   ·exact List.mem_cons_of_mem _ (cy L n _ (by rw [Sp];omega) (fun k hk=>hL k O_) k h x hx)
  ·rename_i hq
   rw [if_neg hq] at h
   exact cy L n _ O_ (fun k hk=>hL k O_) k h x hx
theorem bZ(L:List Nd)(i:Nat):∀x∈EC L i,0≤x∧x<((i+1:Nat):Int):=fun x hx=>aw L (i+1) _ x (by unfold EC at hx;exact List.mem_reverse.1 hx)
theorem mJ(L:List Nd)(i:Nat):(EC L i).Pairwise (· < ·):=by
 unfold EC
 rw [List.pairwise_reverse]
 exact cE L _ _
theorem mU(L:List Nd)(i:Nat):(i:Int)∈EC L i:=by
 unfold EC
 rw [List.mem_reverse]
 refine Wa L (i+1) _ i O_ ?_;simp [T7]
theorem iD{L:List Nd}(hA:Oq L){i:Nat}(hi:i<L.length){k:Nat}(hk:(k:Int)∈EC L i):∀x∈(DY L k).a,x∈EC L i:=by
 unfold EC at hk ⊢
 intro x hx
 rw [List.mem_reverse] at hk ⊢
 exact cy L (i+1) _ (by simp) (fun k hk x hx=>(hA.nd (i:=k) O_).args x hx) k hk x hx
def zR:AA 8:=[97#8,116#8,111#8,109#8]
def AAL:AA 8:=[119#8,111#8,114#8,100#8]
def Zl(X:Nd→(Int→AA 8)→AA 8×Nat)(L:List Nd)(g:Int→AA 8)(y:Nd):AA 8×Nat:=
 if y.k=1 then btN zR y.n.toNat
 else if y.k=2 then btN AAL y.n.toNat
 else if y.k=3 then QN (Wz (y.a.map g))
 else if y.k=9 then Wz (y.a.map g)
 else if y.k=4 then fW (BR (g (DU y.a 0))) y.n.toNat
 else if y.k=6 then M9 (BR (g (DU y.a 0))) (Wz ((y.a.drop 1).map g))
 else if y.k=7∧ ¬(DY L (DU y.a 0).toNat).k=5 then ([],6)
 else X y g
def gj(L:List Nd)(y:Nd):Prop:=y.k=5∨y.k=8∨(y.k=7∧(DY L (DU y.a 0).toNat).k=5)
def Sd(X:Nd→(Int→AA 8)→AA 8×Nat)(L:List Nd):List Int→Dn→Dn×Nat
 |[],D=>(D,0)
 |k::r,D=>if (Zl X L (Dl D) (DY L k.toNat)).2=0 then Sd X L r (D++[(k,(Zl X L (Dl D) (DY L k.toNat)).1)]) else (D,(Zl X L (Dl D) (DY L k.toNat)).2)
def kc(X:Nd→(Int→AA 8)→AA 8×Nat)(L:List Nd)(i:Nat):AA 8×Nat:=
 if (Sd X L (EC L i) []).2=0 then (Dl (Sd X L (EC L i) []).1 i,0) else ([],(Sd X L (EC L i) []).2)
theorem xi{D:Dn}{x:Int}(h:PT D x)(p:Int×AA 8):PT (D++[p]) x:=by
 obtain ⟨q,hq,e⟩:=h
 exact ⟨q,List.mem_append_left _ hq,e⟩
theorem uA(D:Dn)(x:Int)(b:AA 8):PT (D++[(x,b)]) x:=⟨(x,b),by simp,rfl⟩
theorem rF.snoc{D:Dn}(h:rF D){x:Int}{b:AA 8}(hx:¬PT D x)(hb:b.length≤100000):rF (D++[(x,b)]):=by
 refine ⟨?_,fun p hp=>?_⟩
 ·rw [List.pairwise_append]
  refine ⟨h.dist,by simp,fun p hp q hq=>?_⟩
  obtain rfl:=List.mem_singleton.1 hq
  exact fun e=>hx ⟨p,hp,e⟩
 ·rcases List.mem_append.1 hp with hp | hp
  ·exact h.len p hp
  ·obtain rfl:=List.mem_singleton.1 hp
   exact hb
theorem xk(D:Dn)(x:Int)(b:AA 8):Hi (D++[(x,b)])=Hi D++[(.int .i64 x,.bs b)]:=by simp [Hi]
theorem wv{D:Dn}{x:Int}(h:¬PT D x):∀p∈Hi D,p.1≠ .int .i64 x:=by
 intro p hp e
 obtain ⟨q,hq,rfl⟩:=List.mem_map.1 hp
 exact h ⟨q,hq,(Value.int.inj e).2⟩
theorem ACm{X:Nd→(Int→AA 8)→AA 8×Nat}{L:List Nd}{g:Int→AA 8}{y:Nd}(hX:gj L y→(X y g).1.length≤100000)(hk:1≤y.k∧y.k≤9):(Zl X L g y).1.length≤100000:=by
 have hh:∀q:AA 8×Nat,(QN q).1.length≤32:=fun q=>by
  unfold QN
  split
  ·dsimp only;rw [CI];omega
  ·exact Nat.zero_le _
 have hs:∀(k:AA 8) (l:List (AA 8)),k.length=32→(M9 k (Wz l)).1.length≤65552:=fun k l hk=>by
  unfold M9
  have:=WG l
  split
  ·dsimp only;rw [LP _ _ _ _ hk (Bo 12)];omega
  ·exact Nat.zero_le _
 unfold Zl btN fW
 split
 ·dsimp only;rw [CI];omega
 ·split
  ·dsimp only;rw [CI];omega
  ·split
   ·exact Nat.le_trans (hh _) D_
   ·split
    ·exact Nat.le_trans (WG _) D_
    ·split
     ·dsimp only;rw [Yg];omega
     ·split
      ·exact Nat.le_trans (hs _ _ (CI _)) D_
      ·split
       ·exact Nat.zero_le _
       ·refine hX ?_
        unfold gj
        by_cases e:y.k=7
        ·rename_i h;exact .inr (.inr ⟨e,by by_cases e2:(DY L (DU y.a 0).toNat).k=5;exact e2;exact absurd ⟨e,e2⟩ h⟩)
        ·omega
def jz(L:List Nd)(es:List (Value×Fy))(N:Nat)(D:Dn)(y:Nd)(v:AA 8×Nat):Prop:=
 Ev prog (.call 45 [.c (.ptr 0 0),.agg (.ac [.val (.int .i64 y.k),.val (.int .i64 y.n),.is y.a])] [.row false (.ac [.ptr 1 0,.mp 2]),.row false (.ac [.sl 3 0 N N 3,.mp 4]),.row false (.mp (Hi D)),.row false (.an L),.row false (.mp es)]) (.val (.tup [.c (.bs v.1),.c (.val (.int .i64 ((v.2:Nat):Int)))]) [.row false (.ac [.ptr 1 0,.mp 2]),.row false (.ac [.sl 3 0 N N 3,.mp 4]),.row false (.mp (Hi D)),.row false (.an L),.row false (.mp es)])
theorem lp(X:Nd→(Int→AA 8)→AA 8×Nat)(L:List Nd)(es:List (Value×Fy))(N:Nat)(D:Dn)(y:Nd)(i:Nat)(hN:L.length=N)(hi:i<N)(hnd:AFT i y)(hsm:y.n≤9223372036854775807)(hD:rF D)(ha:∀x∈y.a,PT D x)(hX:gj L y→jz L es N D y (X y (Dl D))):
  jz L es N D y (Zl X L (Dl D) y):=by
 obtain ⟨k,n,a⟩:=y
 have hk:=hnd.kind
 have hn:=hnd.num.1
 have hlen:=hnd.len
 have hml:=ci k
 have hargs:=hnd.args
 have h400:a.length≤400:=by dsimp only at hlen;omega
 dsimp only at hk hn hsm ha hlen hargs
 obtain ⟨n,rfl⟩:∃m:Nat,n=(m:Int):=⟨n.toNat,by omega⟩
 have hsm:n≤9223372036854775807:=by omega
 have first:1≤a.length→DU a 0∈a:=fun h=>by simp [DU,show 0<a.length by omega]
 have go:∀j:Int,k=j→SD k=SD j:=fun j h=>by rw [h]
 by_cases e1:k=1
 ·subst e1
  rw [show Zl X L (Dl D) ⟨1,(n:Int),a⟩=btN zR n by simp [Zl]]
  exact uZ L es N D n a hsm
 by_cases e2:k=2
 ·subst e2
  rw [show Zl X L (Dl D) ⟨2,(n:Int),a⟩=btN AAL n by simp [Zl]]
  exact vv L es N D n a hsm
 by_cases e3:k=3
 ·subst e3
  rw [show Zl X L (Dl D) ⟨3,(n:Int),a⟩=QN (Wz (a.map (Dl D))) by simp [Zl]]
  exact wc L es N D n a hD ha h400
 by_cases e9:k=9
 ·subst e9
  rw [show Zl X L (Dl D) ⟨9,(n:Int),a⟩=Wz (a.map (Dl D)) by simp [Zl]]
  exact uK L es N D n a hD ha h400
 by_cases e4:k=4
 ·subst e4
  have h1:1≤a.length:=hlen.1
  rw [show Zl X L (Dl D) ⟨4,(n:Int),a⟩=fW (BR (Dl D (DU a 0))) n by simp [Zl]]
  exact dq L es N D 4 n a _ hD (ha _ (first h1)) h1 D_ D_ D_ D_ D_ (AA9 L es N D n a hsm _ (CI _))
 by_cases e6:k=6
 ·subst e6
  have h1:1≤a.length:=hlen.1
  rw [show Zl X L (Dl D) ⟨6,(n:Int),a⟩=M9 (BR (Dl D (DU a 0))) (Wz ((a.drop 1).map (Dl D))) by simp [Zl]]
  exact dq L es N D 6 n a _ hD (ha _ (first h1)) h1 D_ D_ D_ D_ D_ (tr L es N D n a hD ha h400 h1 _ (CI _))
 by_cases e7:k=7∧ ¬(DY L (DU a 0).toNat).k=5
 ·obtain ⟨e7,e5⟩:=e7
  subst e7
  have h1:1≤a.length:=Nat.le_trans (show 1≤SD 7 by decide) hlen.1
  have h2:=hargs _ (first h1)
  rw [show Zl X L (Dl D) ⟨7,(n:Int),a⟩=([],6) by simp [Zl,e5]]
  exact vU L es N D n a ([],6) (ADE L es N D 7 n a (DU a 0).toNat O_ hN O_ h1 e5)
 ·rw [show Zl X L (Dl D) ⟨k,(n:Int),a⟩=X ⟨k,(n:Int),a⟩ (Dl D) by
   unfold Zl
   dsimp only
   rw [if_neg e1,if_neg e2,if_neg e3,if_neg e9,if_neg e4,if_neg e6,if_neg e7]]
  refine hX ?_;unfold gj
  dsimp only
  by_cases e:k=7
  ·exact .inr (.inr ⟨e,by by_cases e2:(DY L (DU a 0).toNat).k=5;exact e2;exact absurd ⟨e,e2⟩ e7⟩)
  ·omega
theorem AKX(b c:Nat):CJ prog 87 [(0,.c (.ptr b 0)),(1,.c (.mp c))]=some (.agg (.ac [.ptr b 0,.mp c])):=by kernel_rfl
theorem ADH{T:Nat→AV}{M:Az}{x y:Operand}{b c:Nat}(hx:AF T x= .c (.ptr b 0))(hy:AF T y= .c (.mp c)):AS prog (AF T) M (.build 87 #[(0,x),(1,y)])=some (.agg (.ac [.ptr b 0,.mp c])):=
 qd (by simp [hx,hy]) (AKX b c)
theorem qq(X:Nd→(Int→AA 8)→AA 8×Nat)(L:List Nd)(es:List (Value×Fy))(N i:Nat)(hN:L.length=N)(hNl:N≤1048576)(hi:i<N)(hA:Oq L)
  (hX:∀(D:Dn) (k:Nat),(k:Int)∈EC L i→rF D→(∀x∈(DY L k).a,PT D x)→gj L (DY L k)→(X (DY L k) (Dl D)).1.length≤100000∧jz L es N D (DY L k) (X (DY L k) (Dl D))):
  Ev prog (.call 22 [.c (.ptr 0 0),.c (.val (.int .i64 (i:Int)))] [.row false (.ac [.sl 1 0 N N 3,.mp 2]),.row false (.an L),.row false (.mp es)]) (.val (.tup [.c (.bs (kc X L i).1),.c (.val (.int .i64 (((kc X L i).2:Nat):Int)))]) [.row false (.ac [.sl 1 0 N N 3,.mp 2]),.row false (.an L),.row false (.mp es)]):=by
 have hl1:=cO L i
 have hlt:=bZ L i
 have hasc:=mJ L i
 have htop:=mU L i
 have hcl:∀k:Nat,(k:Int)∈EC L i→ ∀x∈(DY L k).a,x∈EC L i:=fun k hk=>iD hA O_ hk
 unfold kc
 have hBen:=AGT L es N i hN hNl hi hA
 generalize hall:EC L i=all at*
 clear hall
 generalize hn:all.length=n at*
 refine AI func22 rfl ntmps22 rfl AM ?_;refine Ab ?_;refine S5 ?_;refine Be ?_;refine Li (hBen) AKD ?_;refine Ch ?_;refine FB ?_;refine Jm ?_;refine Ak ?_;refine Hl (eF) rfl ?_;refine AB (ADH rfl rfl) rfl ?_;refine Ap (Sw yp AM) AT rfl ?_;refine BF ?_;refine AB (qL rfl underlying41 rfl) rfl ?_;refine V5 ?_;refine Q2 [0,1,8,26,27,28] (fun (zz:Nat×Dn)=>⟨58,AU [0,1,8,26,27,28] [AY 0,At (i:Int),AY 3,.c (.is all),At (n:Int),At (zz.1:Int)],[.row false (.ac [.sl 1 0 N N 3,.mp 2]),.row false (.an L),.row false (.mp es),.row true (.ac [.ptr 0 0,.mp 4]),.row true (.mp (Hi zz.2))]⟩) (fun zz=>n-zz.1) (fun zz=>(zz.1≤n∧rF zz.2)∧(∀x,PT zz.2 x↔x∈all.take zz.1)∧Sd X L all []=Sd X L (all.drop zz.1) zz.2) (0,[]) K_ ⟨⟨Nat.zero_le _,⟨List.Pairwise.nil,fun p hp=>by cases hp⟩⟩,fun x=>by simp [PT],rfl⟩ ?_
 rintro ⟨j,D⟩ ⟨⟨hj,hD⟩,hdh,hrun⟩
 dsimp only at hj hD hdh hrun ⊢
 by_cases hlt':j<n
 ·obtain ⟨k,hx⟩:∃k:Nat,DU all j=(k:Int):=⟨(DU all j).toNat,by
   have h1:=hlt (DU all j) (by simp [DU,show j<all.length by omega])
   omega⟩
  have hget:all[j]'O_=(k:Int):=by rw [←hx];simp [DU,show j<all.length by omega]
  have hdrop:all.drop j=(k:Int)::all.drop (j+1):=by rw [List.drop_eq_getElem_cons O_,hget]
  have hmem:(k:Int)∈all:=by rw [←hget];exact List.getElem_mem _
  have hkN:k<N:=by have:=(hlt _ hmem).2;omega
  have hsplit:all=all.take j++(k:Int)::all.drop (j+1):=by rw [←hdrop,List.take_append_drop]
  have hp:=hasc
  rw [hsplit,List.pairwise_append] at hp
  obtain ⟨_,hp2,hp3⟩:=hp
  have hp4:=(List.pairwise_cons.1 hp2).1
  have hnot:¬PT D (k:Int):=fun h=>by
   have:=hp3 _ ((hdh _).1 h) _ List.mem_cons_self
   omega
  have ha:∀x∈(DY L k).a,PT D x:=fun x hx=>by
   have h1:=hcl k hmem x hx
   have h2:=((hA.nd (i:=k) O_).args x hx).2
   rw [hsplit] at h1
   rcases List.mem_append.1 h1 with h1 | h1
   ·exact (hdh x).2 h1
   ·rcases List.mem_cons.1 h1 with rfl | h1
    ·omega
    ·have:=hp4 x h1;omega
  have hB:=lp X L es N D (DY L k) k hN hkN (hA.nd O_) (hA.small k O_) hD ha (fun h=>(hX D k hmem hD ha h).2)
  have hvl:=ACm (g:=Dl D) (fun h=>(hX D k hmem hD ha h).1) (hA.nd (i:=k) O_).kind
  have hAt:=ADa L es N k hN hkN
  rw [←hx] at hAt
  unfold ndA at hAt
  unfold jz at hB
  rw [hdrop,Sd.eq_2,Int.toNat_natCast] at hrun
  generalize Zl X L (Dl D) (DY L k)=v at*
  generalize DY L k=y at*
  obtain ⟨b,e⟩:=v
  dsimp only at hB hrun hvl
  refine U7 ?_;refine AB (bD rfl rfl underlying41 dT EO) rfl ?_;refine AB (MP rfl E3 EO) rfl ?_;refine Be ?_;refine AX ?_;refine CQ (Ah (bs:=[0,1,2]) (hAt) ADR K_ K_ rfl B4) AT rfl ?_;refine CQ (Ah (bs:=[3,0,4,1,2]) (hB) AIh K_ K_ rfl B4) AT rfl ?_;refine Ir ?_;refine BZ ?_;by_cases he:e=0
  ·subst he
   rw [if_pos rfl] at hrun
   refine A1 ?_;refine Jm ?_;refine AR ?_;rw [hx]
   refine A1 ?_;refine UO ?_;refine AB (A7 rfl (Zj _ _)) rfl ?_;refine AB (DR rfl rfl gT EO rfl) rfl ?_;refine LU ?_;refine AD3 (mo (c:= .bs b) underlying85 underlying3 rfl rfl rfl rfl hD.keyed rfl (wv hnot) AT) ?_;refine Cj ?_;rw [←xk]
   refine ⟨(j+1,D++[((k:Int),b)]),K_,by show n-(j+1)<n-j;omega,⟨hlt',hD.snoc hnot hvl⟩,fun x=>?_,hrun⟩
   dsimp only
   rw [List.take_succ_eq_append_getElem O_,hget,List.mem_append,List.mem_singleton,←hdh]
   constructor
   ·rintro ⟨p,hp,rfl⟩
    rcases List.mem_append.1 hp with hp | hp
    ·exact .inl ⟨p,hp,rfl⟩
    ·obtain rfl:=List.mem_singleton.1 hp
     exact .inr rfl
   ·rintro (h | rfl)
    ·exact xi h _
    ·exact uA _ _ _
  ·rw [if_neg he] at hrun
   rw [hrun,show (if (D,e).2=0 then (Dl (D,e).1 (i:Int),0) else ([],(D,e).2))=(([]:AA 8),e) by rw [if_neg he]]
   dsimp only
   refine A1 ?_;refine Jm ?_;refine Ak ?_;refine Np ?_;refine gY 4 rfl ?_;exact En
 ·obtain rfl:j=n:=by omega
  have hi':PT D (i:Int):=(hdh _).2 (by rw [←hn,List.take_length];exact htop)
  have hl:=dP hD (i:Int)
  rw [hrun,←hn,List.drop_length,show Sd X L [] D=(D,0) from rfl,if_pos rfl]
  rw [hn]
  dsimp only
  refine U7 ?_;refine UF ?_;refine AX ?_;refine UO ?_;refine AB (A7 rfl (Zj _ _)) rfl ?_;refine AB (DR rfl rfl gT EO rfl) rfl ?_;refine AX ?_;refine Hl (dC (c:= .bs (Dl D (i:Int))) underlying85 underlying3 rfl rfl rfl hD.keyed (cl hi')) rfl ?_;refine ADo ?_;exact He
theorem Q9(k:r)(h:Hid r→g:=by intro h;refine B5 9 mixed K_ rfl rfl rfl ?_;exact h.out):g:=h ⟨k⟩
theorem yE(r s:AA 8)(o p n c d:Nat)(hr:o+n≤r.length)(hs:p+n≤s.length)(hn:n≤1099511627776)(he:∀i,i<n→nth r (o+i)=nth s (p+i)):
  Ev prog (.call 13 [.c (.sl 0 o n c 1),.c (.sl 1 p n d 1)] [.row false (.a8 r),.row false (.a8 s)]) (.val (.c (.val (.bool true))) [.row false (.a8 r),.row false (.a8 s)]):=by
 refine AI func13 rfl ntmps13 rfl AM ?_;refine Ab ?_;refine BF ?_;refine D7 ?_;refine AX ?_;refine D7 ?_;refine AB (Ko rfl rfl) rfl ?_;refine EA ?_;refine Cg rfl (by simp) ?_
 refine Ab ?_;refine Al ?_;refine AK [0,1,5] (fun (x:Nat)=>⟨26,AU [0,1,5] [.c (.sl 0 o n c 1),.c (.sl 1 p n d 1),At (x)],[A0 (r),A0 (s)]⟩) (fun j=>j) (n) K_ ?_ ?_
 ·intro j hj
  refine CK ?_;refine Hc ?_;refine Ar ?_;refine Q9 ?_;refine Ca ?_;refine AH (P8 rfl rfl underlying23 Bt O_) rfl ?_;refine EK ?_;refine Ca ?_;refine AH (P8 rfl rfl underlying23 Bt O_) rfl ?_;refine EK ?_;refine AH (qn rfl rfl) rfl ?_;refine Fs ?_;refine Cg rfl (by simp [he j hj]) ?_
  refine A1 ?_;refine HH ?_;exact ⟨_,K_,rfl⟩
 ·refine S_ ?_
  refine A2 ?_;refine LU ?_;refine Hc ?_;refine B0 ?_;exact CF
theorem kq(x:AA 8)(hx:x.length≤1099511627776):Ev prog (.call 13 [.c (.bs x),.c (.bs x)] []) (.val (.c (.val (.bool true))) []):=
 Ev.partsB (m:=[]) (m':=[.row false (.a8 x),.row false (.a8 x)]) (N:=[]) (N':=[]) [none,none] [0,1] (.no (.no .nil)) (.c (.same rfl) (.c (.same rfl) .nil)) (.bs rfl rfl (.bs rfl rfl .nil)) rfl rfl (yE x x 0 0 x.length x.length x.length O_ O_ hx (fun i _=>rfl)) rfl rfl
theorem Ho(k:r)(h:Hid r→g:=by intro h;refine S_ ?_;refine A2 ?_;refine AB (Ao rfl) rfl ?_;refine AB (Ao rfl) rfl ?_;refine AB (Oc rfl underlying22) rfl ?_;exact h.out):g:=h ⟨k⟩
theorem Kp(k:r)(h:Hid r→g:=by intro h;refine AH (Jq rfl) rfl ?_;exact h.out):g:=h ⟨k⟩
theorem im(l:List (AA 8))(n c d:Nat)(hl:l.length=n)(hn:n≤1099511627776)(hb:∀x∈l,x.length≤1099511627776):Ev prog (.call 14 [.c (.sl 0 0 n c 1),.c (.sl 1 0 n d 1)] [.row false (.ab l),.row false (.ab l)]) (.val (.c (.val (.bool true))) [.row false (.ab l),.row false (.ab l)]):=by
 refine AI func14 rfl ntmps14 rfl AM ?_;refine Ab ?_;refine BF ?_;refine Yj ?_;refine AX ?_;refine Yj ?_;refine AB (Ko rfl rfl) rfl ?_;refine EA ?_;refine Cg rfl (by simp) ?_
 refine Ab ?_;refine Al ?_;refine AK [0,1,5] (fun (x:Nat)=>⟨27,AU [0,1,5] [.c (.sl 0 0 n c 1),.c (.sl 1 0 n d 1),At (x)],[.row false (.ab l),.row false (.ab l)]⟩) (fun j=>j) (n) K_ ?_ ?_
 ·intro j hj
  have h1:=mx hb j
  refine Ho ?_;refine OE ?_;refine Ar ?_;refine B5 10 mixed K_ rfl rfl rfl ?_;refine Ca ?_;refine AH (F1 rfl rfl underlying22 WE O_) rfl ?_;refine AH (iR rfl rfl kC EO) rfl ?_;refine Ca ?_;refine AH (F1 rfl rfl underlying22 WE O_) rfl ?_;refine AH (iR rfl rfl kC EO) rfl ?_;refine Hw (Ah (kq (O6 l j) h1) ADW rfl rfl rfl B4) AT rfl ?_;refine Kp ?_;refine BJ ?_;refine Cc ?_;exact ⟨_,K_,rfl⟩
 ·refine S_ ?_
  refine A2 ?_;refine LU ?_;refine Yj ?_;refine OE ?_;refine B0 ?_;exact CF
theorem Ix(k:r)(h:Hid r→g:=by intro h;refine AB (DR rfl rfl kC EO rfl) rfl ?_;exact h.out):g:=h ⟨k⟩
theorem vz(x:AA 8)(c:Nat)(hx:x.length≤1099511627776):Ev prog (.call 37 [.c (.sl 0 0 1 c 1)] [.row false (.ac [.bs x])]) (.val (.c (.bs x)) [.row false (.ac [.bs x])]):=by
 refine AI func37 rfl ntmps37 rfl AM ?_;refine P3 ?_;refine Ai ?_;refine Al ?_;refine EU 3 1 (.a8 []) rfl rfl AM rfl ?_;refine S_ ?_;refine AK [0,3,4] (fun (zz:Nat×Nat×AA 8)=>⟨18,AU [0,3,4] [.c (.sl 0 0 1 c 1),.c (.sl 1 0 zz.2.1 zz.2.1 1),At (((zz.1:Nat):Int))],[.row false (.ac [.bs x]),BP (zz.2.2)]⟩) (fun j=>(j,if j=0 then 0 else x.length,if j=0 then [] else x)) (1) K_ ?_ ?_
 ·intro j hj
  obtain rfl:j=0:=by omega
  try dsimp only
  rw [if_pos rfl,if_pos rfl,if_neg D_,if_neg D_]
  refine Ho ?_;refine OE ?_;refine Io ?_;refine lJ ?_;refine Ix ?_;refine Hl (AGy (len:=0) (n:=x.length) rfl rfl rfl underlying23 underlying23 KM rfl rfl O_ AM AT) rfl ?_;refine BF ?_;refine HH ?_;rw [show 0+x.length=x.length by omega]
  exact ⟨(0+1,_,_),K_,rfl⟩
 ·try dsimp only
  rw [if_neg D_,if_neg D_]
  refine Ho ?_;refine OE ?_;refine Ar ?_;refine Mh 3 rfl rfl rfl rfl ?_;refine A1 ?_;refine Al ?_;exact CF
theorem xH(b:AA 8):Zi b 4=(((nth b 0).toNat ||| (nth b 1).toNat*2^8) ||| (nth b 2).toNat*2^16) ||| (nth b 3).toNat*2^24:=by
 simp [Zi]
theorem gL(k:r)(h:Hid r→g:=by intro h;refine AH (F9 rfl underlying5 underlying3 (AJo _)) rfl ?_;exact h.out):g:=h ⟨k⟩
theorem bk(b:AA 8)(hb:b.length≤1099511627776):Ev prog (.call 16 [.c (.bs b)] []) (.val (.tup [.c (.sl 0 0 (bd b).1.length (bd b).1.length 1),.c (.val (.bool (decide ((bd b).2=0))))]) [.row true (.ab (bd b).1)]):=by
 refine AI func16 rfl ntmps16 rfl AM ?_;refine Ab ?_;refine S5 ?_;refine BZ ?_;by_cases h0:65536<b.length
 ·rw [Pc (.inl h0)]
  refine A1 ?_;refine DJ ?_;refine JE ?_;refine KP ?_;refine EU 2 1 (.ab []) rfl rfl AM rfl ?_;exact En
 ·refine S_ ?_
  refine RT ?_;refine DJ ?_;refine JE ?_;refine B0 ?_;refine EU 4 1 (.ab []) rfl rfl AM rfl ?_;refine S_ ?_;refine Q2 [0,4] (fun (zz:AA 8×Nat×List (AA 8))=>⟨56,AU [0,4] [.c (.bs zz.1),.c (.sl 0 0 zz.2.1 zz.2.1 1)],[.row true (.ab zz.2.2)]⟩) (fun zz=>zz.1.length) (fun zz=>gH b=(gH zz.1).map (zz.2.2++ ·)∧zz.2.2.length=zz.2.1∧zz.1.length+zz.2.1≤65536) (b,0,[]) K_ ⟨by simp,rfl,by simp;omega⟩ ?_
  rintro ⟨r,on,out⟩ ⟨hR,hol,hsz⟩
  dsimp only at hR hol hsz ⊢
  rw [gH.eq_1 r] at hR
  by_cases h1:r.length=0
  ·rw [if_pos h1] at hR
   rw [bL (l:=out) O_ (by rw [hR];simp)]
   refine A1 ?_;refine DJ ?_;refine YS ?_;refine AR ?_;rw [hol]
   refine A1 ?_;exact He
  rw [if_neg h1] at hR
  refine A1 ?_;refine DJ ?_;refine YS ?_;refine AR ?_;by_cases h2:r.length<4
  ·rw [dif_pos h2] at hR
   rw [Pc (.inr (by rw [hR];rfl))]
   refine A1 ?_;refine DJ ?_;refine IU ?_;refine KP ?_;refine EU 2 1 (.ab []) rfl rfl AM rfl ?_;exact En
  rw [dif_neg h2] at hR
  have g0:=(nth r 0).isLt
  have g1:=(nth r 1).isLt
  have g2:=(nth r 2).isLt
  have g3:=(nth r 3).isLt
  have o1:(nth r 0).toNat ||| (nth r 1).toNat*2^8<2^32:=Nat.or_lt_two_pow O_ O_
  have o2:((nth r 0).toNat ||| (nth r 1).toNat*2^8) ||| (nth r 2).toNat*2^16<2^32:=Nat.or_lt_two_pow o1 O_
  refine A1 ?_;refine DJ ?_;refine IU ?_;refine Ar ?_;refine B5 23 mixed K_ rfl rfl rfl ?_;refine AW ?_;refine AH (aG (j:=0) rfl rfl underlying23 Bt EO) rfl ?_;refine AH (WU rfl UR EO) rfl ?_;refine gL ?_;refine AW ?_;refine AH (aG (j:=1) rfl rfl underlying23 Bt EO) rfl ?_;refine AH (WU rfl UR EO) rfl ?_;refine gL ?_;refine AH (jg (j:=8) rfl rfl O_ O_) rfl ?_;refine AH (rm rfl rfl O_ O_) rfl ?_;refine AW ?_;refine AH (aG (j:=2) rfl rfl underlying23 Bt EO) rfl ?_;refine AH (WU rfl UR EO) rfl ?_;refine gL ?_;refine AH (jg (j:=16) rfl rfl O_ O_) rfl ?_;refine AH (rm rfl rfl O_ O_) rfl ?_;refine AW ?_;refine AH (aG (j:=3) rfl rfl underlying23 Bt EO) rfl ?_;refine AH (WU rfl UR EO) rfl ?_;refine gL ?_;refine AH (jg (j:=24) rfl rfl O_ O_) rfl ?_;refine AH (rm rfl rfl O_ O_) rfl ?_;refine Ft ?_;refine AR ?_;rw [←xH r]
  have h3:=iq r 4 O_
  have h5:(r.drop 4).length=r.length-4:=by simp
  generalize Zi r 4=n at*
  by_cases h6:(r.drop 4).length<n
  ·rw [if_pos h6] at hR
   rw [Pc (.inr (by rw [hR];rfl))]
   refine CK ?_;refine DJ ?_;refine AB (E4 (b:=4) rfl rfl O_ O_) rfl ?_;refine AB (II rfl rfl) rfl ?_;refine KP ?_;refine EU 2 1 (.ab []) rfl rfl AM rfl ?_;exact En
  rw [if_neg h6,sB] at hR
  have h7:((r.drop 4).take n).length=n:=by simp;omega
  have h8:(r.drop (4+n)).length=r.length-(4+n):=by simp
  have h9:cut r 4 (4+n-4)=(r.drop 4).take n:=by unfold cut;rw [show 4+n-4=n by omega]
  have h10:(r.drop 4).drop n=r.drop (4+n):=by rw [List.drop_drop]
  rw [h10] at hR
  refine CK ?_;refine DJ ?_;refine AB (E4 (b:=4) rfl rfl O_ O_) rfl ?_;refine AB (II rfl rfl) rfl ?_;refine Io ?_;refine Wc ?_;refine Hl (Ev.val ((AA4 (l:=4) (h:=4+n) rfl underlying23 Bt rfl rfl O_ O_).trans (congrArg (fun z=>some (AV.c (Cell.bs z))) h9))) rfl ?_
  refine dy ?_;refine Li (vz ((r.drop 4).take n) 1 O_) AJn ?_;refine dy ?_;refine AAq ?_;refine Be ?_;refine Wc ?_;refine AB (Xj rfl rfl underlying23 Bt Wg) rfl ?_;refine BZ ?_;refine ⟨(r.drop (4+n),on+1,out++[(r.drop 4).take n]),K_,?_,hR,?_,?_⟩
  ·dsimp only;omega
  ·simp [hol]
  ·dsimp only;omega
theorem zh{n:Nat}(l:AA n)(o k i:Nat)(h:i<k):nth (cut l o k) i=nth l (o+i):=by
 unfold nth;exact Qa l o k i 0 h
theorem AGW{n:Nat}(a b:AA n)(i:Nat):nth (a++b) i=if i<a.length then nth a i else nth b (i-a.length):=by
 unfold nth;exact IV a b i 0
theorem XC{n:Nat}{a b:AA n}(hl:a.length=b.length)(h:∀i,i<a.length→nth a i=nth b i):a=b:=by
 refine List.ext_getElem hl fun i h1 h2=>?_
 have:=h i h1
 rwa [Qp a i h1,Qp b i h2] at this
def KS(x:AA 32)(a b:Nat):AA 32:=put x a ((nth x a)+(nth x b))
@[simp] theorem dW(x:AA 32)(a b:Nat):(KS x a b).length=x.length:=by simp [KS]
def Kt(a d:Nat)(X1:AA 32):AA 32:=put X1 d (Ck ((nth X1 d)^^^(nth X1 a)) ((16:Nat):Int))
@[simp] theorem dh(a d:Nat)(X1:AA 32):(Kt a d X1).length=X1.length:=by simp [Kt]
def KV(c d:Nat)(X2:AA 32):AA 32:=put X2 c ((nth X2 c)+(nth X2 d))
@[simp] theorem dm(c d:Nat)(X2:AA 32):(KV c d X2).length=X2.length:=by simp [KV]
def Ki(b c:Nat)(X3:AA 32):AA 32:=put X3 b (Ck ((nth X3 b)^^^(nth X3 c)) ((12:Nat):Int))
@[simp] theorem di(b c:Nat)(X3:AA 32):(Ki b c X3).length=X3.length:=by simp [Ki]
def Ke(a b:Nat)(X4:AA 32):AA 32:=put X4 a ((nth X4 a)+(nth X4 b))
@[simp] theorem db(a b:Nat)(X4:AA 32):(Ke a b X4).length=X4.length:=by simp [Ke]
def KZ(a d:Nat)(X5:AA 32):AA 32:=put X5 d (Ck ((nth X5 d)^^^(nth X5 a)) ((8:Nat):Int))
@[simp] theorem dn(a d:Nat)(X5:AA 32):(KZ a d X5).length=X5.length:=by simp [KZ]
def Kx(c d:Nat)(X6:AA 32):AA 32:=put X6 c ((nth X6 c)+(nth X6 d))
@[simp] theorem dg(c d:Nat)(X6:AA 32):(Kx c d X6).length=X6.length:=by simp [Kx]
def Kg(b c:Nat)(X7:AA 32):AA 32:=put X7 b (Ck ((nth X7 b)^^^(nth X7 c)) ((7:Nat):Int))
@[simp] theorem dZ(b c:Nat)(X7:AA 32):(Kg b c X7).length=X7.length:=by simp [Kg]
def NS(x:AA 32)(a b c d:Nat):AA 32:=(Kg b c (Kx c d (KZ a d (Ke a b (Ki b c (KV c d (Kt a d (KS x a b))))))))
theorem ec(x:AA 32)(a b c d:Nat)(hx:x.length=16)(ha:a≤1099511627776)(hb:b≤1099511627776)(hc:c≤1099511627776)(hd:d≤1099511627776)(la:a<16)(lb:b<16)(lc:c<16)(ld:d<16):Ev prog (.call 151 [AY 0,At ((a:Nat):Int),At ((b:Nat):Int),At ((c:Nat):Int),At ((d:Nat):Int)] [Fz (x)]) (.val (.tup []) [Fz (NS x a b c d)]):=by
 have hP_rfQuar:Hid (NS x a b c d=(Kg b c (Kx c d (KZ a d (Ke a b (Ki b c (KV c d (Kt a d (KS x a b))))))))):=⟨rfl⟩
 refine AI func151 rfl ntmps151 rfl AM ?_;refine UJ ?_;refine Em ?_;refine Em ?_;refine Ia ?_;refine L8 ?_;rw [show (put x a ((nth x a)+(nth x b)))=KS x a b from rfl]
 have hX1:(KS x a b).length=16:=AP
 generalize KS x a b=X1 at*
 refine L2 ?_;refine Ca ?_;refine Em ?_;refine Em ?_;refine GK ?_;refine AO (Cf ((nth X1 d)^^^(nth X1 a)) ((16:Nat):Int)) KG ?_;refine L8 ?_;rw [show (put X1 d (Ck ((nth X1 d)^^^(nth X1 a)) ((16:Nat):Int)))=Kt a d X1 from rfl]
 have hX2:(Kt a d X1).length=16:=AP
 generalize Kt a d X1=X2 at*
 refine UJ ?_;refine Em ?_;refine Em ?_;refine Ia ?_;refine L8 ?_;rw [show (put X2 c ((nth X2 c)+(nth X2 d)))=KV c d X2 from rfl]
 have hX3:(KV c d X2).length=16:=AP
 generalize KV c d X2=X3 at*
 refine L2 ?_;refine Ca ?_;refine Em ?_;refine Em ?_;refine GK ?_;refine AO (Cf ((nth X3 b)^^^(nth X3 c)) ((12:Nat):Int)) KG ?_;refine L8 ?_;rw [show (put X3 b (Ck ((nth X3 b)^^^(nth X3 c)) ((12:Nat):Int)))=Ki b c X3 from rfl]
 have hX4:(Ki b c X3).length=16:=AP
 generalize Ki b c X3=X4 at*
 refine UJ ?_;refine Em ?_;refine Em ?_;refine Ia ?_;refine L8 ?_;rw [show (put X4 a ((nth X4 a)+(nth X4 b)))=Ke a b X4 from rfl]
 have hX5:(Ke a b X4).length=16:=AP
 generalize Ke a b X4=X5 at*
 refine L2 ?_;refine Ca ?_;refine Em ?_;refine Em ?_;refine GK ?_;refine AO (Cf ((nth X5 d)^^^(nth X5 a)) ((8:Nat):Int)) KG ?_;refine L8 ?_;rw [show (put X5 d (Ck ((nth X5 d)^^^(nth X5 a)) ((8:Nat):Int)))=KZ a d X5 from rfl]
 have hX6:(KZ a d X5).length=16:=AP
 generalize KZ a d X5=X6 at*
 refine UJ ?_;refine Em ?_;refine Em ?_;refine Ia ?_;refine L8 ?_;rw [show (put X6 c ((nth X6 c)+(nth X6 d)))=Kx c d X6 from rfl]
 have hX7:(Kx c d X6).length=16:=AP
 generalize Kx c d X6=X7 at*
 refine L2 ?_;refine Ca ?_;refine Em ?_;refine Em ?_;refine GK ?_;refine AO (Cf ((nth X7 b)^^^(nth X7 c)) ((7:Nat):Int)) KG ?_;refine L8 ?_;rw [show (put X7 b (Ck ((nth X7 b)^^^(nth X7 c)) ((7:Nat):Int)))=Kg b c X7 from rfl]
 have hX8:(Kg b c X7).length=16:=AP
 generalize Kg b c X7=X8 at*
 refine S_ ?_;rw [hP_rfQuar.out]
 exact AEr (by (exact .inr rfl)) (by (kernel_rfl))
@[simp] theorem AFM(x:AA 32)(a b c d:Nat):(NS x a b c d).length=x.length:=by
 unfold NS
 (simp [dW,dh,dm,di,db,dn,dg,dZ, *];done)
attribute [irreducible] NS
def VE(b:AA 8)(o:Nat):BitVec 32:=((((nth b o).setWidth 32) ||| (((nth b (o+1)).setWidth 32)<<<8)) ||| (((nth b (o+2)).setWidth 32)<<<16)) ||| (((nth b (o+3)).setWidth 32)<<<24)
theorem eU(b:AA 8)(o n cap:Nat)(hb:o+n≤b.length)(hn:n≤1099511627776)(h4:4≤n):Ev prog (.call 150 [.c (.sl 0 o n cap 1)] [A0 (b)]) (.val (.c (.val (EQ (VE b o)))) [A0 (b)]):=by
 have hP:=Hid.mk (VE.eq_1 b o)
 refine AI func150 rfl ntmps150 rfl AM ?_;refine Ab ?_;refine Al ?_;refine B5 23 mixed K_ rfl rfl rfl ?_;refine AW ?_;refine AH (P8 (j:=0) rfl rfl underlying23 Bt O_) rfl ?_;refine EK ?_;refine Up ?_;refine AW ?_;refine AH (P8 (j:=1) rfl rfl underlying23 Bt O_) rfl ?_;refine EK ?_;refine Up ?_;refine AH (SC (j:=8) rfl rfl) rfl ?_;refine AH (Xu rfl rfl) rfl ?_;refine AW ?_;refine AH (P8 (j:=2) rfl rfl underlying23 Bt O_) rfl ?_;refine EK ?_;refine Up ?_;refine AH (SC (j:=16) rfl rfl) rfl ?_;refine AH (Xu rfl rfl) rfl ?_;refine AW ?_;refine AH (P8 (j:=3) rfl rfl underlying23 Bt O_) rfl ?_;refine EK ?_;refine Up ?_;refine AH (SC (j:=24) rfl rfl) rfl ?_;refine AH (Xu rfl rfl) rfl ?_;refine I7 ?_;rw [hP.out]
 exact CF
attribute [irreducible] VE
def MG(key:AA 8)(X1:AA 32)(j3:Nat):AA 32:=put X1 (4+j3) (VE key (4*j3))
def Di(key:AA 8):Nat→AA 32
 |0=>put (put (put (put (DF 16) 0 1634760805#32) 1 857760878#32) 2 2036477234#32) 3 1797285236#32
 |j3+1=>MG key (Di key j3) j3
@[simp] theorem Jc(key:AA 8)(j3:Nat):(Di key j3).length=16:=by
 induction j3 with
 |zero=>(simp [Di, *];done)
 |succ j3 ih=>rw [Di.eq_2,MG];(simp [ih];done)
def MI(nonce:AA 8)(X3:AA 32)(j8:Nat):AA 32:=put X3 (13+j8) (VE nonce (4*j8))
def Db(counter:BitVec 32)(nonce:AA 8)(Y2:AA 32):Nat→AA 32
 |0=>put Y2 12 counter
 |j8+1=>MI nonce (Db counter nonce Y2 j8) j8
theorem J1(counter:BitVec 32)(nonce:AA 8)(Y2:AA 32)(hY2:Y2.length=16)(j8:Nat):(Db counter nonce Y2 j8).length=16:=by
 induction j8 with
 |zero=>(simp [Db, *];done)
 |succ j8 ih=>rw [Db.eq_2,MI];(simp [ih];done)
def LA(X6:AA 32)(j16:Nat):AA 32:=NS X6 j16 (4+j16) (8+j16) (12+j16)
def Dp(X5:AA 32):Nat→AA 32
 |0=>X5
 |j16+1=>LA (Dp X5 j16) j16
theorem Ig(X5:AA 32)(hX5:X5.length=16)(j16:Nat):(Dp X5 j16).length=16:=by
 induction j16 with
 |zero=>(simp [Dp, *];done)
 |succ j16 ih=>rw [Dp.eq_2,LA];(simp [ih];done)
def K6(X8:AA 32)(j20:Nat):AA 32:=NS X8 j20 (4+((j20+1)%4)) (8+((j20+2)%4)) (12+((j20+3)%4))
def Do(Y7:AA 32):Nat→AA 32
 |0=>Y7
 |j20+1=>K6 (Do Y7 j20) j20
theorem Ij(Y7:AA 32)(hY7:Y7.length=16)(j20:Nat):(Do Y7 j20).length=16:=by
 induction j20 with
 |zero=>(simp [Do, *];done)
 |succ j20 ih=>rw [Do.eq_2,K6];(simp [ih];done)
def LL(X5:AA 32):AA 32:=(Do (Dp X5 4) 4)
def DG(Y4:AA 32):Nat→AA 32
 |0=>Y4
 |j13+1=>LL (DG Y4 j13)
theorem Ln(Y4:AA 32)(hY4:Y4.length=16)(j13:Nat):(DG Y4 j13).length=16:=by
 induction j13 with
 |zero=>(simp [DG, *];done)
 |succ j13 ih=>rw [DG.eq_2,LL];(simp [Ig,Ij, *];done)
def LK(Y4 Y12:AA 32)(X13:AA 8)(j25:Nat):AA 8:=put X13 j25 ((((nth Y12 (j25/4))+(nth Y4 (j25/4)))>>>(BitVec.ofNat 64 (8*(j25%4))).toNat).setWidth 8)
def DI(Y4 Y12:AA 32):Nat→AA 8
 |0=>Ac 64
 |j25+1=>LK Y4 Y12 (DI Y4 Y12 j25) j25
@[simp] theorem Lw(Y4 Y12:AA 32)(j25:Nat):(DI Y4 Y12 j25).length=64:=by
 induction j25 with
 |zero=>(simp [DI, *];done)
 |succ j25 ih=>rw [DI.eq_2,LK];(simp [ih];done)
def H9(key:AA 8)(counter:BitVec 32)(nonce:AA 8):AA 8:=(DI (Db counter nonce (Di key 8) 3) (DG (Db counter nonce (Di key 8) 3) 10) 64)
theorem kD(k:r)(h:Hid r→g:=by intro h;refine AH (F9 rfl underlying3 underlying71 (AA6 _)) rfl ?_;exact h.out):g:=h ⟨k⟩
theorem dK(key:AA 8)(counter:BitVec 32)(nonce:AA 8)(hkey:key.length=32)(hnonce:nonce.length=12):Ev prog (.call 110 [BM (key),.c (.val (EQ counter)),BM (nonce)] []) (.val (BM (H9 key counter nonce)) []):=by
 have hP:=Hid.mk (H9.eq_1 key counter nonce)
 refine AI func110 rfl ntmps110 rfl AM ?_;refine BO ?_;refine F6 ?_;refine AZ ?_;refine zG ?_;refine Ap (Ay gO AM) AT rfl ?_;refine iz ?_;refine B0 ?_;refine AK [1,3,5,6,7,8] (fun (zz:Nat×AA 32)=>⟨98,AU [1,3,5,6,7,8] [.c (.val (EQ (counter))),AY 0,AY 1,AY 2,AY 3,At (((zz.1:Nat):Int))],[BP (key),BP (nonce),BP (Ac 64),Fz (zz.2)]⟩) (fun j3=>(j3,Di key j3)) (8) K_ ?_ ?_
 ·intro j3 hj3
  try dsimp only
  have hX1:(Di key j3).length=16:=by rw [Jc key _];try omega
  rw [Di.eq_2,MG]
  generalize Di key j3=X1 at*
  refine A1 ?_;refine Rc ?_;refine Ak ?_;refine Wc ?_;refine AX ?_;refine TK ?_;refine AB (IH (h:=32) rfl underlying37 Bt rfl rfl rfl O_ O_ T6 rfl rfl) rfl ?_;refine bM (eU key (4*j3) (32-(4*j3)) (32-(4*j3)) AD AD AD) xm ?_;refine gx ?_;refine Hq ?_;refine Cc ?_;exact ⟨(j3+1,_),K_,rfl⟩
 ·try dsimp only
  have hY2:(Di key 8).length=16:=by rw [Jc key _];try omega
  generalize Di key 8=Y2 at*
  refine A1 ?_;refine Ub ?_;refine Ak ?_;refine AB (AN (j:=12) rfl rfl underlying181 Bi O_) rfl ?_;refine Hq ?_;refine B0 ?_;refine AK [5,6,7,9] (fun (zz:Nat×AA 32)=>⟨98,AU [5,6,7,9] [AY 0,AY 1,AY 2,At (((zz.1:Nat):Int))],[BP (nonce),BP (Ac 64),Fz (zz.2)]⟩) (fun j8=>(j8,Db counter nonce Y2 j8)) (3) K_ ?_ ?_
  ·intro j8 hj8
   try dsimp only
   have hX3:(Db counter nonce Y2 j8).length=16:=by rw [J1 counter nonce Y2 hY2 _];try omega
   rw [Db.eq_2,MI]
   generalize Db counter nonce Y2 j8=X3 at*
   refine A1 ?_;refine AB (A8 (b:=3) rfl rfl) rfl ?_;refine Ak ?_;refine AB (B8 (a:=13) rfl rfl O_) rfl ?_;refine AX ?_;refine TK ?_;refine AB (IH (h:=12) rfl underlying98 Bt rfl rfl rfl O_ O_ T6 rfl rfl) rfl ?_;refine bM (eU nonce (4*j8) (12-(4*j8)) (12-(4*j8)) AD AD AD) xm ?_;refine gx ?_;refine Hq ?_;refine Cc ?_;exact ⟨(j8+1,_),K_,rfl⟩
  ·try dsimp only
   have hY4:(Db counter nonce Y2 3).length=16:=by rw [J1 counter nonce Y2 hY2 _];try omega
   generalize Db counter nonce Y2 3=Y4 at*
   refine A1 ?_;refine dH ?_;refine AZ ?_;refine AB (A9 rfl rfl rj nZ B7 D_) rfl ?_;refine Ap (Ay gO AM) AT rfl ?_;refine iz ?_;refine B0 ?_;refine AK [6,7,10,11] (fun (zz:Nat×AA 32)=>⟨98,AU [6,7,10,11] [AY 0,AY 1,AY 2,At (((zz.1:Nat):Int))],[BP (Ac 64),Fz (Y4),Fz (zz.2)]⟩) (fun j13=>(j13,DG Y4 j13)) (10) K_ ?_ ?_
   ·intro j13 hj13
    try dsimp only
    have hX5:(DG Y4 j13).length=16:=by rw [Ln Y4 hY4 _];try omega
    rw [DG.eq_2,LL]
    generalize DG Y4 j13=X5 at*
    refine A1 ?_;refine AB (A8 (b:=10) rfl rfl) rfl ?_;refine B0 ?_;refine AK [6,7,10,11,12] (fun (zz:Nat×AA 32)=>⟨98,AU [6,7,10,11,12] [AY 0,AY 1,AY 2,At (((j13:Nat):Int)),At (((zz.1:Nat):Int))],[BP (Ac 64),Fz (Y4),Fz (zz.2)]⟩) (fun j16=>(j16,Dp X5 j16)) (4) K_ ?_ ?_
    ·intro j16 hj16
     try dsimp only
     have hX6:(Dp X5 j16).length=16:=by rw [Ig X5 hX5 _];try omega
     rw [Dp.eq_2,LA]
     generalize Dp X5 j16=X6 at*
     refine A1 ?_;refine IU ?_;refine AR ?_;have hQ7:(NS X6 j16 (4+j16) (8+j16) (12+j16)).length=16:=AP
     refine CK ?_;refine Wc ?_;refine AX ?_;refine AB (B8 (a:=8) rfl rfl O_) rfl ?_;refine AX ?_;refine AB (B8 (a:=12) rfl rfl O_) rfl ?_;refine aK (ec X6 j16 (4+j16) (8+j16) (12+j16) AD AD AD AD AD AD AD AD AD) zZ ?_;refine Cc ?_;exact ⟨(j16+1,_),K_,rfl⟩
    ·try dsimp only
     have hY8:(Dp X5 4).length=16:=by rw [Ig X5 hX5 _];try omega
     generalize Dp X5 4=Y8 at*
     refine A1 ?_;refine PO ?_;refine B0 ?_;refine AK [6,7,10,11,13] (fun (zz:Nat×AA 32)=>⟨98,AU [6,7,10,11,13] [AY 0,AY 1,AY 2,At (((j13:Nat):Int)),At (((zz.1:Nat):Int))],[BP (Ac 64),Fz (Y4),Fz (zz.2)]⟩) (fun j20=>(j20,Do Y8 j20)) (4) K_ ?_ ?_
     ·intro j20 hj20
      try dsimp only
      have hX9:(Do Y8 j20).length=16:=by rw [Ij Y8 hY8 _];try omega
      rw [Do.eq_2,K6]
      generalize Do Y8 j20=X9 at*
      refine A1 ?_;refine IU ?_;refine AR ?_;have hQ10:(NS X9 j20 (4+((j20+1)%4)) (8+((j20+2)%4)) (12+((j20+3)%4))).length=16:=AP
      refine CK ?_;refine AB (B8 (b:=1) rfl rfl O_) rfl ?_;refine cY ?_;refine Wc ?_;refine AX ?_;refine AB (B8 (b:=2) rfl rfl O_) rfl ?_;refine cY ?_;refine AB (B8 (a:=8) rfl rfl O_) rfl ?_;refine AX ?_;refine AB (B8 (b:=3) rfl rfl O_) rfl ?_;refine cY ?_;refine AB (B8 (a:=12) rfl rfl O_) rfl ?_;refine aK (ec X9 j20 (4+((j20+1)%4)) (8+((j20+2)%4)) (12+((j20+3)%4)) AD AD AD AD AD AD AD AD AD) zZ ?_;refine Cc ?_;exact ⟨(j20+1,_),K_,rfl⟩
     ·try dsimp only
      have hY11:(Do Y8 4).length=16:=by rw [Ij Y8 hY8 _];try omega
      generalize Do Y8 4=Y11 at*
      refine A1 ?_;refine PO ?_;refine Cc ?_;exact ⟨(j13+1,_),K_,rfl⟩
   ·try dsimp only
    have hY12:(DG Y4 10).length=16:=by rw [Ln Y4 hY4 _];try omega
    generalize DG Y4 10=Y12 at*
    refine A1 ?_;refine AB (A8 (a:=10) (b:=10) rfl rfl) rfl ?_;refine AZ ?_;refine F6 ?_;refine B0 ?_;refine AK [6,7,10,14,15] (fun (zz:Nat×AA 8)=>⟨98,AU [6,7,10,14,15] [AY 0,AY 1,AY 2,AY 3,At (((zz.1:Nat):Int))],[BP (Ac 64),Fz (Y4),Fz (Y12),BP (zz.2)]⟩) (fun j25=>(j25,DI Y4 Y12 j25)) (64) K_ ?_ ?_
    ·intro j25 hj25
     try dsimp only
     have hX13:(DI Y4 Y12 j25).length=64:=by rw [Lw Y4 Y12 _];try omega
     rw [DI.eq_2,LK]
     generalize DI Y4 Y12 j25=X13 at*
     refine Hh ?_;refine Ar ?_;refine iW ?_;refine Ca ?_;refine gA ?_;refine fo ?_;refine Il ?_;refine gA ?_;refine fo ?_;refine Dk ?_;refine Mu ?_;refine AH (OU (b:=4) rfl rfl O_ O_) rfl ?_;refine Ud ?_;refine kD ?_;refine AH (aZ rfl rfl) rfl ?_;refine AH (F9 rfl underlying106 underlying5 (yY _)) rfl ?_;refine gV ?_;refine BJ ?_;refine Ct ?_;refine Cc ?_;exact ⟨(j25+1,_),K_,rfl⟩
    ·try dsimp only
     have hY14:(DI Y4 Y12 64).length=64:=by rw [Lw Y4 Y12 _];try omega
     generalize DI Y4 Y12 64=Y14 at*
     refine A1 ?_;refine Lr ?_;refine AZ ?_;refine jm ?_;refine OQ ?_;refine Ar ?_;rw [hP.out]
     exact jK
@[simp] theorem ADv(key:AA 8)(counter:BitVec 32)(nonce:AA 8)(_hkey:key.length=32)(_hnonce:nonce.length=12):(H9 key counter nonce).length=64:=by
 unfold H9
 (simp [Lw, *];done)
attribute [irreducible] H9
def RM(key nonce t:AA 8)(X1:BitVec 32)(j3:Nat)(X4:AA 8)(j8:Nat):AA 8:=X4++[(nth t ((64*j3)+j8))^^^(nth (H9 key X1 nonce) j8)]
def Fg(key nonce t:AA 8)(X1:BitVec 32)(X2:AA 8)(j3:Nat):Nat→AA 8
 |0=>X2
 |j8+1=>RM key nonce t X1 j3 (Fg key nonce t X1 X2 j3 j8) j8
theorem JR(key nonce t:AA 8)(X1:BitVec 32)(X2:AA 8)(j3:Nat)(_hkey:key.length=32)(_hnonce:nonce.length=12)(j8:Nat):(Fg key nonce t X1 X2 j3 j8).length=X2.length+j8:=by
 induction j8 with
 |zero=>(simp [Fg, *];done)
 |succ j8 ih=>rw [Fg.eq_2,RM];(simp [ih];omega)
def Mz(key nonce t:AA 8)(X1:BitVec 32)(X2:AA 8)(j3:Nat):BitVec 32×AA 8:=(X1+1#32,(Fg key nonce t X1 X2 j3 (min 64 (t.length-64*j3))))
def EF(key:AA 8)(counter:BitVec 32)(nonce t:AA 8):Nat→BitVec 32×AA 8
 |0=>(counter,[])
 |j3+1=>Mz key nonce t (EF key counter nonce t j3).1 (EF key counter nonce t j3).2 j3
theorem LB(key:AA 8)(counter:BitVec 32)(nonce t:AA 8)(hkey:key.length=32)(hnonce:nonce.length=12)(j3:Nat):(EF key counter nonce t j3).2.length=min (64*j3) t.length:=by
 induction j3 with
 |zero=>(simp [EF, *];done)
 |succ j3 ih=>rw [EF.eq_2,Mz];(simp [JR, *];omega)
def RY(key:AA 8)(counter:BitVec 32)(nonce t:AA 8):AA 8:=((EF key counter nonce t ((t.length+63)/64)).2)
theorem Lu(k:r)(h:Hid r→g:=by intro h;refine AB (Ao rfl) rfl ?_;refine Ee KL ?_;exact h.out):g:=h ⟨k⟩
theorem uY(key:AA 8)(counter:BitVec 32)(nonce t:AA 8)(n cap:Nat)(hkey:key.length=32)(hnonce:nonce.length=12)(ht:t.length=n)(hn:n≤1099511627776):Ev prog (.call 78 [BM (key),.c (.val (EQ counter)),BM (nonce),.c (.sl 0 0 n cap 1)] [A0 (t)]) (.val (.c (.sl 1 0 (min (64*((n+63)/64)) n) (min (64*((n+63)/64)) n) 1)) [A0 (t),BP (RY key counter nonce t)]):=by
 have hP:=Hid.mk (RY.eq_1 key counter nonce t)
 subst ht
 refine AI func78 rfl ntmps78 rfl AM ?_;refine BO ?_;refine Ai ?_;refine Ai ?_;refine Al ?_;refine EU 9 1 (.a8 ([])) rfl rfl AM rfl ?_;refine S_ ?_;refine AK [1,3,4,6,9,10] (fun (zz:Nat×BitVec 32×AA 8)=>⟨51,AU [1,3,4,6,9,10] [.c (.val (EQ (zz.2.1))),.c (.sl 0 0 t.length cap 1),AY 1,AY 2,.c (.sl 3 0 (min (64*zz.1) t.length) (min (64*zz.1) t.length) 1),At (((64*zz.1:Nat):Int))],[A0 (t),BP (key),BP (nonce),BP (zz.2.2)]⟩) (fun j3=>(j3,EF key counter nonce t j3)) ((t.length+63)/64) K_ ?_ ?_
 ·intro j3 hj3
  try dsimp only
  have hX2:(EF key counter nonce t j3).2.length=min (64*j3) t.length:=by rw [LB key counter nonce t hkey hnonce _];try omega
  rw [EF.eq_2,Mz]
  generalize EF key counter nonce t j3=Z3 at*
  obtain ⟨X1,X2⟩:=Z3
  try dsimp only at*
  refine CK ?_;refine Hc ?_;refine AR ?_;have hQ4:(H9 key X1 nonce).length=64:=AP
  refine Bg ?_;refine AX ?_;refine QW ?_;refine Ae (dK key X1 nonce AD AD) ABI ?_;refine F6 ?_;refine OQ ?_;refine Ak ?_;refine AB (VY (b:=1#32) rfl rfl) rfl ?_;refine Ai ?_;refine Al ?_;refine AK [1,3,4,6,9,10,11,12] (fun (zz:Nat×AA 8)=>⟨51,AU [1,3,4,6,9,10,11,12] [.c (.val (EQ (X1+1#32))),.c (.sl 0 0 t.length cap 1),AY 1,AY 2,.c (.sl 3 0 ((min (64*j3) t.length)+zz.1) ((min (64*j3) t.length)+zz.1) 1),At (((64*j3:Nat):Int)),AY 4,At (((zz.1:Nat):Int))],[A0 (t),BP (key),BP (nonce),BP (zz.2),BP (H9 key X1 nonce)]⟩) (fun j8=>(j8,Fg key nonce t X1 X2 j3 j8)) (min 64 (t.length-64*j3)) K_ ?_ ?_
  ·intro j8 hj8
   try dsimp only
   have hX5:(Fg key nonce t X1 X2 j3 j8).length=(min (64*j3) t.length)+j8:=by rw [JR key nonce t X1 X2 j3 hkey hnonce _];try omega
   rw [Fg.eq_2,RM]
   generalize Fg key nonce t X1 X2 j3 j8=X5 at*
   refine Hh ?_;refine Ip ?_;refine Lu ?_;refine Rb ?_;refine Ee KL ?_;refine Lu ?_;refine D7 ?_;refine Ee KL ?_;refine OE ?_;refine HZ ?_;refine Ar ?_;refine Hk ?_;refine Ca ?_;refine Ca ?_;refine P0 ?_;refine Of ?_;refine EK ?_;refine AW ?_;refine gV ?_;refine EK ?_;refine AH (OW rfl rfl) rfl ?_;refine Hn (fN (l:=[_]) underlying23 KM rfl rfl D_ D_ AM) AT rfl ?_;refine BJ ?_;refine DD ?_;refine BF ?_;refine HH ?_;exact ⟨(j8+1,_),K_,rfl⟩
  ·try dsimp only
   have hY6:(Fg key nonce t X1 X2 j3 (min 64 (t.length-64*j3))).length=(min (64*j3) t.length)+min 64 (t.length-64*j3):=by rw [JR key nonce t X1 X2 j3 hkey hnonce _];try omega
   generalize Fg key nonce t X1 X2 j3 (min 64 (t.length-64*j3))=Y6 at*
   by_cases hc7:min 64 (t.length-64*j3)<64
   ·refine S_ ?_
    refine RT ?_;refine HM ?_;refine Ip ?_;refine Lu ?_;refine Rb ?_;refine Ee KL ?_;refine Lu ?_;refine D7 ?_;refine Ee KL ?_;refine OE ?_;refine HZ ?_;refine Ak ?_;refine XW ?_;refine BZ ?_;rw [show (min (64*j3) t.length)+(min 64 (t.length-64*j3))=min (64*(j3+1)) t.length from by omega]
    exact ⟨(j3+1,_),K_,rfl⟩
   ·refine S_ ?_
    refine RT ?_;refine HM ?_;refine AX ?_;refine SZ ?_;refine SZ ?_;refine SZ ?_;refine Dm ?_;refine Ak ?_;refine XW ?_;refine BZ ?_;rw [show (min (64*j3) t.length)+(min 64 (t.length-64*j3))=min (64*(j3+1)) t.length from by omega]
    exact ⟨(j3+1,_),K_,rfl⟩
 ·try dsimp only
  have hY9:(EF key counter nonce t ((t.length+63)/64)).2.length=min (64*((t.length+63)/64)) t.length:=by rw [LB key counter nonce t hkey hnonce _];try omega
  generalize EF key counter nonce t ((t.length+63)/64)=Z10 at*
  obtain ⟨Y8,Y9⟩:=Z10
  try dsimp only at*
  refine CK ?_;refine Hc ?_;refine Eg ?_;rw [hP.out]
  exact CF
theorem xQ(key:AA 8)(counter:BitVec 32)(nonce t:AA 8)(n cap:Nat)(hkey:key.length=32)(hnonce:nonce.length=12)(ht:t.length=n)(hn:n≤1099511627776):Ev prog (.call 78 [BM (key),.c (.val (EQ counter)),BM (nonce),.c (.sl 0 0 n cap 1)] [A0 (t)]) (.val (.c (.sl 1 0 n n 1)) [A0 (t),BP (RY key counter nonce t)]):=by
 have h_:=uY key counter nonce t n cap hkey hnonce ht hn
 rw [show min (64*((n+63)/64)) n=n from by omega] at h_
 exact h_
theorem uT(key:AA 8)(counter:BitVec 32)(nonce t:AA 8)(o_t n cap:Nat)(hkey:key.length=32)(hnonce:nonce.length=12)(ht:o_t+n≤t.length)(hn:n≤1099511627776):Ev prog (.call 78 [BM (key),.c (.val (EQ counter)),BM (nonce),.c (.sl 0 o_t n cap 1)] [A0 (t)]) (.val (.c (.sl 1 0 n n 1)) [A0 (t),BP (RY key counter nonce (cut t o_t n))]):=by
 exact Ev.parts (m:=[.row false (.a8 (t))]) (m':=[.row false (.a8 (cut t o_t n))]) (N:=[.row true (.a8 (RY key counter nonce (cut t o_t n)))]) (N':=[.row true (.a8 (RY key counter nonce (cut t o_t n)))]) [some (0,o_t)] (.a8 rfl ht .nil) (.agg rfl (.c (.same rfl) (.agg rfl (.c (.sl rfl (by simp)) .nil)))) (xQ key counter nonce (cut t o_t n) n cap hkey hnonce (by rw [BV];omega) hn) rfl rfl
@[simp] theorem dz(key:AA 8)(counter:BitVec 32)(nonce t:AA 8)(hkey:key.length=32)(hnonce:nonce.length=12):(RY key counter nonce t).length=t.length:=by
 unfold RY
 (simp [LB, *];omega)
attribute [irreducible] RY
theorem ur(x:AA 32)(a b c d:Nat):NS x a b c d=B9 x a b c d:=by
 unfold NS B9;rfl
theorem ACz(x:BitVec 64)(k:Nat):(x<<<k).setWidth 32=x.setWidth 32<<<k:=by
 apply BitVec.eq_of_getLsbD_eq
 intro i hi
 rw [BitVec.getLsbD_setWidth,BitVec.getLsbD_shiftLeft,BitVec.getLsbD_shiftLeft,BitVec.getLsbD_setWidth]
 simp only [hi,decide_true,Bool.true_and,show i<64 from by omega]
 by_cases h:i<k
 ·simp [h]
 ·simp only [h,decide_false,Bool.not_false,Bool.true_and,show i-k<32 from by omega,decide_true]
theorem zr(x:BitVec 8):(x.setWidth 64).setWidth 32=x.setWidth 32:=BitVec.setWidth_setWidth_of_le x D_
theorem eR(b:AA 8)(o:Nat):VE b o=(ah b o 4).setWidth 32:=by
 unfold VE ah
 simp only [Mx,VR,BitVec.setWidth_or,ACz,zr,Nat.add_zero,Nat.mul_zero,BitVec.shiftLeft_zero]
 simp
theorem cC(key:AA 8)(c:BitVec 32)(nonce:AA 8):H9 key c nonce=Cp key c nonce:=by
 have h3:∀j,Di key j=Dh key j:=fun j=>by
  induction j with
  |zero=>rfl
  |succ j ih=>rw [Di,Dh,ih,MG,Me,eR,Nat.add_sub_cancel_left]
 have h9:∀Y j,Db c nonce Y j=Da c nonce Y j:=fun Y j=>by
  induction j with
  |zero=>rfl
  |succ j ih=>rw [Db,Da,ih,MI,ML,eR,Nat.add_sub_cancel_left]
 have h15:∀Y j,DG Y j=DE Y j:=fun Y j=>by
  induction j with
  |zero=>rfl
  |succ j ih=>
   rw [DG,DE,ih,LL,K7]
   simp only [Do,K6,Dp,LA,ur]
 have h27:∀A B j,DI A B j=DL A B j:=fun A B j=>by
  induction j with
  |zero=>rfl
  |succ j ih=>
   rw [DI,DL,ih,LK,K1,BitVec.toNat_ofNat,Nat.mod_eq_of_lt O_]
 unfold H9 Cp
 rw [h3,h9,h15,h27]
theorem Xg(key:AA 8)(c:BitVec 32)(nonce t:AA 8)(hk:key.length=32)(hn:nonce.length=12)(i:Nat)(hi:i<t.length):
  nth (G0 key c nonce t) i=nth t i^^^nth (Cp key (c+BitVec.ofNat 32 (i/64)) nonce) (i%64):=by
 have h7:∀X j3 j7,64*j3+j7≤X.length→j7≤64→ ∀i,i<X.length→nth (GY key c nonce X j3 j7) i=if 64*j3≤i∧i<64*j3+j7 then nth X i^^^nth (Cp key (c+BitVec.ofNat 32 (i/64)) nonce) (i%64) else nth X i:=fun X j3 j7=>by
  induction j7 with
  |zero=>intro _ _ i _;rw [if_neg O_];rfl
  |succ j7 ih=>
   intro h1 h2 i hi
   rw [GY,RB,CD _ _ _ _ (by rw [MS];omega)]
   by_cases e:64*j3+j7=i
   ·subst e
    rw [if_pos rfl,if_pos O_,ih O_ O_ _ O_,if_neg O_,Nat.add_sub_cancel_left,Nat.mul_div_cancel_left _ D_,show (64*j3+j7)/64=j3 from by omega,show (64*j3+j7)%64=j7 from by omega]
   ·rw [if_neg e,ih O_ O_ _ hi]
    by_cases h:64*j3≤i∧i<64*j3+j7
    ·rw [if_pos h,if_pos O_]
    ·rw [if_neg h,if_neg O_]
 have h3:∀j3,j3≤(t.length+63)/64→ ∀i,i<t.length→nth (GR key c nonce t j3) i=if i<64*j3 then nth t i^^^nth (Cp key (c+BitVec.ofNat 32 (i/64)) nonce) (i%64) else nth t i:=fun j3=>by
  induction j3 with
  |zero=>intro _ i _;rw [if_neg O_];rfl
  |succ j3 ih=>
   intro h1 i hi
   rw [GR,P2,h7 _ _ _ (by rw [Jy _ _ _ _ hk hn];omega) O_ _ (by rw [Jy _ _ _ _ hk hn];exact hi)]
   by_cases e:64*j3≤i∧i<64*j3+(min (64*j3+64) t.length-64*j3)
   ·rw [if_pos e,if_pos O_,ih O_ _ hi,if_neg O_]
   ·rw [if_neg e,ih O_ _ hi]
    by_cases h:i<64*j3
    ·rw [if_pos h,if_pos O_]
    ·rw [if_neg h,if_neg O_]
 unfold G0
 rw [h3 _ (Nat.le_refl _) _ hi,if_pos O_]
theorem uo(key:AA 8)(c:BitVec 32)(nonce t:AA 8)(hk:key.length=32)(hn:nonce.length=12)(i:Nat)(hi:i<t.length):
  nth (RY key c nonce t) i=nth t i^^^nth (H9 key (c+BitVec.ofNat 32 (i/64)) nonce) (i%64):=by
 have h8:∀X1 X2 j3 j8,∀i,i<X2.length+j8→nth (Fg key nonce t X1 X2 j3 j8) i=if i<X2.length then nth X2 i else nth t (64*j3+(i-X2.length))^^^nth (H9 key X1 nonce) (i-X2.length):=fun X1 X2 j3 j8=>by
  induction j8 with
  |zero=>intro i hi;rw [if_pos O_];rfl
  |succ j8 ih=>
   intro i hi
   rw [Fg,RM,AGW,JR _ _ _ _ _ _ hk hn]
   by_cases e:i<X2.length+j8
   ·rw [if_pos e,ih _ e]
   ·have e:i=X2.length+j8:=by omega
    subst e
    rw [if_neg O_,if_neg O_,Nat.sub_self,Nat.add_sub_cancel_left]
    rfl
 have h3:∀j3,j3≤(t.length+63)/64→(EF key c nonce t j3).1=c+BitVec.ofNat 32 j3∧ ∀i,i<min (64*j3) t.length→nth (EF key c nonce t j3).2 i=nth t i^^^nth (H9 key (c+BitVec.ofNat 32 (i/64)) nonce) (i%64):=fun j3=>by
  induction j3 with
  |zero=>intro _;exact ⟨by rw [EF];simp,fun i hi=>by omega⟩
  |succ j3 ih=>
   intro h1
   obtain ⟨g1,g2⟩:=ih O_
   refine ⟨?_,fun i hi=>?_⟩
   ·rw [EF,Mz,g1]
    apply BitVec.eq_of_toNat_eq
    simp only [BitVec.toNat_add,BitVec.toNat_ofNat]
    omega
   ·rw [EF,Mz]
    have hl:=LB key c nonce t hk hn j3
    show nth (Fg key nonce t _ _ j3 _) i=_
    rw [h8 _ _ _ _ _ (by rw [hl];omega),hl,g1]
    by_cases e:i<min (64*j3) t.length
    ·rw [if_pos e,g2 _ e]
    ·rw [if_neg e,show min (64*j3) t.length=64*j3 from by omega,show 64*j3+(i-64*j3)=i from by omega,show i/64=j3 from by omega,show i-64*j3=i%64 from by omega]
 unfold RY
 exact (h3 _ (Nat.le_refl _)).2 _ O_
theorem zY(key:AA 8)(c:BitVec 32)(nonce t:AA 8)(hk:key.length=32)(hn:nonce.length=12):RY key c nonce t=G0 key c nonce t:=by
 refine XC (by rw [dz _ _ _ _ hk hn,JB _ _ _ _ hk hn]) fun i hi=>?_
 rw [dz _ _ _ _ hk hn] at hi
 rw [uo _ _ _ _ hk hn _ hi,Xg _ _ _ _ hk hn _ hi,cC]
def yB(n i:Nat):BitVec 8:=((BitVec.ofNat 64 n)>>>(8*i)).setWidth 8
theorem YT(n:Nat):JA n=[yB n 0,yB n 1,yB n 2,yB n 3]:=by unfold JA;rfl
theorem V1{n:Nat}(h:n<18446744073709551616)(i:Nat):(yB n i).toNat=n/2^(8*i)%256:=by
 unfold yB
 rw [BitVec.toNat_setWidth,BitVec.toNat_ushiftRight,BitVec.toNat_ofNat,Nat.mod_eq_of_lt (show n<2^64 by omega),Nat.shiftRight_eq_div_pow]
theorem fL(b:AA 8):∀k,Zi b k<2^(8*k)
 |0=>by simp [Zi]
 |k+1=>by
  have h:=fL b k
  refine Nat.or_lt_two_pow (Nat.lt_of_lt_of_le h (Nat.pow_le_pow_right D_ O_)) ?_;have h2:=(nth b k).isLt
  calc (nth b k).toNat*2^(8*k)<256*2^(8*k):=Nat.mul_lt_mul_of_pos_right h2 (Nat.pow_pos D_)
   _=2^(8*(k+1)):=by rw [Nat.mul_add,Nat.pow_add];omega
theorem V3(b:AA 8)(k:Nat):Zi b (k+1)=Zi b k+(nth b k).toNat*2^(8*k):=by
 rw [Zi.eq_2,Nat.or_comm,Nat.mul_comm,←Nat.two_pow_add_eq_or_of_lt (fL b k)]
 omega
theorem sE(b:AA 8):Zi b 4=(nth b 0).toNat+(nth b 1).toNat*256+(nth b 2).toNat*65536+(nth b 3).toNat*16777216:=by
 rw [V3,V3,V3,V3]
 simp [Zi]
theorem lZ(a0 a1 a2 a3:BitVec 8)(r:AA 8):nth ([a0,a1,a2,a3]++r) 0=a0∧nth ([a0,a1,a2,a3]++r) 1=a1∧nth ([a0,a1,a2,a3]++r) 2=a2∧nth ([a0,a1,a2,a3]++r) 3=a3:=⟨rfl,rfl,rfl,rfl⟩
theorem AGx(n:Nat)(h:n<4294967296)(r:AA 8):Zi (JA n++r) 4=n:=by
 rw [sE,YT]
 obtain ⟨h0,h1,h2,h3⟩:=lZ (yB n 0) (yB n 1) (yB n 2) (yB n 3) r
 rw [h0,h1,h2,h3,V1 O_,V1 O_,V1 O_,V1 O_]
 simp only [Nat.reduceMul,Nat.reducePow,Nat.mul_zero,Nat.pow_zero,Nat.div_one]
 omega
theorem AGN(b:AA 8)(h:4≤b.length):JA (Zi b 4)=b.take 4:=by
 match b,h with
 |a0::a1::a2::a3::r,_=>
  have hs:=sE (a0::a1::a2::a3::r)
  obtain ⟨h0,h1,h2,h3⟩:=lZ a0 a1 a2 a3 r
  rw [show a0::a1::a2::a3::r=[a0,a1,a2,a3]++r from rfl] at hs ⊢
  rw [h0,h1,h2,h3] at hs
  have l0:=a0.isLt
  have l1:=a1.isLt
  have l2:=a2.isLt
  have l3:=a3.isLt
  have hb:Zi ([a0,a1,a2,a3]++r) 4<18446744073709551616:=by omega
  rw [YT]
  generalize Zi ([a0,a1,a2,a3]++r) 4=n at*
  have e:∀(i:Nat) (a:BitVec 8),n/2^(8*i)%256=a.toNat→yB n i=a:=fun i a h=>BitVec.eq_of_toNat_eq (by rw [V1 hb];exact h)
  rw [e 0 a0 (by simp only [Nat.mul_zero,Nat.pow_zero,Nat.div_one];omega),e 1 a1 (by simp only [Nat.reduceMul,Nat.reducePow];omega),e 2 a2 (by simp only [Nat.reduceMul,Nat.reducePow];omega),e 3 a3 (by simp only [Nat.reduceMul,Nat.reducePow];omega)]
  rfl
theorem lC(x:AA 8)(l:List (AA 8)):∀j,nO (x::l) (j+1)=JA x.length++(x++nO l j)
 |0=>by simp [nO,O6]
 |j+1=>by
  rw [nO.eq_2,lC x l j,nO.eq_2]
  simp [O6]
theorem iB(x:AA 8)(l:List (AA 8)):jn (x::l)=JA x.length++(x++jn l):=lC x l l.length
theorem AGw:jn []=[]:=rfl
theorem WA(x:AA 8)(l:List (AA 8)):jl (x::l)=4+x.length+jl l:=by
 rw [←Xw,iB,List.length_append,List.length_append,Ux,Xw]
 omega
theorem AIs(l:List (AA 8))(h:jl l≤65536):gH (jn l)=some l:=by
 induction l with
 |nil=>rw [AGw,gH];simp
 |cons x l ih=>
  rw [WA] at h
  have ih:=ih O_
  rw [iB,gH]
  have hlen:(JA x.length++(x++jn l)).length=4+(x.length+(jn l).length):=by simp
  have hd:(JA x.length++(x++jn l)).drop 4=x++jn l:=by
   have h4:=Ux x.length
   rw [←h4,List.drop_left]
  rw [if_neg O_,dif_neg O_,hd,AGx _ O_,if_neg (by simp),List.drop_left,List.take_left,ih]
  rfl
theorem AJi:∀(n:Nat) (b:AA 8) (l:List (AA 8)),b.length≤n→gH b=some l→jn l=b:=by
 intro n
 induction n with
 |zero=>
  intro b l hn h
  obtain rfl:=List.eq_nil_of_length_eq_zero (by omega:b.length=0)
  rw [gH] at h
  simp at h
  subst h
  rfl
 |succ n ih=>
  intro b l hn h
  rw [gH] at h
  split at h
  ·rename_i h0
   obtain rfl:=List.eq_nil_of_length_eq_zero h0
   cases h
   rfl
  ·split at h
   ·cases h
   ·split at h
    ·cases h
    ·rename_i h0 h4 hle
     obtain ⟨r,hr,rfl⟩:=Option.map_eq_some_iff.1 h
     have h1:=ih _ r (by simp only [List.length_drop];omega) hr
     rw [iB,h1,List.length_take,Nat.min_eq_left O_,AGN b O_,List.take_append_drop,List.take_append_drop]
end Go.Proofs.YtmbepikkgkcgkaaGreatDoor
