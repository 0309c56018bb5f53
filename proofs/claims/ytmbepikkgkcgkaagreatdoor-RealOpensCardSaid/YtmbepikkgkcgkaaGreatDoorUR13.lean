/- Merged and shortened by a program: part 13. -/
import Derived.Test.YtmbepikkgkcgkaaGreatDoorUR12
set_option maxRecDepth 100000
set_option maxHeartbeats 8000000
namespace Go.Proofs.YtmbepikkgkcgkaaGreatDoor
open Go.RowKit
variable {g r : Prop}
open Go.Proofs.Tryz
theorem gW(t:AA 8)(q:Nat)(h:AA 32)(hl:h.length=64)(hq:16*q≤t.length)(hh:under 256 h):dN (addPiece t (16*q) (min (t.length-16*q) 16) h)=dN h+VK t (16*q)∧under 2147483648 (addPiece t (16*q) (min (t.length-16*q) 16) h)∧(addPiece t (16*q) (min (t.length-16*q) 16) h).length=64:=by
 have hL:min (16*q+16) t.length-16*q=min (t.length-16*q) 16:=by omega
 unfold VK addPiece
 rw [hL]
 have hL2:min (t.length-16*q) 16≤16:=by omega
 generalize min (t.length-16*q) 16=L at*
 obtain ⟨a1,a2⟩:=mn t (16*q) h L O_ hh
 have hn:=YV t (16*q) h L O_ L (Nat.le_refl _)
 have hx:=hh L
 have hs:(nth (DQ t (16*q) h L) L+1#32).toNat=(nth h L).toNat+1:=by rw [hn,BK _ _ (by show _+1<_;omega)];rfl
 generalize nth (DQ t (16*q) h L) L+1#32=v at*
 have hp:=Py (DQ t (16*q) h L) L v (by rw [GP];omega)
 rw [hs,hn,Nat.mul_add,a1] at hp
 exact ⟨by omega,Gg (fun k=>Nat.lt_trans (a2 k) D_) _ _ (by rw [hs];omega),by rw [BW,GP,hl]⟩
theorem fF(r:AA 32)(t:AA 8)(rn:Nat)(hr:under 256 r)(h16:dN (r.take 16)=rn):∀q,16*q≤t.length+15→dN (JG r t q)=mL rn t q∧under 256 (JG r t q)
 |0,_=>⟨by show dN (DF 64)=0;exact pV 64,fun k=>by show (nth (DF 64) k).toNat<256;rw [Pa];decide⟩
 |q+1,hq=>by
  obtain ⟨h1,h2⟩:=fF r t rn hr h16 q O_
  have hlt:mL rn t q<pP:=by cases q with
   |zero=>show 0<pP;decide
   |succ q=>exact Nat.mod_lt _ D_
  obtain ⟨a1,a2,a3⟩:=gW t q _ (Mc r t q) O_ h2
  have hpc:=(dx t (16*q) O_).2.2
  obtain ⟨m1,m2⟩:=nN _ a3 a2 (by rw [a1,h1];unfold pP at hlt;omega)
  rw [JG,mL]
  have hml:=N3 _ a3
  generalize Xa (addPiece t (16*q) (min (t.length-16*q) 16) (JG r t q))=Z at*
  obtain ⟨p1,p2⟩:=ls Z r 17 O_ m2 hr
  have hZ:dN Z<pP:=by rw [m1];exact Nat.mod_lt _ D_
  have hs17:=Vt Z 17 O_
  have hz17:dN (Z.take 17)=dN Z:=by
   unfold pP at hZ
   omega
  have hrn:rn<256^16:=by
   rw [←h16]
   have:=AAz (r.take 16) (Zt hr O_ 16)
   exact Nat.lt_of_lt_of_le this (Nat.pow_le_pow_right O_ (by simp;omega))
  have hprod:dN (Gq Z r 17)<2037035976334486086268445688409378161051468393665936250636140449354381299763336706183397376:=by
   rw [p1,hz17,h16]
   have:=Nat.mul_lt_mul'' hZ hrn
   exact Nat.lt_of_lt_of_le this D_
  obtain ⟨n1,n2⟩:=nN _ (Hb Z r 17) (fun k=>Nat.lt_of_lt_of_le (p2 k) D_) hprod
  refine ⟨?_,n2⟩
  rw [n1,p1,hz17,h16,m1,a1,h1,Nat.mul_mod,Nat.mod_mod,←Nat.mul_mod]
theorem AG2(l:AA 8)(k:Nat)(v:BitVec 8)(h:k<l.length):bN (put l k v)+256^k*(nth l k).toNat=bN l+256^k*v.toNat:=by
 induction l generalizing k with
 |nil=>simp at h
 |cons x l ih=>
  cases k with
  |zero=>
   show bN (v::l)+256^0*x.toNat=_
   rw [HU,HU]
   omega
  |succ k=>
   show bN (x::put l k v)+256^(k+1)*(nth l k).toNat=_
   have:=ih k (by simpa using h)
   rw [HU,HU,Nat.pow_succ,Nat.mul_comm (256^k) 256,Nat.mul_assoc,Nat.mul_assoc]
   omega
theorem uI(n j:Nat):nth (Ac n) j=0#8:=by
 unfold nth Ac
 rw [List.getD_eq_getElem?_getD,List.getElem?_replicate]
 split<;>rfl
theorem AB7(h:AA 32)(key:AA 8)(hh:under 256 h)(k:Nat)(hk:k≤16):
  bN (HY h key k).1+256^k*(HY h key k).2.toNat=dN (h.take k)+bN (cut key 16 k)∧(HY h key k).2.toNat<16∧ ∀j,k≤j→nth (HY h key k).1 j=0#8:=by
 induction k with
 |zero=>exact ⟨by show bN (Ac 16)+_*(0#32).toNat=_;simp [cut,dN,bN,Ac],by show (0#32).toNat<16;decide,fun j _=>uI 16 j⟩
 |succ k ih=>
  obtain ⟨h1,h2,h3⟩:=ih O_
  have hlen:=KD h key k
  rw [ap]
  generalize HY h key k=U at*
  obtain ⟨U,C⟩:=U
  dsimp only at*
  have hx:=hh k
  have hy:=(nth key (16+k)).isLt
  have hw:((nth key (16+k)).setWidth 32).toNat=(nth key (16+k)).toNat:=by rw [BitVec.toNat_setWidth,Nat.mod_eq_of_lt O_]
  have hs1:(nth h k+(nth key (16+k)).setWidth 32).toNat=(nth h k).toNat+(nth key (16+k)).toNat:=by rw [BK _ _ (by rw [hw];omega),hw]
  have hs:(C+(nth h k+(nth key (16+k)).setWidth 32)).toNat=C.toNat+((nth h k).toNat+(nth key (16+k)).toNat):=by rw [BK _ _ (by rw [hs1];omega),hs1]
  generalize C+(nth h k+(nth key (16+k)).setWidth 32)=w at*
  have hw8:(w.setWidth 8).toNat=w.toNat%256:=by rw [BitVec.toNat_setWidth]
  have hp:=AG2 U k (w.setWidth 8) O_
  rw [h3 k (Nat.le_refl _),hw8] at hp
  rw [AAv,TZ,zF]
  refine ⟨?_,by omega,fun j hj=>?_⟩
  ·have e:w.toNat=w.toNat%256+256*(w.toNat/256):=by omega
   have e0:256^k*(0#8).toNat=0:=rfl
   have e2:256^(k+1)*(w.toNat/256)=256^k*(256*(w.toNat/256)):=by rw [Nat.pow_succ,Nat.mul_assoc]
   have e3:256^k*w.toNat=256^k*(w.toNat%256)+256^k*(256*(w.toNat/256)):=by rw [←Nat.mul_add,←e]
   have e4:256^k*w.toNat=256^k*C.toNat+(256^k*(nth h k).toNat+256^k*(nth key (16+k)).toNat):=by rw [hs,Nat.mul_add,Nat.mul_add]
   rw [e2]
   omega
  ·rw [CD _ _ _ _ O_,if_neg O_]
   exact h3 j O_
theorem AKy{l:AA 8}(h:l.length=32):∃k0 k1 k2 k3 k4 k5 k6 k7 k8 k9 k10 k11 k12 k13 k14 k15 k16 k17 k18 k19 k20 k21 k22 k23 k24 k25 k26 k27 k28 k29 k30 k31,l=[k0,k1,k2,k3,k4,k5,k6,k7,k8,k9,k10,k11,k12,k13,k14,k15,k16,k17,k18,k19,k20,k21,k22,k23,k24,k25,k26,k27,k28,k29,k30,k31]:=by
 match l,h with
 |[k0,k1,k2,k3,k4,k5,k6,k7,k8,k9,k10,k11,k12,k13,k14,k15,k16,k17,k18,k19,k20,k21,k22,k23,k24,k25,k26,k27,k28,k29,k30,k31],_=>exact ⟨_,_,_,_,_,_,_,_,_,_,_,_,_,_,_,_,_,_,_,_,_,_,_,_,_,_,_,_,_,_,_,_,rfl⟩
theorem ABB(k0 k1 k2 k3 k4 k5 k6 k7 k8 k9 k10 k11 k12 k13 k14 k15 k16 k17 k18 k19 k20 k21 k22 k23 k24 k25 k26 k27 k28 k29 k30 k31:BitVec 8):NU [k0,k1,k2,k3,k4,k5,k6,k7,k8,k9,k10,k11,k12,k13,k14,k15,k16,k17,k18,k19,k20,k21,k22,k23,k24,k25,k26,k27,k28,k29,k30,k31]=[k0,k1,k2,k3&&&15#8,k4&&&252#8,k5,k6,k7&&&15#8,k8&&&252#8,k9,k10,k11&&&15#8,k12&&&252#8,k13,k14,k15&&&15#8,0#8]:=by kernel_rfl
theorem AFY(k0 k1 k2 k3 k4 k5 k6 k7 k8 k9 k10 k11 k12 k13 k14 k15 k16 k17 k18 k19 k20 k21 k22 k23 k24 k25 k26 k27 k28 k29 k30 k31:BitVec 8):Yx [k0,k1,k2,k3,k4,k5,k6,k7,k8,k9,k10,k11,k12,k13,k14,k15,k16,k17,k18,k19,k20,k21,k22,k23,k24,k25,k26,k27,k28,k29,k30,k31]=[k0.setWidth 32,k1.setWidth 32,k2.setWidth 32,k3.setWidth 32&&&15#32,k4.setWidth 32&&&252#32,k5.setWidth 32,k6.setWidth 32,k7.setWidth 32&&&15#32,k8.setWidth 32&&&252#32,k9.setWidth 32,k10.setWidth 32,k11.setWidth 32&&&15#32,k12.setWidth 32&&&252#32,k13.setWidth 32,k14.setWidth 32,k15.setWidth 32&&&15#32,0#32,0#32,0#32,0#32,0#32,0#32,0#32,0#32,0#32,0#32,0#32,0#32,0#32,0#32,0#32,0#32,0#32,0#32,0#32,0#32,0#32,0#32,0#32,0#32,0#32,0#32,0#32,0#32,0#32,0#32,0#32,0#32,0#32,0#32,0#32,0#32,0#32,0#32,0#32,0#32,0#32,0#32,0#32,0#32,0#32,0#32,0#32,0#32]:=by kernel_rfl
theorem wide(x:BitVec 8):(x.setWidth 32).toNat=x.toNat:=by rw [BitVec.toNat_setWidth,Nat.mod_eq_of_lt (by have:=x.isLt;omega)]
theorem lo4(x:BitVec 8):(x&&&15#8).toNat=x.toNat%16:=by
 rw [BitVec.toNat_and]
 exact Nat.and_two_pow_sub_one_eq_mod x.toNat 4
theorem ALf(x:BitVec 8):(x.setWidth 32&&&15#32).toNat=x.toNat%16:=by
 rw [BitVec.toNat_and,wide]
 exact Nat.and_two_pow_sub_one_eq_mod x.toNat 4
theorem hi6(x:BitVec 8):(x.setWidth 32&&&252#32).toNat=(x&&&252#8).toNat:=by
 rw [BitVec.toNat_and,BitVec.toNat_and,wide]
 rfl
theorem ze(x m:BitVec 32):(x&&&m).toNat≤x.toNat:=by rw [BitVec.toNat_and];exact Nat.and_le_left
theorem ni(key:AA 8):under 256 (Yx key):=by
 have h1:∀k,under 256 (WP key k):=fun k=>by
  induction k with
  |zero=>intro j;show (nth (DF 64) j).toNat<256;rw [Pa];decide
  |succ k ih=>exact Gg ih _ _ (by rw [wide];exact BitVec.isLt _)
 have h2:∀k,under 256 (rA (WP key 16) k):=fun k=>by
  induction k with
  |zero=>exact h1 16
  |succ k ih=>exact Gg ih _ _ (Nat.lt_of_le_of_lt (ze _ _) (ih _))
 have h3:∀k,under 256 (Wt (rA (WP key 16) 4) k):=fun k=>by
  induction k with
  |zero=>exact h2 4
  |succ k ih=>exact Gg ih _ _ (Nat.lt_of_le_of_lt (ze _ _) (ih _))
 exact h3 3
theorem sW(key:AA 8)(hk:key.length=32):dN ((Yx key).take 16)=bN (NU key)∧under 256 (Yx key)∧bN (NU key)<340282366920938463463374607431768211456:=by
 refine ⟨?_,ni _,?_⟩
 case refine_2=>
  have e:bN (NU key)=bN (Jr (KF (cut key 0 16) 4) 3):=by unfold NU;rw [Tm];simp [bN]
  have h:=eE (Jr (KF (cut key 0 16) 4) 3)
  rw [Kz,LC,BV,hk] at h
  rw [e]
  exact h
 obtain ⟨k0,k1,k2,k3,k4,k5,k6,k7,k8,k9,k10,k11,k12,k13,k14,k15,k16,k17,k18,k19,k20,k21,k22,k23,k24,k25,k26,k27,k28,k29,k30,k31,rfl⟩:=AKy hk
 rw [ABB]
 rw [AFY]
 simp only [List.take_succ_cons,List.take_zero,Id,HU,wide,lo4,ALf,hi6,qF]
 rfl
theorem AAN:∀ {a b:AA 8},a.length=b.length→bN a=bN b→a=b
 |[],[],_,_=>rfl
 |x::a,y::b,hl,h=>by
  rw [HU,HU] at h
  have hx:=x.isLt
  have hy:=y.isLt
  rw [AAN (a:=a) (b:=b) (by simpa using hl) O_,BitVec.eq_of_toNat_eq (show x.toNat=y.toNat by omega)]
theorem oo(key t:AA 8)(hk:key.length=32):bN (XI key t)=(mL (bN (NU key)) t ((t.length+15)/16)+sN key)%340282366920938463463374607431768211456:=by
 obtain ⟨k1,k2,k3⟩:=sW key hk
 obtain ⟨s1,s2⟩:=fF (Yx key) t _ k2 k1 ((t.length+15)/16) O_
 rw [eM key t t.length rfl]
 show bN (HY (JG (Yx key) t ((t.length+15)/16)) key 16).1=_
 obtain ⟨o1,o2,o3⟩:=AB7 _ key s2 16 O_
 have hb:=eE (HY (JG (Yx key) t ((t.length+15)/16)) key 16).1
 rw [KD] at hb
 have hsp:=Vt (JG (Yx key) t ((t.length+15)/16)) 16 (by rw [Mc];omega)
 rw [s1] at hsp
 have hc:bN (cut key 16 16)=sN key:=by
  have e:key=key.take 16++cut key 16 16:=by unfold cut;rw [List.take_of_length_le (l:=key.drop 16) (by simp [hk]),List.take_append_drop]
  have hA:=Tm (key.take 16) (cut key 16 16)
  rw [←e] at hA
  have h1:=eE (key.take 16)
  have h2:=eE (cut key 16 16)
  rw [BV,hk] at h2
  have h2:bN (cut key 16 16)<256^16:=h2
  have l1:(key.take 16).length=16:=by simp [hk]
  rw [l1] at h1 hA
  unfold sN
  omega
 rw [hc] at o1
 generalize (HY (JG (Yx key) t ((t.length+15)/16)) key 16).2.toNat=c at*
 generalize dN ((JG (Yx key) t ((t.length+15)/16)).take 16)=X at*
 generalize dN ((JG (Yx key) t ((t.length+15)/16)).drop 16)=Y at*
 omega
theorem vX(key t:AA 8)(hk:key.length=32):KB key t=XI key t:=by
 obtain ⟨_,_,k3⟩:=sW key hk
 refine AAN ?_ ?_
 ·rw [dY]
  with_unfolding_all exact UN _ _
 ·rw [oo key t hk,lM key t hk _ rfl O_]
theorem ot(key t:AA 8)(n cap:Nat)(hk:key.length=32)(ht:t.length=n)(hn:n≤1099511627776):Ev prog (.call 111 [BM key,.c (.sl 0 0 n cap 1)] [A0 t]) (.val (BM (KB key t)) [A0 t]):=by
 rw [vX key t hk]
 exact vN key t n cap hk ht hn
theorem lL(key:AA 8)(counter:BitVec 32)(nonce:AA 8)(hkey:key.length=32)(hnonce:nonce.length=12):Ev prog (.call 110 [BM (key),.c (.val (EQ counter)),BM (nonce)] []) (.val (BM (Cp key counter nonce)) []):=by
 have h_:=dK key counter nonce hkey hnonce
 rw [cC] at h_
 exact h_
theorem qK(key:AA 8)(counter:BitVec 32)(nonce t:AA 8)(o_t n cap:Nat)(hkey:key.length=32)(hnonce:nonce.length=12)(ht:o_t+n≤t.length)(hn:n≤1099511627776):Ev prog (.call 78 [BM (key),.c (.val (EQ counter)),BM (nonce),.c (.sl 0 o_t n cap 1)] [A0 (t)]) (.val (.c (.sl 1 0 n n 1)) [A0 (t),BP (G0 key counter nonce (cut t o_t n))]):=by
 have h_:=uT key counter nonce t o_t n cap hkey hnonce ht hn
 rw [zY _ _ _ _ hkey hnonce] at h_
 exact h_
theorem qm(a:AA 8)(na ca:Nat)(b:AA 8)(nb cb:Nat)(c:AA 8)(nc cc:Nat)(d:AA 8)(nd cd:Nat)(e:AA 8)(ne ce:Nat)(f:AA 8)(nf cf:Nat)(ha:a.length=na)(hna:na≤1099511627776)(hb:b.length=nb)(hnb:nb≤1099511627776)(hc:c.length=nc)(hnc:nc≤1099511627776)(hd:d.length=nd)(hnd:nd≤1099511627776)(he:e.length=ne)(hne:ne≤1099511627776)(hf:f.length=nf)(hnf:nf≤1099511627776):Ev prog (.call 112 [.c (.sl 0 0 6 6 1)] [.row false (.ac [.sl 1 0 na ca 1,.sl 2 0 nb cb 1,.sl 3 0 nc cc 1,.sl 4 0 nd cd 1,.sl 5 0 ne ce 1,.sl 6 0 nf cf 1]),A0 (a),A0 (b),A0 (c),A0 (d),A0 (e),A0 (f)]) (.val (.c (.sl 7 0 (((((na+nb)+nc)+nd)+ne)+nf) (((((na+nb)+nc)+nd)+ne)+nf) 1)) [.row false (.ac [.sl 1 0 na ca 1,.sl 2 0 nb cb 1,.sl 3 0 nc cc 1,.sl 4 0 nd cd 1,.sl 5 0 ne ce 1,.sl 6 0 nf cf 1]),A0 (a),A0 (b),A0 (c),A0 (d),A0 (e),A0 (f),BP (((((a++b)++c)++d)++e)++f)]):=by
 subst ha
 subst hb
 subst hc
 subst hd
 subst he
 subst hf
 refine AI func112 rfl ntmps112 rfl AM ?_;refine P3 ?_;refine Ai ?_;refine ABC ?_;refine jQ ?_;refine Ho ?_;refine AB (A8 (a:=0) (b:=6) rfl rfl) rfl ?_;refine Io ?_;refine cn ?_;refine Ix ?_;refine jy ?_;refine BF ?_;refine jC ?_;refine BZ ?_;show WC _ _ _ _ _
 refine I3 ?_;refine Ho ?_;refine AB (A8 (a:=1) (b:=6) rfl rfl) rfl ?_;refine Io ?_;refine iQ ?_;refine Ix ?_;refine DD ?_;refine BF ?_;refine fy ?_;refine BZ ?_;show WC _ _ _ _ _
 refine I3 ?_;refine Ho ?_;refine AB (A8 (a:=2) (b:=6) rfl rfl) rfl ?_;refine Io ?_;refine ny ?_;refine Ix ?_;refine DD ?_;refine BF ?_;refine AB (B8 (a:=2) (b:=1) rfl rfl O_) rfl ?_;refine BZ ?_;show WC _ _ _ _ _
 refine I3 ?_;refine Ho ?_;refine AB (A8 (a:=3) (b:=6) rfl rfl) rfl ?_;refine Io ?_;refine AB (F1 (j:=3) rfl rfl underlying22 WE O_) rfl ?_;refine Ix ?_;refine DD ?_;refine BF ?_;refine AB (B8 (a:=3) (b:=1) rfl rfl O_) rfl ?_;refine BZ ?_;show WC _ _ _ _ _
 refine I3 ?_;refine Ho ?_;refine AB (A8 (a:=4) (b:=6) rfl rfl) rfl ?_;refine Io ?_;refine AB (F1 (j:=4) rfl rfl underlying22 WE O_) rfl ?_;refine Ix ?_;refine DD ?_;refine BF ?_;refine AB (B8 (a:=4) (b:=1) rfl rfl O_) rfl ?_;refine BZ ?_;show WC _ _ _ _ _
 refine I3 ?_;refine Ho ?_;refine AB (A8 (a:=5) (b:=6) rfl rfl) rfl ?_;refine Io ?_;refine AB (F1 (j:=5) rfl rfl underlying22 WE O_) rfl ?_;refine Ix ?_;refine DD ?_;refine BF ?_;refine AB (B8 (a:=5) (b:=1) rfl rfl O_) rfl ?_;refine BZ ?_;show WC _ _ _ _ _
 refine I3 ?_;refine Ho ?_;refine AB (A8 (a:=6) (b:=6) rfl rfl) rfl ?_;refine Eg ?_;exact CF
theorem bI(n:Nat)(hn:n≤1099511627776):Ev prog (.call 113 [At ((n:Nat):Int)] []) (.val (.c (.sl 0 0 ((16-(n%16))%16) ((16-(n%16))%16) 1)) [BP (Ac ((16-(n%16))%16))]):=by
 refine AI func113 rfl ntmps113 rfl AM ?_;refine Ab ?_;refine BF ?_;refine rN ?_;refine AB (E4 (a:=16) rfl rfl O_ O_) rfl ?_;refine rN ?_;refine Ap (sL underlying23 rfl rfl KM AEa O_ O_ O_ AM) AT rfl ?_;refine Al ?_;exact CF
def Nj(n:Nat)(X1:AA 8)(j3:Nat):AA 8:=X1++[((BitVec.ofNat 64 n)>>>(BitVec.ofNat 64 (8*j3)).toNat).setWidth 8]
def ER(n:Nat):Nat→AA 8
 |0=>[]
 |j3+1=>Nj n (ER n j3) j3
@[simp] theorem Oa(n j3:Nat):(ER n j3).length=j3:=by
 induction j3 with
 |zero=>(simp [ER, *];done)
 |succ j3 ih=>rw [ER.eq_2,Nj];(simp [ih];done)
def Gj(n:Nat):AA 8:=(ER n 8)
theorem ff(n:Nat)(_hn:n≤1099511627776):Ev prog (.call 114 [At ((n:Nat):Int)] []) (.val (.c (.sl 0 0 8 8 1)) [BP (Gj n)]):=by
 have hP:=Hid.mk (Gj.eq_1 n)
 refine AI func114 rfl ntmps114 rfl AM ?_;refine P3 ?_;refine Ai ?_;refine Al ?_;refine EU 3 1 (.a8 ([])) rfl rfl AM rfl ?_;refine S_ ?_;refine AK [0,3,4] (fun (zz:Nat×AA 8)=>⟨20,AU [0,3,4] [At (((n:Nat):Int)),.c (.sl 0 0 zz.1 zz.1 1),At (((zz.1:Nat):Int))],[BP (zz.2)]⟩) (fun j3=>(j3,ER n j3)) (8) K_ ?_ ?_
 ·intro j3 hj3
  try dsimp only
  have hX1:(ER n j3).length=j3:=by rw [Oa n _];try omega
  rw [ER.eq_2,Nj]
  generalize ER n j3=X1 at*
  refine A1 ?_;refine Rc ?_;refine GW ?_;refine Yr ?_;refine AX ?_;refine KN ?_;refine QE ?_;refine Vv ?_;refine RS ?_;refine Yp ?_;refine DD ?_;refine BF ?_;refine HH ?_;exact ⟨(j3+1,_),K_,rfl⟩
 ·try dsimp only
  have hY2:(ER n 8).length=8:=by rw [Oa n _];try omega
  generalize ER n 8=Y2 at*
  refine A1 ?_;refine Ub ?_;refine Eg ?_;rw [hP.out]
  exact CF
@[simp] theorem AFc(n:Nat):(Gj n).length=8:=by
 unfold Gj
 (simp [Oa, *];done)
attribute [irreducible] Gj
def Gc(key nonce ad text:AA 8):AA 8:=KB (cut (Cp key 0#32 nonce) 0 32) (((((ad++(Ac ((16-(ad.length%16))%16)))++text)++(Ac ((16-(text.length%16))%16)))++(Gj ad.length))++(Gj text.length))
theorem iK(k:r)(h:Hid r→g:=by intro h;refine AH (Oc rfl underlying23) rfl ?_;exact h.out):g:=h ⟨k⟩
theorem wA(key nonce ad:AA 8)(an acap:Nat)(text:AA 8)(tn tcap:Nat)(hkey:key.length=32)(hnonce:nonce.length=12)(had:ad.length=an)(han:an≤1099511627)(htext:text.length=tn)(htn:tn≤1099511627):Ev prog (.call 77 [BM (key),BM (nonce),.c (.sl 0 0 an acap 1),.c (.sl 1 0 tn tcap 1)] [A0 (ad),A0 (text)]) (.val (BM (Gc key nonce ad text)) [A0 (ad),A0 (text)]):=by
 have hP:=Hid.mk (Gc.eq_1 key nonce ad text)
 subst had
 subst htext
 refine AI func77 rfl ntmps77 rfl AM ?_;refine BO ?_;refine O4 ?_;refine AR ?_;have hQ1:(Cp key 0#32 nonce).length=64:=AP
 refine Bg ?_;refine QW ?_;refine Ae (lL key 0#32 nonce AD AD) ABI ?_;refine F6 ?_;refine OQ ?_;refine AZ ?_;refine Lh ?_;have hQ2:(cut (Cp key 0#32 nonce) 0 32).length=32:=AP
 refine Qn ?_;refine FI ?_;refine QQ ?_;refine BJ ?_;refine QO ?_;refine AR ?_;have hQ3:(Ac ((16-(ad.length%16))%16)).length=(16-(ad.length%16))%16:=AP
 have hQ4:(Ac ((16-(text.length%16))%16)).length=(16-(text.length%16))%16:=AP
 have hQ5:(Gj ad.length).length=8:=AP
 have hQ6:(Gj text.length).length=8:=AP
 have hQ7:(((((ad++(Ac ((16-(ad.length%16))%16)))++text)++(Ac ((16-(text.length%16))%16)))++(Gj ad.length))++(Gj text.length)).length=((((ad.length+((16-(ad.length%16))%16))+text.length)+((16-(text.length%16))%16))+8)+8:=AP
 have hQ8:(KB (cut (Cp key 0#32 nonce) 0 32) (((((ad++(Ac ((16-(ad.length%16))%16)))++text)++(Ac ((16-(text.length%16))%16)))++(Gj ad.length))++(Gj text.length))).length=16:=AP
 refine S_ ?_;refine B5 18 mixed K_ rfl rfl rfl ?_;refine Cn ?_;refine Ca ?_;refine iK ?_;refine AO (bI ad.length AD) xe ?_;refine Ca ?_;refine iK ?_;refine AO (bI text.length AD) xe ?_;refine AW ?_;refine iK ?_;refine AO (ff ad.length AD) yu ?_;refine AW ?_;refine iK ?_;refine AO (ff text.length AD) yu ?_;refine Ur ?_;refine Hw (Ah (bs:=[11,0,7,1,8,9,10]) (qm ad ad.length acap (Ac ((16-(ad.length%16))%16)) ((16-(ad.length%16))%16) ((16-(ad.length%16))%16) text text.length tcap (Ac ((16-(text.length%16))%16)) ((16-(text.length%16))%16) ((16-(text.length%16))%16) (Gj ad.length) 8 8 (Gj text.length) 8 8 AD AD AD AD AD AD AD AD AD AD AD AD) aL K_ K_ rfl B4) AT rfl ?_;refine Hw (Ah (bs:=[12]) (ot (cut (Cp key 0#32 nonce) 0 32) (((((ad++(Ac ((16-(ad.length%16))%16)))++text)++(Ac ((16-(text.length%16))%16)))++(Gj ad.length))++(Gj text.length)) (((((ad.length+((16-(ad.length%16))%16))+text.length)+((16-(text.length%16))%16))+8)+8) (((((ad.length+((16-(ad.length%16))%16))+text.length)+((16-(text.length%16))%16))+8)+8) AD AD AD) AG9 K_ K_ rfl B4) AT rfl ?_;refine BJ ?_;refine Jw ?_;refine Ar ?_;rw [hP.out]
 exact ao
theorem Zw(key nonce ad:AA 8)(an acap:Nat)(text:AA 8)(o_text tn tcap:Nat)(hkey:key.length=32)(hnonce:nonce.length=12)(had:ad.length=an)(han:an≤1099511627)(htext:o_text+tn≤text.length)(htn:tn≤1099511627):Ev prog (.call 77 [BM (key),BM (nonce),.c (.sl 0 0 an acap 1),.c (.sl 1 o_text tn tcap 1)] [A0 (ad),A0 (text)]) (.val (BM (Gc key nonce ad (cut text o_text tn))) [A0 (ad),A0 (text)]):=by
 exact Ev.parts (m:=[.row false (.a8 (ad)),.row false (.a8 (text))]) (m':=[.row false (.a8 (ad)),.row false (.a8 (cut text o_text tn))]) (N:=[]) (N':=[]) [some (0,0),some (1,o_text)] (.all rfl rfl (.a8 rfl htext .nil)) (.agg rfl (.agg rfl (.c (.sl rfl rfl) (.c (.sl rfl (by simp)) .nil)))) (wA key nonce ad an acap (cut text o_text tn) tn tcap hkey hnonce had han (by rw [BV];omega) htn) rfl rfl
@[simp] theorem cx(key nonce ad text:AA 8)(_hkey:key.length=32)(_hnonce:nonce.length=12):(Gc key nonce ad text).length=16:=by
 unfold Gc
 (simp [*];done)
attribute [irreducible] Gc
def Ny(key nonce box:AA 8):AA 8:=G0 key 1#32 nonce (cut box 0 (box.length-16))
theorem vu(key nonce ad:AA 8)(an acap:Nat)(box:AA 8)(bn bcap:Nat)(hkey:key.length=32)(hnonce:nonce.length=12)(had:ad.length=an)(han:an≤1099511627)(hbox:box.length=bn)(hbn:bn≤1099511627)(h16:16≤bn)(hE:∀i,i<16→nth (Gc key nonce ad (cut box 0 (bn-16))) i=nth box (bn-16+i)):Ev prog (.call 54 [BM (key),BM (nonce),.c (.sl 0 0 an acap 1),.c (.sl 1 0 bn bcap 1)] [A0 (ad),A0 (box)]) (.val (.tup [.c (.sl 2 0 (bn-16) (bn-16) 1),.c (.val (.bool (true)))]) [A0 (ad),A0 (box),BP (Ny key nonce box)]):=by
 have hP_rfOpen0:Hid (Ny key nonce box=G0 key 1#32 nonce (cut box 0 (box.length-16))):=⟨rfl⟩
 subst had
 subst hbox
 refine AI func54 rfl ntmps54 rfl AM ?_;refine BO ?_;refine FB ?_;refine D7 ?_;refine cV ?_;refine BZ ?_;have hQ1:(Gc key nonce ad (cut box 0 (box.length-16))).length=16:=AP
 refine Iv ?_;refine Cn ?_;refine ct ?_;refine Ca ?_;refine AW ?_;refine dI ?_;refine rx (Zw key nonce ad ad.length acap box 0 (box.length-16) bcap AD AD AD AD AD AD) AEA ?_;refine Hn (Ay dQ AM) AT rfl ?_;refine BJ ?_;refine Jw ?_;refine B0 ?_;refine AK [3,4,5,10,11,12] (fun (zz:Nat)=>⟨43,AU [3,4,5,10,11,12] [.c (.sl 1 0 box.length bcap 1),AY 2,AY 3,At (((box.length-16:Nat):Int)),AY 4,At (((zz:Nat):Int))],[A0 (ad),A0 (box),BP (key),BP (nonce),BP (Gc key nonce ad (cut box 0 (box.length-16)))]⟩) (fun j4=>j4) (16) K_ ?_ ?_
 ·intro j4 hj4
  try dsimp only
  refine A1 ?_;refine GF ?_;refine Ar ?_;refine RZ ?_;refine AH (AN rfl rfl underlying121 Bt O_) rfl ?_;refine EK ?_;refine Ca ?_;refine AW ?_;refine P0 ?_;refine Of ?_;refine EK ?_;refine AH (qn rfl rfl) rfl ?_;refine Fs ?_;refine Cg rfl (by simp [hE j4 (by assumption)]) ?_
  refine A1 ?_;refine HH ?_;exact ⟨j4+1,K_,rfl⟩
 ·try dsimp only
  refine A1 ?_;refine AB (A8 (a:=16) (b:=16) rfl rfl) rfl ?_;refine AR ?_;have hQ2:(G0 key 1#32 nonce (cut box 0 (box.length-16))).length=box.length-16:=AP
  refine Iv ?_;refine Cn ?_;refine ct ?_;refine Ca ?_;refine dI ?_;refine Hw (Ah (bs:=[1]) (qK key 1#32 nonce box 0 (box.length-16) bcap AD AD AD AD) AKR K_ K_ rfl B4) AT rfl ?_;refine I6 ?_;refine I7 ?_;rw [hP_rfOpen0.out]
  exact UE
attribute [irreducible] Ny
theorem ng(key nonce ad:AA 8)(an acap:Nat)(box:AA 8)(bn bcap:Nat)(hkey:key.length=32)(hnonce:nonce.length=12)(had:ad.length=an)(han:an≤1099511627)(hbox:box.length=bn)(hbn:bn≤1099511627)(h16:16≤bn)(hE:¬(∀i,i<16→nth (Gc key nonce ad (cut box 0 (bn-16))) i=nth box (bn-16+i))):Ev prog (.call 54 [BM (key),BM (nonce),.c (.sl 0 0 an acap 1),.c (.sl 1 0 bn bcap 1)] [A0 (ad),A0 (box)]) (.val (.tup [.c .nsl,.c (.val (.bool (false)))]) [A0 (ad),A0 (box)]):=by
 subst had
 subst hbox
 refine AI func54 rfl ntmps54 rfl AM ?_;refine BO ?_;refine FB ?_;refine D7 ?_;refine cV ?_;refine BZ ?_;have hQ1:(Gc key nonce ad (cut box 0 (box.length-16))).length=16:=AP
 refine Iv ?_;refine Cn ?_;refine ct ?_;refine Ca ?_;refine AW ?_;refine dI ?_;refine rx (Zw key nonce ad ad.length acap box 0 (box.length-16) bcap AD AD AD AD AD AD) AEA ?_;refine Hn (Ay dQ AM) AT rfl ?_;refine BJ ?_;refine Jw ?_;refine B0 ?_;refine Q2 [3,4,5,10,11,12] (fun (j:Nat)=>⟨43,AU [3,4,5,10,11,12] [.c (.sl 1 0 box.length bcap 1),AY 2,AY 3,At ((box.length-16:Nat):Int),AY 4,At ((j:Nat):Int)],[A0 ad,A0 box,BP key,BP nonce,BP (Gc key nonce ad (cut box 0 (box.length-16)))]⟩) (fun j=>16-j) (fun j=>j≤16∧ ∀i,i<j→nth (Gc key nonce ad (cut box 0 (box.length-16))) i=nth box (box.length-16+i)) 0 K_ ⟨Nat.zero_le _,fun i hi=>absurd hi (Nat.not_lt_zero i)⟩ ?_
 rintro j ⟨hj,hB⟩
 by_cases hlt:j<16
 ·refine S_ ?_
  refine RT ?_;refine GF ?_;refine Ar ?_;refine RZ ?_;refine AH (AN rfl rfl underlying121 Bt O_) rfl ?_;refine EK ?_;refine Ca ?_;refine AW ?_;refine P0 ?_;refine Of ?_;refine EK ?_;refine AH (qn rfl rfl) rfl ?_;refine Fs ?_;by_cases hc:nth (Gc key nonce ad (cut box 0 (box.length-16))) j=nth box (box.length-16+j)
  ·refine Cg rfl (by simp [hc]) ?_
   refine A1 ?_;refine HH ?_;refine ⟨j+1,K_,by show 16-(j+1)<16-j;omega,by omega,fun i hi=>?_⟩
   rcases (by omega:i<j∨i=j) with h | rfl
   ·exact hB i h
   ·exact hc
  ·refine FJ rfl (by simp [hc]) ?_
   refine Ab ?_;exact He
 ·obtain rfl:j=16:=by omega
  exact absurd hB hE
theorem jD:∃f:AA 64→AA 64→AA 64,(∀a b,(f a b).length=4)∧ ∀a b,a.length=4→b.length=4→f a b=AG a b:=⟨fun a b=>if a.length=4∧b.length=4 then AG a b else AC 4,fun a b=>by dsimp only;split<;>simp [*],fun a b ha hb=>if_pos ⟨ha,hb⟩⟩
noncomputable def BD:AA 64→AA 64→AA 64:=Classical.choose jD
@[simp] theorem AIg(a b:AA 64):(BD a b).length=4:=(Classical.choose_spec jD).1 a b
theorem iS(a b:AA 64)(ha:a.length=4)(hb:b.length=4):BD a b=AG a b:=(Classical.choose_spec jD).2 a b ha hb
theorem KC(a b:AA 64)(ha:a.length=4)(hb:b.length=4):Ev prog (.call 86 [Aw a,Aw b] []) (.val (Aw (BD a b)) []):=by
 rw [iS a b ha hb]
 exact Ax a b ha hb
theorem kB:∃f:AA 64→AA 64→AA 64,(∀a b,(f a b).length=4)∧ ∀a b,a.length=4→b.length=4→f a b=Aq a b:=⟨fun a b=>if a.length=4∧b.length=4 then Aq a b else AC 4,fun a b=>by dsimp only;split<;>simp [*],fun a b ha hb=>if_pos ⟨ha,hb⟩⟩
noncomputable def BH:AA 64→AA 64→AA 64:=Classical.choose kB
@[simp] theorem AIp(a b:AA 64):(BH a b).length=4:=(Classical.choose_spec kB).1 a b
theorem sa(a b:AA 64)(ha:a.length=4)(hb:b.length=4):BH a b=Aq a b:=(Classical.choose_spec kB).2 a b ha hb
theorem Za(a b:AA 64)(ha:a.length=4)(hb:b.length=4):Ev prog (.call 85 [Aw a,Aw b] []) (.val (Aw (BH a b)) []):=by
 rw [sa a b ha hb]
 exact CV a b ha hb
theorem iC:∃f:AA 64→AA 64→AA 64,(∀a b,(f a b).length=4)∧ ∀a b,a.length=4→b.length=4→f a b=Aj a b:=⟨fun a b=>if a.length=4∧b.length=4 then Aj a b else AC 4,fun a b=>by dsimp only;split<;>simp [*],fun a b ha hb=>if_pos ⟨ha,hb⟩⟩
noncomputable def BE:AA 64→AA 64→AA 64:=Classical.choose iC
@[simp] theorem AJW(a b:AA 64):(BE a b).length=4:=(Classical.choose_spec iC).1 a b
theorem sb(a b:AA 64)(ha:a.length=4)(hb:b.length=4):BE a b=Aj a b:=(Classical.choose_spec iC).2 a b ha hb
theorem Zr(a b:AA 64)(ha:a.length=4)(hb:b.length=4):Ev prog (.call 84 [Aw a,Aw b] []) (.val (Aw (BE a b)) []):=by
 rw [sb a b ha hb]
 exact Co a b ha hb
theorem iG:∃f:AA 64→AA 64,(∀a,(f a).length=4)∧ ∀a,a.length=4→f a=Bd a:=⟨fun a=>if a.length=4 then Bd a else AC 4,fun a=>by dsimp only;split<;>simp [*],fun a ha=>if_pos ha⟩
noncomputable def Xz:AA 64→AA 64:=Classical.choose iG
@[simp] theorem AJY(a:AA 64):(Xz a).length=4:=(Classical.choose_spec iG).1 a
theorem rd(a:AA 64)(ha:a.length=4):Xz a=Bd a:=(Classical.choose_spec iG).2 a ha
theorem ACH(a:AA 64)(ha:a.length=4):Ev prog (.call 82 [Aw a] []) (.val (Aw (Xz a)) []):=by
 rw [rd a ha]
 exact RD a ha
theorem gS:∃f:AA 64→AA 64,(∀a,(f a).length=4)∧ ∀a,a.length=4→f a=BT a:=⟨fun a=>if a.length=4 then BT a else AC 4,fun a=>by dsimp only;split<;>simp [*],fun a ha=>if_pos ha⟩
noncomputable def jZ:AA 64→AA 64:=Classical.choose gS
@[simp] theorem AKV(a:AA 64):(jZ a).length=4:=(Classical.choose_spec gS).1 a
theorem tQ(a:AA 64)(ha:a.length=4):jZ a=BT a:=(Classical.choose_spec gS).2 a ha
theorem ACs(a:AA 64)(ha:a.length=4):Ev prog (.call 88 [Aw a] []) (.val (Aw (jZ a)) []):=by
 rw [tQ a ha]
 exact C5 a ha
theorem pe:∃f:AA 64→AA 8,(∀a,(f a).length=32)∧ ∀a,a.length=4→f a=rB a:=⟨fun a=>if a.length=4 then rB a else Ac 32,fun a=>by dsimp only;split<;>simp [*],fun a ha=>if_pos ha⟩
noncomputable def oBy:AA 64→AA 8:=Classical.choose pe
@[simp] theorem AKn(a:AA 64):(oBy a).length=32:=(Classical.choose_spec pe).1 a
theorem xK(a:AA 64)(ha:a.length=4):oBy a=rB a:=(Classical.choose_spec pe).2 a ha
theorem AFN(a:AA 64)(ha:a.length=4):Ev prog (.call 87 [Aw a] []) (.val (BM (oBy a)) []):=by
 rw [xK a ha]
 exact tM a ha
theorem pw:∃f:AA 8→AA 64,(∀a,(f a).length=4)∧ ∀a,a.length=32→f a=JJ a:=⟨fun a=>if a.length=32 then JJ a else AC 4,fun a=>by dsimp only;split<;>simp [*],fun a ha=>if_pos ha⟩
noncomputable def pN:AA 8→AA 64:=Classical.choose pw
@[simp] theorem AC3(a:AA 8):(pN a).length=4:=(Classical.choose_spec pw).1 a
theorem yO(a:AA 8)(ha:a.length=32):pN a=JJ a:=(Classical.choose_spec pw).2 a ha
theorem AFi(a:AA 8)(ha:a.length=32):Ev prog (.call 83 [BM a] []) (.val (Aw (pN a)) []):=by
 rw [yO a ha]
 exact Tw a ha
theorem je:∃f:AA 8→AA 64,(∀a,(f a).length=4)∧ ∀a,a.length=32→f a=V6 a:=⟨fun a=>if a.length=32 then V6 a else AC 4,fun a=>by dsimp only;split<;>simp [*],fun a ha=>if_pos ha⟩
noncomputable def DV:AA 8→AA 64:=Classical.choose je
@[simp] theorem AIw(a:AA 8):(DV a).length=4:=(Classical.choose_spec je).1 a
theorem sX(a:AA 8)(ha:a.length=32):DV a=V6 a:=(Classical.choose_spec je).2 a ha
theorem ACE(a:AA 8)(ha:a.length=32):Ev prog (.call 81 [BM a] []) (.val (Aw (DV a)) []):=by
 rw [sX a ha]
 exact zI a ha
noncomputable def H4(J4 J5 J6 J7:AA 64):AA 64:=BD (BE (BD (BH J6 J7) (BE J4 J5)) (BD (BE J6 J7) (BH J4 J5))) (BE (BD (BH J6 J7) (BE J4 J5)) (BD (BE J6 J7) (BH J4 J5)))
@[simp] theorem UV(J4 J5 J6 J7:AA 64):(H4 J4 J5 J6 J7).length=4:=by simp [H4]
noncomputable def H6(place:AA 8)(J4 J5 J6 J7:AA 64):AA 64:=BD (Xz (pN (put place 31 ((nth place 31)&&&127#8)))) (BD (BH (BD (BH J6 J7) (BE J4 J5)) (BD (BE J6 J7) (BH J4 J5))) (BH (BD (BH J6 J7) (BE J4 J5)) (BD (BE J6 J7) (BH J4 J5))))
@[simp] theorem UD(place:AA 8)(J4 J5 J6 J7:AA 64):(H6 place J4 J5 J6 J7).length=4:=by simp [H6]
noncomputable def IA(J4 J5:AA 64):AA 64:=BD (BD (BE J4 J5) (BE J4 J5)) (BD (BH J4 J5) (BH J4 J5))
@[simp] theorem UX(J4 J5:AA 64):(IA J4 J5).length=4:=by simp [IA]
noncomputable def H3(J4 J5:AA 64):AA 64:=BD (BH (BD (BE J4 J5) (BE J4 J5)) (BD (BH J4 J5) (BH J4 J5))) (BE (BD (BE J4 J5) (BE J4 J5)) (BD (put (AC 4) 0 121665#64) (BH (BD (BE J4 J5) (BE J4 J5)) (BD (BH J4 J5) (BH J4 J5)))))
@[simp] theorem UG(J4 J5:AA 64):(H3 J4 J5).length=4:=by simp [H3]
noncomputable def QZ(key place:AA 8)(X4 X5 X6 X7:AA 64)(j6:Nat):AA 64×AA 64×AA 64×AA 64:=((if ((((nth (DV key) ((254-j6)/64))>>>(BitVec.ofNat 64 ((254-j6)%64)).toNat)&&&1#64)==1#64)=true then (H4 (if ((((nth (DV key) ((254-j6)/64))>>>(BitVec.ofNat 64 ((254-j6)%64)).toNat)&&&1#64)==1#64)=true then X6 else X4) (if ((((nth (DV key) ((254-j6)/64))>>>(BitVec.ofNat 64 ((254-j6)%64)).toNat)&&&1#64)==1#64)=true then X7 else X5) (if ((((nth (DV key) ((254-j6)/64))>>>(BitVec.ofNat 64 ((254-j6)%64)).toNat)&&&1#64)==1#64)=true then X4 else X6) (if ((((nth (DV key) ((254-j6)/64))>>>(BitVec.ofNat 64 ((254-j6)%64)).toNat)&&&1#64)==1#64)=true then X5 else X7)) else (IA (if ((((nth (DV key) ((254-j6)/64))>>>(BitVec.ofNat 64 ((254-j6)%64)).toNat)&&&1#64)==1#64)=true then X6 else X4) (if ((((nth (DV key) ((254-j6)/64))>>>(BitVec.ofNat 64 ((254-j6)%64)).toNat)&&&1#64)==1#64)=true then X7 else X5))),(if ((((nth (DV key) ((254-j6)/64))>>>(BitVec.ofNat 64 ((254-j6)%64)).toNat)&&&1#64)==1#64)=true then (H6 place (if ((((nth (DV key) ((254-j6)/64))>>>(BitVec.ofNat 64 ((254-j6)%64)).toNat)&&&1#64)==1#64)=true then X6 else X4) (if ((((nth (DV key) ((254-j6)/64))>>>(BitVec.ofNat 64 ((254-j6)%64)).toNat)&&&1#64)==1#64)=true then X7 else X5) (if ((((nth (DV key) ((254-j6)/64))>>>(BitVec.ofNat 64 ((254-j6)%64)).toNat)&&&1#64)==1#64)=true then X4 else X6) (if ((((nth (DV key) ((254-j6)/64))>>>(BitVec.ofNat 64 ((254-j6)%64)).toNat)&&&1#64)==1#64)=true then X5 else X7)) else (H3 (if ((((nth (DV key) ((254-j6)/64))>>>(BitVec.ofNat 64 ((254-j6)%64)).toNat)&&&1#64)==1#64)=true then X6 else X4) (if ((((nth (DV key) ((254-j6)/64))>>>(BitVec.ofNat 64 ((254-j6)%64)).toNat)&&&1#64)==1#64)=true then X7 else X5))),(if ((((nth (DV key) ((254-j6)/64))>>>(BitVec.ofNat 64 ((254-j6)%64)).toNat)&&&1#64)==1#64)=true then (IA (if ((((nth (DV key) ((254-j6)/64))>>>(BitVec.ofNat 64 ((254-j6)%64)).toNat)&&&1#64)==1#64)=true then X6 else X4) (if ((((nth (DV key) ((254-j6)/64))>>>(BitVec.ofNat 64 ((254-j6)%64)).toNat)&&&1#64)==1#64)=true then X7 else X5)) else (H4 (if ((((nth (DV key) ((254-j6)/64))>>>(BitVec.ofNat 64 ((254-j6)%64)).toNat)&&&1#64)==1#64)=true then X6 else X4) (if ((((nth (DV key) ((254-j6)/64))>>>(BitVec.ofNat 64 ((254-j6)%64)).toNat)&&&1#64)==1#64)=true then X7 else X5) (if ((((nth (DV key) ((254-j6)/64))>>>(BitVec.ofNat 64 ((254-j6)%64)).toNat)&&&1#64)==1#64)=true then X4 else X6) (if ((((nth (DV key) ((254-j6)/64))>>>(BitVec.ofNat 64 ((254-j6)%64)).toNat)&&&1#64)==1#64)=true then X5 else X7))),(if ((((nth (DV key) ((254-j6)/64))>>>(BitVec.ofNat 64 ((254-j6)%64)).toNat)&&&1#64)==1#64)=true then (H3 (if ((((nth (DV key) ((254-j6)/64))>>>(BitVec.ofNat 64 ((254-j6)%64)).toNat)&&&1#64)==1#64)=true then X6 else X4) (if ((((nth (DV key) ((254-j6)/64))>>>(BitVec.ofNat 64 ((254-j6)%64)).toNat)&&&1#64)==1#64)=true then X7 else X5)) else (H6 place (if ((((nth (DV key) ((254-j6)/64))>>>(BitVec.ofNat 64 ((254-j6)%64)).toNat)&&&1#64)==1#64)=true then X6 else X4) (if ((((nth (DV key) ((254-j6)/64))>>>(BitVec.ofNat 64 ((254-j6)%64)).toNat)&&&1#64)==1#64)=true then X7 else X5) (if ((((nth (DV key) ((254-j6)/64))>>>(BitVec.ofNat 64 ((254-j6)%64)).toNat)&&&1#64)==1#64)=true then X4 else X6) (if ((((nth (DV key) ((254-j6)/64))>>>(BitVec.ofNat 64 ((254-j6)%64)).toNat)&&&1#64)==1#64)=true then X5 else X7))))
noncomputable def Bl(key place:AA 8):Nat→AA 64×AA 64×AA 64×AA 64
 |0=>(put (AC 4) 0 1#64,AC 4,Xz (pN (put place 31 ((nth place 31)&&&127#8))),put (AC 4) 0 1#64)
 |j6+1=>QZ key place (Bl key place j6).1 (Bl key place j6).2.1 (Bl key place j6).2.2.1 (Bl key place j6).2.2.2 j6
theorem K8(key place:AA 8)(_hkey:key.length=32)(_hplace:place.length=32)(j6:Nat):(Bl key place j6).1.length=4∧(Bl key place j6).2.1.length=4∧(Bl key place j6).2.2.1.length=4∧(Bl key place j6).2.2.2.length=4:=by
 induction j6 with
 |zero=>refine ⟨?_,?_,?_,?_⟩<;>(simp (maxDischargeDepth:=9) [Bl, *];done)
 |succ j6 ih=>
  obtain ⟨ih0,ih1,ih2,ih3⟩:=ih
  rw [Bl.eq_2,QZ]
  refine ⟨?_,?_,?_,?_⟩<;>(split<;>first | (simp (maxDischargeDepth:=9) [UV,UD,UX,UG, *];done) | (simp (maxDischargeDepth:=9) [UV,UD,UX,UG, *];omega))
theorem Uc(key place:AA 8)(hkey:key.length=32)(hplace:place.length=32)(j6:Nat):(Bl key place j6).1.length=4:=(K8 key place hkey hplace j6).1
theorem UQ(key place:AA 8)(hkey:key.length=32)(hplace:place.length=32)(j6:Nat):(Bl key place j6).2.1.length=4:=(K8 key place hkey hplace j6).2.1
theorem UT(key place:AA 8)(hkey:key.length=32)(hplace:place.length=32)(j6:Nat):(Bl key place j6).2.2.1.length=4:=(K8 key place hkey hplace j6).2.2.1
theorem UK(key place:AA 8)(hkey:key.length=32)(hplace:place.length=32)(j6:Nat):(Bl key place j6).2.2.2.length=4:=(K8 key place hkey hplace j6).2.2.2
noncomputable def mT(key place:AA 8):AA 8:=oBy (BD ((Bl key place 255).1) (jZ ((Bl key place 255).2.1)))
theorem L4(k:r)(h:Hid r→g:=by intro h;refine lj rfl rfl rfl rfl EI B7 B7 AT ?_;exact h.out):g:=h ⟨k⟩
theorem AAZ(k:r)(h:Hid r→g:=by intro h;refine Zh [] [] [(4,[3]),(5,[5]),(6,[4]),(7,[6])] [3,4,5,6] 0 _ AT mixed K_ K_ K_ ?_;exact h.out):g:=h ⟨k⟩
theorem Wk(k:r)(h:Hid r→g:=by intro h;refine Nq [] K_ (A9 rfl rfl Ei EI B7 D_) rfl ?_;exact h.out):g:=h ⟨k⟩
theorem O8(k:r)(h:Hid r→g:=by intro h;refine Hn (Ay IM M3) AT rfl ?_;exact h.out):g:=h ⟨k⟩
theorem xP(key place:AA 8)(hkey:key.length=32)(hplace:place.length=32):Ev prog (.call 56 [BM (key),BM (place)] []) (.val (BM (mT key place)) []):=by
 have hP:=Hid.mk (mT.eq_1 key place)
 refine AI func56 rfl ntmps56 rfl M3 ?_;refine Ab ?_;refine Ap (Sw yp M3) AT rfl ?_;refine Ap (Sw yp M3) AT rfl ?_;refine Ap (Ay YJ M3) AT rfl ?_;refine AR ?_;have hQ1:(DV key).length=4:=AP
 refine Bg ?_;refine Ae (ACE key AD) AIj ?_;refine Ap (Ay IM M3) AT rfl ?_;refine FQ ?_;refine AZ ?_;refine Iw ?_;refine Jp ?_;have hQ2:(pN (put place 31 ((nth place 31)&&&127#8))).length=4:=AP
 have hQ3:(Xz (pN (put place 31 ((nth place 31)&&&127#8)))).length=4:=AP
 refine Bg ?_;refine Ae (AFi (put place 31 ((nth place 31)&&&127#8)) AD) Sj ?_;refine Ae (ACH (pN (put place 31 ((nth place 31)&&&127#8))) AD) Sr ?_;refine Ap (Ay IM M3) AT rfl ?_;refine Gp ?_;refine Zh [.row true (.a64 (AC 4)),.row true (.a64 (AC 4)),.row true (.a64 (AC 4)),.row true (.a64 (AC 4))] [(4,5),(5,6),(6,7),(7,8)] [(8,[5]),(9,[6]),(10,[7]),(11,[8])] [5,6,7,8] 0 _ AT mixed K_ K_ K_ ?_;refine AAY (Fd (l:=(put (AC 4) 0 (1#64))) Hx underlying128 Am rfl rfl) rfl ?_;refine AAY (Fd (l:=(AC 4)) Hx underlying128 Am rfl rfl) rfl ?_;refine Nq [5,6] K_ (A9 rfl rfl Ei EI B7 D_) rfl ?_;refine AAY (Fd (l:=(put (AC 4) 0 (1#64))) Hx underlying128 Am rfl rfl) rfl ?_;refine N4 5 IM rfl rfl rfl K_ ?_;refine N4 6 IM rfl rfl rfl K_ ?_;refine N4 7 IM rfl rfl rfl K_ ?_;refine N4 8 IM rfl rfl rfl K_ ?_;refine L4 ?_;refine L4 ?_;refine L4 ?_;refine L4 ?_;refine eP ?_;refine Ab ?_;refine Al ?_;refine AK [4,5,6,7,8,9,10,11] (fun (zz:Nat×AA 64×AA 64×AA 64×AA 64)=>⟨117,AU [4,5,6,7,8,9,10,11] [AY 0,AY 1,AY 2,AY 3,AY 4,AY 5,AY 6,At (((254:Nat):Int)-((zz.1:Nat):Int))],[BP (Ac 32),Bb (DV key),Bb (Xz (pN (put place 31 ((nth place 31)&&&127#8)))),Bb (zz.2.1),Bb (zz.2.2.1),Bb (zz.2.2.2.1),Bb (zz.2.2.2.2)]⟩) (fun j6=>(j6,Bl key place j6)) (255) K_ ?_ ?_
 ·intro j6 hj6
  try dsimp only
  have hX4:(Bl key place j6).1.length=4:=by rw [Uc key place hkey hplace _];try omega
  have hX5:(Bl key place j6).2.1.length=4:=by rw [UQ key place hkey hplace _];try omega
  have hX6:(Bl key place j6).2.2.1.length=4:=by rw [UT key place hkey hplace _];try omega
  have hX7:(Bl key place j6).2.2.2.length=4:=by rw [UK key place hkey hplace _];try omega
  rw [Bl.eq_2,QZ]
  generalize Bl key place j6=Z8 at*
  obtain ⟨X4,X5,X6,X7⟩:=Z8
  try dsimp only at*
  rw [show ((254:Nat):Int)-((j6:Nat):Int)=((254-j6:Nat):Int) from by omega]
  refine PH ?_;refine Ak ?_;refine gF ?_;refine Xm ?_;refine Ed ?_;refine U6 ?_;refine QE ?_;refine Vv ?_;refine XU ?_;refine SM ?_;refine BF ?_;refine EA ?_;refine Eb [4,5,6,7,8,9,10,11,12] (fun (zz:AA 64×AA 64×AA 64×AA 64)=>⟨117,AU [4,5,6,7,8,9,10,11,12] [AY 0,AY 1,AY 2,AY 3,AY 4,AY 5,AY 6,At (((254-j6:Nat):Int)),.c (.val (.bool (((((nth (DV key) ((254-j6)/64))>>>(BitVec.ofNat 64 ((254-j6)%64)).toNat)&&&1#64)==1#64))))],[BP (Ac 32),Bb (DV key),Bb (Xz (pN (put place 31 ((nth place 31)&&&127#8)))),Bb (zz.1),Bb (zz.2.1),Bb (zz.2.2.1),Bb (zz.2.2.2)]⟩) ((if ((((nth (DV key) ((254-j6)/64))>>>(BitVec.ofNat 64 ((254-j6)%64)).toNat)&&&1#64)==1#64)=true then X6 else X4,if ((((nth (DV key) ((254-j6)/64))>>>(BitVec.ofNat 64 ((254-j6)%64)).toNat)&&&1#64)==1#64)=true then X7 else X5,if ((((nth (DV key) ((254-j6)/64))>>>(BitVec.ofNat 64 ((254-j6)%64)).toNat)&&&1#64)==1#64)=true then X4 else X6,if ((((nth (DV key) ((254-j6)/64))>>>(BitVec.ofNat 64 ((254-j6)%64)).toNat)&&&1#64)==1#64)=true then X5 else X7)) rfl (fun hb=>?_) (fun hb=>?_) ?_
  ·refine S_ ?_
   refine AAZ ?_;refine Wk ?_;refine Wk ?_;refine Nq [3,5] K_ (A9 rfl rfl Ei EI B7 D_) rfl ?_;refine Wk ?_;refine L4 ?_;refine L4 ?_;refine L4 ?_;refine L4 ?_;refine eP ?_;refine S_ ?_;refine ⟨(X6,X7,X4,X5),K_,?_⟩
   (simp only [if_pos (hb)];done)
  ·refine S_ ?_
   refine ⟨(X4,X5,X6,X7),K_,?_⟩
   (simp only [hb,Bool.false_eq_true,if_false];done)
  have hJ9:(if ((((nth (DV key) ((254-j6)/64))>>>(BitVec.ofNat 64 ((254-j6)%64)).toNat)&&&1#64)==1#64)=true then X6 else X4).length=4:=by split<;>simp [*]
  generalize (if ((((nth (DV key) ((254-j6)/64))>>>(BitVec.ofNat 64 ((254-j6)%64)).toNat)&&&1#64)==1#64)=true then X6 else X4)=J9 at*
  have hJ10:(if ((((nth (DV key) ((254-j6)/64))>>>(BitVec.ofNat 64 ((254-j6)%64)).toNat)&&&1#64)==1#64)=true then X7 else X5).length=4:=by split<;>simp [*]
  generalize (if ((((nth (DV key) ((254-j6)/64))>>>(BitVec.ofNat 64 ((254-j6)%64)).toNat)&&&1#64)==1#64)=true then X7 else X5)=J10 at*
  have hJ11:(if ((((nth (DV key) ((254-j6)/64))>>>(BitVec.ofNat 64 ((254-j6)%64)).toNat)&&&1#64)==1#64)=true then X4 else X6).length=4:=by split<;>simp [*]
  generalize (if ((((nth (DV key) ((254-j6)/64))>>>(BitVec.ofNat 64 ((254-j6)%64)).toNat)&&&1#64)==1#64)=true then X4 else X6)=J11 at*
  have hJ12:(if ((((nth (DV key) ((254-j6)/64))>>>(BitVec.ofNat 64 ((254-j6)%64)).toNat)&&&1#64)==1#64)=true then X5 else X7).length=4:=by split<;>simp [*]
  generalize (if ((((nth (DV key) ((254-j6)/64))>>>(BitVec.ofNat 64 ((254-j6)%64)).toNat)&&&1#64)==1#64)=true then X5 else X7)=J12 at*
  have hQ13:(BE J9 J10).length=4:=AP
  have hQ14:(BH J9 J10).length=4:=AP
  refine Iv ?_;refine CN ?_;refine AO (Zr J9 J10 AD AD) Mo ?_;refine CN ?_;refine AO (Za J9 J10 AD AD) La ?_;refine O8 ?_;refine O8 ?_;refine BJ ?_;refine FQ ?_;refine ED ?_;have hQ15:(BE J11 J12).length=4:=AP
  have hQ16:(BH J11 J12).length=4:=AP
  refine Iv ?_;refine CN ?_;refine AO (Zr J11 J12 AD AD) Mo ?_;refine CN ?_;refine AO (Za J11 J12 AD AD) La ?_;refine O8 ?_;refine O8 ?_;refine BJ ?_;refine FQ ?_;refine ED ?_;have hQ17:(BD (BE J9 J10) (BE J9 J10)).length=4:=AP
  have hQ18:(BD (BH J9 J10) (BH J9 J10)).length=4:=AP
  refine Iv ?_;refine CN ?_;refine AO (KC (BE J9 J10) (BE J9 J10) AD AD) CA ?_;refine CN ?_;refine AO (KC (BH J9 J10) (BH J9 J10) AD AD) CA ?_;refine O8 ?_;refine O8 ?_;refine BJ ?_;refine FQ ?_;refine ED ?_;have hQ19:(BH (BD (BE J9 J10) (BE J9 J10)) (BD (BH J9 J10) (BH J9 J10))).length=4:=AP
  refine IK ?_;refine Ae (Za (BD (BE J9 J10) (BE J9 J10)) (BD (BH J9 J10) (BH J9 J10)) AD AD) La ?_;refine Ap (Ay IM M3) AT rfl ?_;refine ED ?_;have hQ20:(BD (BH J11 J12) (BE J9 J10)).length=4:=AP
  have hQ21:(BD (BE J11 J12) (BH J9 J10)).length=4:=AP
  refine Iv ?_;refine CN ?_;refine AO (KC (BH J11 J12) (BE J9 J10) AD AD) CA ?_;refine CN ?_;refine AO (KC (BE J11 J12) (BH J9 J10) AD AD) CA ?_;refine O8 ?_;refine O8 ?_;refine BJ ?_;refine FQ ?_;refine ED ?_;have hQ22:(BE (BD (BH J11 J12) (BE J9 J10)) (BD (BE J11 J12) (BH J9 J10))).length=4:=AP
  have hQ23:(BH (BD (BH J11 J12) (BE J9 J10)) (BD (BE J11 J12) (BH J9 J10))).length=4:=AP
  refine Iv ?_;refine CN ?_;refine AO (Zr (BD (BH J11 J12) (BE J9 J10)) (BD (BE J11 J12) (BH J9 J10)) AD AD) Mo ?_;refine CN ?_;refine AO (Za (BD (BH J11 J12) (BE J9 J10)) (BD (BE J11 J12) (BH J9 J10)) AD AD) La ?_;refine O8 ?_;refine O8 ?_;refine BJ ?_;refine FQ ?_;refine ED ?_;have hQ24:(BD (BE (BD (BH J11 J12) (BE J9 J10)) (BD (BE J11 J12) (BH J9 J10))) (BE (BD (BH J11 J12) (BE J9 J10)) (BD (BE J11 J12) (BH J9 J10)))).length=4:=AP
  refine IK ?_;refine Ae (KC (BE (BD (BH J11 J12) (BE J9 J10)) (BD (BE J11 J12) (BH J9 J10))) (BE (BD (BH J11 J12) (BE J9 J10)) (BD (BE J11 J12) (BH J9 J10))) AD AD) CA ?_;refine ED ?_;rw [show (BD (BE (BD (BH J11 J12) (BE J9 J10)) (BD (BE J11 J12) (BH J9 J10))) (BE (BD (BH J11 J12) (BE J9 J10)) (BD (BE J11 J12) (BH J9 J10))))=H4 J9 J10 J11 J12 from rfl]
  have hX25:(H4 J9 J10 J11 J12).length=4:=AP
  generalize H4 J9 J10 J11 J12=X25 at*
  have hQ26:(BD (BH (BD (BH J11 J12) (BE J9 J10)) (BD (BE J11 J12) (BH J9 J10))) (BH (BD (BH J11 J12) (BE J9 J10)) (BD (BE J11 J12) (BH J9 J10)))).length=4:=AP
  have hQ27:(BD (Xz (pN (put place 31 ((nth place 31)&&&127#8)))) (BD (BH (BD (BH J11 J12) (BE J9 J10)) (BD (BE J11 J12) (BH J9 J10))) (BH (BD (BH J11 J12) (BE J9 J10)) (BD (BE J11 J12) (BH J9 J10))))).length=4:=AP
  refine In ?_;refine CN ?_;refine CO ?_;refine AO (KC (BH (BD (BH J11 J12) (BE J9 J10)) (BD (BE J11 J12) (BH J9 J10))) (BH (BD (BH J11 J12) (BE J9 J10)) (BD (BE J11 J12) (BH J9 J10))) AD AD) CA ?_;refine AO (KC (Xz (pN (put place 31 ((nth place 31)&&&127#8)))) (BD (BH (BD (BH J11 J12) (BE J9 J10)) (BD (BE J11 J12) (BH J9 J10))) (BH (BD (BH J11 J12) (BE J9 J10)) (BD (BE J11 J12) (BH J9 J10)))) AD AD) CA ?_;refine BJ ?_;refine ED ?_;rw [show (BD (Xz (pN (put place 31 ((nth place 31)&&&127#8)))) (BD (BH (BD (BH J11 J12) (BE J9 J10)) (BD (BE J11 J12) (BH J9 J10))) (BH (BD (BH J11 J12) (BE J9 J10)) (BD (BE J11 J12) (BH J9 J10)))))=H6 place J9 J10 J11 J12 from rfl]
  have hX28:(H6 place J9 J10 J11 J12).length=4:=AP
  generalize H6 place J9 J10 J11 J12=X28 at*
  have hQ29:(BD (BD (BE J9 J10) (BE J9 J10)) (BD (BH J9 J10) (BH J9 J10))).length=4:=AP
  refine IK ?_;refine Ae (KC (BD (BE J9 J10) (BE J9 J10)) (BD (BH J9 J10) (BH J9 J10)) AD AD) CA ?_;refine ED ?_;rw [show (BD (BD (BE J9 J10) (BE J9 J10)) (BD (BH J9 J10) (BH J9 J10)))=IA J9 J10 from rfl]
  have hX30:(IA J9 J10).length=4:=AP
  generalize IA J9 J10=X30 at*
  have hQ31:(BD (put (AC 4) 0 121665#64) (BH (BD (BE J9 J10) (BE J9 J10)) (BD (BH J9 J10) (BH J9 J10)))).length=4:=AP
  have hQ32:(BE (BD (BE J9 J10) (BE J9 J10)) (BD (put (AC 4) 0 121665#64) (BH (BD (BE J9 J10) (BE J9 J10)) (BD (BH J9 J10) (BH J9 J10))))).length=4:=AP
  have hQ33:(BD (BH (BD (BE J9 J10) (BE J9 J10)) (BD (BH J9 J10) (BH J9 J10))) (BE (BD (BE J9 J10) (BE J9 J10)) (BD (put (AC 4) 0 121665#64) (BH (BD (BE J9 J10) (BE J9 J10)) (BD (BH J9 J10) (BH J9 J10)))))).length=4:=AP
  refine Jd ?_;refine CN ?_;refine AH (Fd (l:=(put (AC 4) 0 (121665#64))) Hx underlying128 Am rfl rfl) rfl ?_;refine CO ?_;refine AO (KC (put (AC 4) 0 121665#64) (BH (BD (BE J9 J10) (BE J9 J10)) (BD (BH J9 J10) (BH J9 J10))) AD AD) CA ?_;refine AO (Zr (BD (BE J9 J10) (BE J9 J10)) (BD (put (AC 4) 0 121665#64) (BH (BD (BE J9 J10) (BE J9 J10)) (BD (BH J9 J10) (BH J9 J10)))) AD AD) Mo ?_;refine AO (KC (BH (BD (BE J9 J10) (BE J9 J10)) (BD (BH J9 J10) (BH J9 J10))) (BE (BD (BE J9 J10) (BE J9 J10)) (BD (put (AC 4) 0 121665#64) (BH (BD (BE J9 J10) (BE J9 J10)) (BD (BH J9 J10) (BH J9 J10))))) AD AD) CA ?_;refine BJ ?_;refine ED ?_;rw [show (BD (BH (BD (BE J9 J10) (BE J9 J10)) (BD (BH J9 J10) (BH J9 J10))) (BE (BD (BE J9 J10) (BE J9 J10)) (BD (put (AC 4) 0 121665#64) (BH (BD (BE J9 J10) (BE J9 J10)) (BD (BH J9 J10) (BH J9 J10))))))=H3 J9 J10 from rfl]
  have hX34:(H3 J9 J10).length=4:=AP
  generalize H3 J9 J10=X34 at*
  refine A1 ?_;refine EA ?_;refine Eb [4,5,6,7,8,9,10,11] (fun (zz:AA 64×AA 64×AA 64×AA 64)=>⟨117,AU [4,5,6,7,8,9,10,11] [AY 0,AY 1,AY 2,AY 3,AY 4,AY 5,AY 6,At (((254-j6:Nat):Int))],[BP (Ac 32),Bb (DV key),Bb (Xz (pN (put place 31 ((nth place 31)&&&127#8)))),Bb (zz.1),Bb (zz.2.1),Bb (zz.2.2.1),Bb (zz.2.2.2)]⟩) ((if ((((nth (DV key) ((254-j6)/64))>>>(BitVec.ofNat 64 ((254-j6)%64)).toNat)&&&1#64)==1#64)=true then X25 else X30,if ((((nth (DV key) ((254-j6)/64))>>>(BitVec.ofNat 64 ((254-j6)%64)).toNat)&&&1#64)==1#64)=true then X28 else X34,if ((((nth (DV key) ((254-j6)/64))>>>(BitVec.ofNat 64 ((254-j6)%64)).toNat)&&&1#64)==1#64)=true then X30 else X25,if ((((nth (DV key) ((254-j6)/64))>>>(BitVec.ofNat 64 ((254-j6)%64)).toNat)&&&1#64)==1#64)=true then X34 else X28)) rfl (fun hb=>?_) (fun hb=>?_) ?_
  ·refine S_ ?_
   refine AAZ ?_;refine Wk ?_;refine Wk ?_;refine Nq [3,5] K_ (A9 rfl rfl Ei EI B7 D_) rfl ?_;refine Wk ?_;refine L4 ?_;refine L4 ?_;refine L4 ?_;refine L4 ?_;refine eP ?_;refine S_ ?_;refine ⟨(X25,X28,X30,X34),K_,?_⟩
   (simp only [if_pos (hb)];done)
  ·refine S_ ?_
   refine ⟨(X30,X34,X25,X28),K_,?_⟩
   (simp only [hb,Bool.false_eq_true,if_false];done)
  have hJ35:(if ((((nth (DV key) ((254-j6)/64))>>>(BitVec.ofNat 64 ((254-j6)%64)).toNat)&&&1#64)==1#64)=true then X25 else X30).length=4:=by split<;>simp [*]
  generalize (if ((((nth (DV key) ((254-j6)/64))>>>(BitVec.ofNat 64 ((254-j6)%64)).toNat)&&&1#64)==1#64)=true then X25 else X30)=J35 at*
  have hJ36:(if ((((nth (DV key) ((254-j6)/64))>>>(BitVec.ofNat 64 ((254-j6)%64)).toNat)&&&1#64)==1#64)=true then X28 else X34).length=4:=by split<;>simp [*]
  generalize (if ((((nth (DV key) ((254-j6)/64))>>>(BitVec.ofNat 64 ((254-j6)%64)).toNat)&&&1#64)==1#64)=true then X28 else X34)=J36 at*
  have hJ37:(if ((((nth (DV key) ((254-j6)/64))>>>(BitVec.ofNat 64 ((254-j6)%64)).toNat)&&&1#64)==1#64)=true then X30 else X25).length=4:=by split<;>simp [*]
  generalize (if ((((nth (DV key) ((254-j6)/64))>>>(BitVec.ofNat 64 ((254-j6)%64)).toNat)&&&1#64)==1#64)=true then X30 else X25)=J37 at*
  have hJ38:(if ((((nth (DV key) ((254-j6)/64))>>>(BitVec.ofNat 64 ((254-j6)%64)).toNat)&&&1#64)==1#64)=true then X34 else X28).length=4:=by split<;>simp [*]
  generalize (if ((((nth (DV key) ((254-j6)/64))>>>(BitVec.ofNat 64 ((254-j6)%64)).toNat)&&&1#64)==1#64)=true then X34 else X28)=J38 at*
  refine A1 ?_;refine PE ?_;refine ⟨(j6+1,_),(by
   dsimp only
   rw [show ((254:Nat):Int)-((j6+1:Nat):Int)=((254-j6:Nat):Int)-1 from by omega]
   kernel_rfl),rfl⟩
 ·try dsimp only
  have hY39:(Bl key place 255).1.length=4:=by rw [Uc key place hkey hplace _];try omega
  have hY40:(Bl key place 255).2.1.length=4:=by rw [UQ key place hkey hplace _];try omega
  have hY41:(Bl key place 255).2.2.1.length=4:=by rw [UT key place hkey hplace _];try omega
  have hY42:(Bl key place 255).2.2.2.length=4:=by rw [UK key place hkey hplace _];try omega
  generalize Bl key place 255=Z43 at*
  obtain ⟨Y39,Y40,Y41,Y42⟩:=Z43
  try dsimp only at*
  refine RU ?_;refine AR ?_;have hQ44:(jZ Y40).length=4:=AP
  have hQ45:(BD Y39 (jZ Y40)).length=4:=AP
  have hQ46:(oBy (BD Y39 (jZ Y40))).length=32:=AP
  refine In ?_;refine CN ?_;refine AO (ACs Y40 AD) V2 ?_;refine AO (KC Y39 (jZ Y40) AD AD) CA ?_;refine AO (AFN (BD Y39 (jZ Y40)) AD) sf ?_;refine BJ ?_;refine GH ?_;rw [hP.out]
  exact Ec
attribute [irreducible] mT
def TW(x:AA 64)(v:Fp):Prop:=x=WF v
theorem TW.add{a b:AA 64}{u v:Fp}(h:TW a u)(k:TW b v):TW (BE a b) (u+v):=by
 unfold TW at*;subst h;subst k;rw [sb _ _ (Om _) (Om _)];unfold Aj;rw [G1,G1]
theorem TW.sub{a b:AA 64}{u v:Fp}(h:TW a u)(k:TW b v):TW (BH a b) (u-v):=by
 unfold TW at*;subst h;subst k;rw [sa _ _ (Om _) (Om _)];unfold Aq;rw [G1,G1]
theorem TW.mul{a b:AA 64}{u v:Fp}(h:TW a u)(k:TW b v):TW (BD a b) (u*v):=by
 unfold TW at*;subst h;subst k;rw [iS _ _ (Om _) (Om _)];unfold AG;rw [G1,G1]
theorem TW.aM:TW (put (AC 4) 0 121665#64) aM:=by unfold TW;decide+kernel
theorem TW.one:TW (put (AC 4) 0 1#64) 1:=by unfold TW;decide+kernel
theorem TW.zero:TW (AC 4) 0:=QM
def TW4(x:AA 64×AA 64×AA 64×AA 64)(s:M4):Prop:=TW x.1 s.1∧TW x.2.1 s.2.1∧TW x.2.2.1 s.2.2.1∧TW x.2.2.2 s.2.2.2
theorem AHd(key:AA 8)(hkey:key.length=32):wV (DV key)=kN key:=by
 rw [sX key hkey]
 unfold V6 kN SY
 rw [fc]
theorem TW.u(place:AA 8)(hplace:place.length=32):TW (Xz (pN (put place 31 ((nth place 31)&&&127#8)))) (uP place):=by
 rw [rd _ (AC3 _),yO _ (by simpa using hplace)]
 unfold TW Bd ZW uP Z
 rw [fc]
theorem ACB(key place:AA 8)(hkey:key.length=32)(hplace:place.length=32):∀j,j≤255→TW4 (Bl key place j) (lN (uP place) (kN key) j):=by
 intro j
 induction j with
 |zero=>exact fun _=>⟨.one,.zero,.u _ hplace,.one⟩
 |succ j ih=>
  intro hj
  have h:=ih O_
  have hu:=TW.u place hplace
  rw [Bl.eq_2,QZ]
  show TW4 _ (bO _ _ _)
  rw [Nat.testBit_eq_decide_div_mod_eq,bc _ _ O_,AHd key hkey]
  generalize Bl key place j=x at h
  generalize lN (uP place) (kN key) j=s at h
  obtain ⟨h1,h2,h3,h4⟩:=h
  by_cases hb:kN key/2^(254-j)%2=1
  ·rw [decide_eq_true hb]
   simp only [if_true,bO,mN,lv,H4,H6,IA,H3]
   exact ⟨.mul (.add (.mul (.sub h1 h2) (.add h3 h4)) (.mul (.add h1 h2) (.sub h3 h4))) (.add (.mul (.sub h1 h2) (.add h3 h4)) (.mul (.add h1 h2) (.sub h3 h4))),
    .mul hu (.mul (.sub (.mul (.sub h1 h2) (.add h3 h4)) (.mul (.add h1 h2) (.sub h3 h4))) (.sub (.mul (.sub h1 h2) (.add h3 h4)) (.mul (.add h1 h2) (.sub h3 h4)))),
    .mul (.mul (.add h3 h4) (.add h3 h4)) (.mul (.sub h3 h4) (.sub h3 h4)),
    .mul (.sub (.mul (.add h3 h4) (.add h3 h4)) (.mul (.sub h3 h4) (.sub h3 h4))) (.add (.mul (.add h3 h4) (.add h3 h4)) (.mul .aM (.sub (.mul (.add h3 h4) (.add h3 h4)) (.mul (.sub h3 h4) (.sub h3 h4)))))⟩
  ·rw [decide_eq_false hb]
   simp only [Bool.false_eq_true,if_false,bO,mN,lv,H4,H6,IA,H3]
   exact ⟨.mul (.mul (.add h1 h2) (.add h1 h2)) (.mul (.sub h1 h2) (.sub h1 h2)),
    .mul (.sub (.mul (.add h1 h2) (.add h1 h2)) (.mul (.sub h1 h2) (.sub h1 h2))) (.add (.mul (.add h1 h2) (.add h1 h2)) (.mul .aM (.sub (.mul (.add h1 h2) (.add h1 h2)) (.mul (.sub h1 h2) (.sub h1 h2))))),
    .mul (.add (.mul (.sub h3 h4) (.add h1 h2)) (.mul (.add h3 h4) (.sub h1 h2))) (.add (.mul (.sub h3 h4) (.add h1 h2)) (.mul (.add h3 h4) (.sub h1 h2))),
    .mul hu (.mul (.sub (.mul (.sub h3 h4) (.add h1 h2)) (.mul (.add h3 h4) (.sub h1 h2))) (.sub (.mul (.sub h3 h4) (.add h1 h2)) (.mul (.add h3 h4) (.sub h1 h2))))⟩
theorem ABF(key place:AA 8)(hkey:key.length=32)(hplace:place.length=32):mT key place=aB key place:=by
 unfold mT aB
 obtain ⟨h1,h2,-,-⟩:=ACB key place hkey hplace 255 (Nat.le_refl _)
 unfold TW at h1 h2
 rw [h1,h2,tQ _ (Om _)]
 unfold BT
 rw [G1,iS _ _ (Om _) (Om _)]
 unfold AG
 rw [G1,G1,xK _ (Om _)]
 unfold rB F AJe
 rw [TJ]
theorem ACq(key place:AA 8)(hkey:key.length=32)(hplace:place.length=32):Ev prog (.call 56 [BM key,BM place] []) (.val (BM (aB key place)) []):=by
 rw [←ABF key place hkey hplace];exact xP key place hkey hplace
theorem AC9(b:AA 8)(j:Nat):ES b j=b++Ac j:=by
 induction j with
 |zero=>simp [ES,Ac]
 |succ j ih=>rw [ES,N2,ih,List.append_assoc];congr 1;unfold Ac;rw [List.replicate_succ'];rfl
theorem sH(b:AA 8):Ky b=b++Ac ((16-b.length%16)%16):=by
 unfold Ky;exact AC9 b _
theorem AB2(n:Nat)(X:AA 8)(l:List Nat)(j5 j:Nat)(h:ntn l j5=n)(f:Nat→AA 8)(f0:f 0=X)(fs:∀j,f (j+1)=f j++[((BitVec.ofNat 64 (ntn l j5))>>>(8*j)).setWidth 8])(hj:j≤8):f j=X++ER n j:=by
 induction j with
 |zero=>rw [f0,ER,List.append_nil]
 |succ j ih=>
  rw [fs,ih O_,ER,Nj,h,BitVec.toNat_ofNat,Nat.mod_eq_of_lt O_,List.append_assoc]
theorem kf(key nonce ad tx:AA 8):Mp key nonce ad tx=Gc key nonce ad tx:=by
 have h8:∀X j5 n,ntn [ad.length,tx.length] j5=n→GI ad tx X j5 8=X++Gj n:=fun X j5 n h=>by
  unfold Gj
  exact AB2 n X [ad.length,tx.length] j5 8 h (GI ad tx X j5) rfl (fun j=>rfl) D_
 unfold Mp Gc
 rw [Fk,ND,Fk,ND,Fk,h8 _ 0 ad.length rfl,h8 _ 1 tx.length rfl,sH,sH]
 congr 5
 rw [List.length_append,List.length_append,Bo]
 omega
theorem ek(key nonce ad tx:AA 8):Cx key nonce ad tx=Mp key nonce ad tx:=by unfold Cx;rfl
theorem vm(key nonce box:AA 8):Dt key nonce box=Ny key nonce box:=by unfold Dt Ny;rfl
theorem rW{key nonce ad box:AA 8}{bn:Nat}(hkey:key.length=32)(hnonce:nonce.length=12)(hbox:box.length=bn)(h16:16≤bn):Gc key nonce ad (cut box 0 (bn-16))=cut box (bn-16) 16↔ ∀i,i<16→nth (Gc key nonce ad (cut box 0 (bn-16))) i=nth box (bn-16+i):=by
 constructor
 ·intro h i hi
  rw [h,zh _ _ _ _ hi]
 ·intro h
  refine XC (by rw [cx _ _ _ _ hkey hnonce,BV];omega) fun i hi=>?_
  rw [cx _ _ _ _ hkey hnonce] at hi
  rw [h i hi,zh _ _ _ _ hi]
theorem pg(key nonce ad:AA 8)(an acap:Nat)(box:AA 8)(bn bcap:Nat)(hkey:key.length=32)(hnonce:nonce.length=12)(had:ad.length=an)(han:an≤1099511627)(hbox:box.length=bn)(hbn:bn≤1099511627)(h16:16≤bn)(hE:Gc key nonce ad (cut box 0 (bn-16))=cut box (bn-16) 16):Ev prog (.call 54 [BM (key),BM (nonce),.c (.sl 0 0 an acap 1),.c (.sl 1 0 bn bcap 1)] [A0 (ad),A0 (box)]) (.val (.tup [.c (.sl 2 0 (bn-16) (bn-16) 1),.c (.val (.bool (true)))]) [A0 (ad),A0 (box),BP (Ny key nonce box)]):=by
 have h_:=vu key nonce ad an acap box bn bcap hkey hnonce had han hbox hbn h16 ((rW hkey hnonce hbox h16).1 hE)
 exact h_
theorem mM(key nonce ad:AA 8)(an acap:Nat)(box:AA 8)(bn bcap:Nat)(hkey:key.length=32)(hnonce:nonce.length=12)(had:ad.length=an)(han:an≤1099511627)(hbox:box.length=bn)(hbn:bn≤1099511627)(h16:16≤bn)(hE:¬(Gc key nonce ad (cut box 0 (bn-16))=cut box (bn-16) 16)):Ev prog (.call 54 [BM (key),BM (nonce),.c (.sl 0 0 an acap 1),.c (.sl 1 0 bn bcap 1)] [A0 (ad),A0 (box)]) (.val (.tup [.c .nsl,.c (.val (.bool (false)))]) [A0 (ad),A0 (box)]):=by
 have h_:=ng key nonce ad an acap box bn bcap hkey hnonce had han hbox hbn h16 (fun h=>hE ((rW hkey hnonce hbox h16).2 h))
 exact h_
theorem mS(b:AA 8):(∃y,bd b=(y,0))∨bd b=([],2):=by
 unfold bd
 split
 ·exact .inr rfl
 ·cases gH b with
  |none=>exact .inr rfl
  |some y=>exact .inl ⟨y,rfl⟩
theorem qp(key box:AA 8)(hkey:key.length=32)(hbn:box.length≤1099511627)(h16:16≤box.length)(hE:Cx key (Ac 12) [] (cut box 0 (box.length-16))=cut box (box.length-16) 16):
  Ev prog (.call 54 [.agg (.a8 key),.agg (.a8 (Ac 12)),.c .nsl,.c (.bs box)] []) (.val (.tup [.c (.sl 0 0 (box.length-16) (box.length-16) 1),.c (.val (.bool true))]) [.row true (.a8 (Dt key (Ac 12) box))]):=by
 rw [vm]
 exact Ev.partsB (m:=[]) (m':=[.row false (.a8 []),.row false (.a8 box)]) (N:=[.row true (.a8 (Ny key (Ac 12) box))]) (N':=[.row true (.a8 (Ny key (Ac 12) box))]) [none,none] [1] (.no (.no .nil)) (.agg rfl (.agg rfl (.c .nil (.c (.same rfl) .nil)))) (.same (.same (.same (.bs rfl rfl .nil)))) rfl rfl (pg key (Ac 12) [] 0 0 box box.length box.length hkey (Bo 12) rfl D_ rfl hbn h16 (by rw [←kf,←ek];exact hE)) rfl rfl
theorem lX(key box:AA 8)(hkey:key.length=32)(hbn:box.length≤1099511627)(h16:16≤box.length)(hE:¬Cx key (Ac 12) [] (cut box 0 (box.length-16))=cut box (box.length-16) 16):
  Ev prog (.call 54 [.agg (.a8 key),.agg (.a8 (Ac 12)),.c .nsl,.c (.bs box)] []) (.val (.tup [.c .nsl,.c (.val (.bool false))]) []):=
 Ev.partsB (m:=[]) (m':=[.row false (.a8 []),.row false (.a8 box)]) (N:=[]) (N':=[]) [none,none] [1] (.no (.no .nil)) (.agg rfl (.agg rfl (.c .nil (.c (.same rfl) .nil)))) (.same (.same (.same (.bs rfl rfl .nil)))) rfl rfl (mM key (Ac 12) [] 0 0 box box.length box.length hkey (Bo 12) rfl D_ rfl hbn h16 (by rw [←kf,←ek];exact hE)) rfl rfl
theorem eO(key box:AA 8)(hkey:key.length=32)(hbn:box.length≤1099511627):Ev prog (.call 27 [BM key,.c (.bs box)] []) (.val (.tup [.c (.sl 0 0 (kJ key box).1.length (kJ key box).1.length 1),At (((kJ key box).2:Nat):Int)]) [.row true (.ab (kJ key box).1)]):=by
 unfold kJ TM
 by_cases h1:box.length<16∨65536<box.length-16
 ·rw [if_pos h1,if_neg D_]
  rcases (by omega:box.length<16∨65552<box.length) with h2 | h2
  ·refine AI func27 rfl ntmps27 rfl AM ?_
   refine BA ?_;refine FB ?_;refine DJ ?_;refine GF ?_;refine AX ?_;refine SN ?_;refine bB FR rfl ?_;refine HZ ?_;refine KP ?_;refine EU 4 1 (.ab []) rfl rfl AM rfl ?_;exact En
  ·refine AI func27 rfl ntmps27 rfl AM ?_
   refine BA ?_;refine FB ?_;refine DJ ?_;refine GF ?_;refine E9 ?_;refine Kf ?_;refine AB (II (b:=65552) rfl rfl) rfl ?_;refine Dm ?_;refine KP ?_;refine EU 4 1 (.ab []) rfl rfl AM rfl ?_;exact En
 rw [if_neg h1]
 have h16:16≤box.length:=by omega
 by_cases hE:Cx key (Ac 12) [] (cut box 0 (box.length-16))=cut box (box.length-16) 16
 ·rw [if_pos hE,if_pos rfl]
  have hO:=qp key box hkey hbn h16 hE
  have hl:(Dt key (Ac 12) box).length=box.length-16:=by
   unfold Dt
   rw [JB _ _ _ _ hkey (Bo 12),BV]
   omega
  have hS:=bk (Dt key (Ac 12) box) O_
  have h2:=mS (Dt key (Ac 12) box)
  generalize bd (Dt key (Ac 12) box)=r at*
  generalize Dt key (Ac 12) box=t at*
  have h65:box.length-16≤65536:=by omega
  obtain ⟨n,hn⟩:∃n,n=box.length-16:=⟨_,rfl⟩
  rw [←hn] at hO hl h65
  refine AI func27 rfl ntmps27 rfl AM ?_;refine BA ?_;refine FB ?_;refine DJ ?_;refine GF ?_;refine E9 ?_;refine Kf ?_;refine AB (II (b:=65552) rfl rfl) rfl ?_;refine Dm ?_;refine Fu ?_;refine bV ?_;refine AX ?_;refine Ae (hO) AED ?_;refine Ch ?_;refine Np ?_;refine Mh 6 rfl rfl hl AT ?_;refine A1 ?_;refine UA ?_;rcases h2 with ⟨y,rfl⟩ | rfl
  ·refine S_ ?_
   refine RT ?_;refine Ae (hS) rz ?_;refine Ch ?_;refine FB ?_;refine FN ?_;refine Ak ?_;exact He
  ·refine S_ ?_
   refine RT ?_;refine Ae (hS) rz ?_;refine Ch ?_;refine FB ?_;refine FN ?_;refine KP ?_;refine EU 4 1 (.ab []) rfl rfl AM rfl ?_;exact En
 ·rw [if_neg hE,if_neg D_]
  have hO:=lX key box hkey hbn h16 hE
  refine AI func27 rfl ntmps27 rfl AM ?_;refine BA ?_;refine FB ?_;refine DJ ?_;refine GF ?_;refine E9 ?_;refine Kf ?_;refine AB (II (b:=65552) rfl rfl) rfl ?_;refine Dm ?_;refine Fu ?_;refine bV ?_;refine AX ?_;refine Ae (hO) AED ?_;refine Ch ?_;refine FB ?_;refine FN ?_;refine KP ?_;refine EU 4 1 (.ab []) rfl rfl AM rfl ?_;exact En
theorem lY(u:AA 8)(hu:u.length=32):Ev prog (.call 57 [BM u] []) (.val (BM (Fv cj u)) []):=by
 have hk:(Fv cj u).length=32:=by rw [Rn];unfold mA;exact CI _
 have hM:=tV cj 3 3 u 32 32 rfl D_ hu D_
 generalize Fv cj u=q at*
 unfold cj at hM
 refine AI func57 rfl ntmps57 rfl AM ?_;refine BA ?_;refine It ?_;refine xa ?_;refine yS rfl underlying23 underlying5 rfl rfl D_ AM AT rfl ?_;refine O5 ?_;refine CQ (Ah (bs:=[3,0]) (hM) AIN K_ K_ rfl B4) AT rfl ?_;refine GH ?_;exact Ec
theorem Uj(k:r)(h:Hid r→g:=by intro h;refine Hl (ABc rfl rfl rfl underlying23 Bt (by (exact Bo _)) O_ D_ AT) rfl ?_;exact h.out):g:=h ⟨k⟩
theorem iE(key box:AA 8)(hkey:key.length=32)(hbn:box.length≤1099511627):Ev prog (.call 29 [BM key,.c (.bs box)] []) (.val (.tup [.c (.sl 0 0 (uL key box).1.length (uL key box).1.length 1),At (((uL key box).2:Nat):Int)]) [.row true (.ab (uL key box).1)]):=by
 unfold uL
 by_cases h48:box.length<48
 ·rw [if_pos h48]
  refine AI func29 rfl ntmps29 rfl AM ?_;refine BA ?_;refine FB ?_;refine DJ ?_;refine aX ?_;refine KP ?_;refine EU 4 1 (.ab []) rfl rfl AM rfl ?_;exact En
 rw [if_neg h48]
 have ht:(box.take 32).length=32:=by simp;omega
 have hd:(box.drop 32).length=box.length-32:=by simp
 have hL:=ACq key (box.take 32) hkey ht
 have hlu:=jj key (box.take 32)
 have hB:=lY (aB key (box.take 32)) hlu
 have hkl:=jV key (box.take 32)
 have hO:=eO (wl key (box.take 32)) (box.drop 32) hkl O_
 unfold wl at*
 generalize kJ (Fv cj (aB key (box.take 32))) (box.drop 32)=r at*
 generalize Fv cj (aB key (box.take 32))=q at*
 generalize aB key (box.take 32)=u at*
 refine AI func29 rfl ntmps29 rfl AM ?_;refine BA ?_;refine FB ?_;refine DJ ?_;refine aX ?_;refine AZ ?_;refine Dr ?_;refine Ar ?_;refine KI ?_;refine FI ?_;refine AW ?_;refine qB ?_;refine BJ ?_;refine Uj ?_;refine Fu ?_;refine GM ?_;refine Ae (hL) AI4 ?_;refine Gf ?_;refine Fu ?_;refine Wh ?_;refine AB (ir rfl rfl underlying37 underlying5 Bt B7 B7) rfl ?_;refine AR ?_;by_cases hz:u=Ac 32
 ·rw [if_pos hz]
  refine Q_ ?_;refine FJ rfl (decide_eq_true hz) ?_;refine Ab ?_;refine Np ?_;refine EU 4 1 (.ab []) rfl rfl AM rfl ?_;exact En
 ·rw [if_neg hz]
  refine Q_ ?_;refine Cg rfl (decide_eq_false hz) ?_;refine S_ ?_;refine Q9 ?_;refine Cn ?_;refine AO (hB) AJk ?_;refine AW ?_;refine Uv ?_;refine AO (hO) AEU ?_;refine Xh ?_;refine Xh ?_;refine I6 ?_;refine I7 ?_;exact UE
theorem qk(k:r)(h:Hid r→g:=by intro h;refine AH (E4 (b:=64) rfl rfl O_ O_) rfl ?_;exact h.out):g:=h ⟨k⟩
theorem pW(k:r)(h:Hid r→g:=by intro h;refine AH (A9 rfl rfl WL XQ B7 D_) rfl ?_;exact h.out):g:=h ⟨k⟩
theorem jp(pub sig:AA 8)(_hpn:pub.length≤1099511627)(hsn:sig.length≤65600):Ev prog (.call 31 [.c (.bs pub),.c (.bs sig)] []) (.val (.tup [.c (.sl 0 0 (ua pub sig).1.length (ua pub sig).1.length 1),At (((ua pub sig).2:Nat):Int)]) [.row true (.ab (ua pub sig).1)]):=by
 unfold ua
 by_cases h1:pub.length≠64
 ·rw [if_pos (.inl h1)]
  refine AI func31 rfl ntmps31 rfl AM ?_;refine Jh ?_;refine DJ ?_;refine QU ?_;refine AX ?_;refine SN ?_;refine bB FR rfl ?_;refine HZ ?_;refine KP ?_;refine EU 4 1 (.ab []) rfl rfl AM rfl ?_;exact En
 have h1':pub.length=64:=by omega
 by_cases h2:sig.length<64
 ·rw [if_pos (.inr h2)]
  refine AI func31 rfl ntmps31 rfl AM ?_;refine Jh ?_;refine DJ ?_;refine QU ?_;refine E9 ?_;refine Kf ?_;refine HM ?_;refine Dm ?_;refine KP ?_;refine EU 4 1 (.ab []) rfl rfl AM rfl ?_;exact En
 rw [if_neg O_]
 have hp:(pub.drop 32).length=32:=by simp;omega
 have hs:(sig.take 64).length=64:=by simp;omega
 have hd:(sig.drop 64).length=sig.length-64:=by simp
 have hV:=ABS (pub.drop 32) (sig.drop 64) (sig.take 64) hp hs O_
 have hS:=bk (sig.drop 64) O_
 have hR:=mS (sig.drop 64)
 generalize bd (sig.drop 64)=r at*
 generalize Zz (pub.drop 32) (sig.drop 64) (sig.take 64)=v at*
 cases v with
 |false=>
  rw [if_neg D_]
  refine AI func31 rfl ntmps31 rfl AM ?_;refine Jh ?_;refine DJ ?_;refine QU ?_;refine E9 ?_;refine Kf ?_;refine HM ?_;refine Dm ?_;refine AZ ?_;refine It ?_;refine F6 ?_;refine Ar ?_;refine KI ?_;refine FI ?_;refine AW ?_;refine Uv ?_;refine BJ ?_;refine Uj ?_;refine Ar ?_;refine KI ?_;refine bK ?_;refine AW ?_;refine cU ?_;refine BJ ?_;refine Uj ?_;refine Ar ?_;refine Hk ?_;refine AW ?_;refine AH (cK rfl underlying23 rfl) rfl ?_;refine qk ?_;refine AH (II (b:=65536) rfl rfl) rfl ?_;refine AW ?_;refine Jg FR ?_;refine Cn ?_;refine Jg FR ?_;refine AW ?_;refine Jg FR ?_;refine bE ?_;refine Jg FR ?_;refine pW ?_;refine Jg FR ?_;refine AO (hV) xX ?_;refine Jg FR ?_;refine Kp ?_;refine Sl ?_;refine BJ ?_;refine KP ?_;refine EU 4 1 (.ab []) rfl rfl AM rfl ?_;exact En
 |true=>
  rw [if_pos rfl]
  rcases hR with ⟨y,rfl⟩ | rfl
  ·refine AI func31 rfl ntmps31 rfl AM ?_
   refine Jh ?_;refine DJ ?_;refine QU ?_;refine E9 ?_;refine Kf ?_;refine HM ?_;refine Dm ?_;refine AZ ?_;refine It ?_;refine F6 ?_;refine Ar ?_;refine KI ?_;refine FI ?_;refine AW ?_;refine Uv ?_;refine BJ ?_;refine Uj ?_;refine Ar ?_;refine KI ?_;refine bK ?_;refine AW ?_;refine cU ?_;refine BJ ?_;refine Uj ?_;refine Ar ?_;refine Hk ?_;refine AW ?_;refine AH (cK rfl underlying23 rfl) rfl ?_;refine qk ?_;refine AH (II (b:=65536) rfl rfl) rfl ?_;refine AW ?_;refine Jg FR ?_;refine Cn ?_;refine Jg FR ?_;refine AW ?_;refine Jg FR ?_;refine bE ?_;refine Jg FR ?_;refine pW ?_;refine Jg FR ?_;refine AO (hV) xX ?_;refine Jg FR ?_;refine Kp ?_;refine Sl ?_;refine BJ ?_;refine Ak ?_;refine pK ?_;refine Ae (hS) rz ?_;refine Ch ?_;refine FB ?_;refine FN ?_;refine Ak ?_;exact He
  ·refine AI func31 rfl ntmps31 rfl AM ?_
   refine Jh ?_;refine DJ ?_;refine QU ?_;refine E9 ?_;refine Kf ?_;refine HM ?_;refine Dm ?_;refine AZ ?_;refine It ?_;refine F6 ?_;refine Ar ?_;refine KI ?_;refine FI ?_;refine AW ?_;refine Uv ?_;refine BJ ?_;refine Uj ?_;refine Ar ?_;refine KI ?_;refine bK ?_;refine AW ?_;refine cU ?_;refine BJ ?_;refine Uj ?_;refine Ar ?_;refine Hk ?_;refine AW ?_;refine AH (cK rfl underlying23 rfl) rfl ?_;refine qk ?_;refine AH (II (b:=65536) rfl rfl) rfl ?_;refine AW ?_;refine Jg FR ?_;refine Cn ?_;refine Jg FR ?_;refine AW ?_;refine Jg FR ?_;refine bE ?_;refine Jg FR ?_;refine pW ?_;refine Jg FR ?_;refine AO (hV) xX ?_;refine Jg FR ?_;refine Kp ?_;refine Sl ?_;refine BJ ?_;refine Ak ?_;refine pK ?_;refine Ae (hS) rz ?_;refine Ch ?_;refine FB ?_;refine FN ?_;refine KP ?_;refine EU 4 1 (.ab []) rfl rfl AM rfl ?_;exact En
def cP(r:List (AA 8)×Nat):Prop:=r.1.length≤65536∧ ∀x∈r.1,x.length≤65536
theorem AB6(l:List (AA 8)):l.length≤jl l∧ ∀x∈l,x.length≤jl l:=by
 induction l with
 |nil=>exact ⟨Nat.zero_le _,fun x hx=>by cases hx⟩
 |cons z y ih=>
  rw [WA,List.length_cons]
  refine ⟨by have:=ih.1;omega,fun x hx=>?_⟩
  rcases List.mem_cons.1 hx with rfl | hx
  ·omega
  ·have:=ih.2 x hx;omega
theorem Kl(e:Nat):cP ([],e):=⟨Nat.zero_le _,fun x hx=>by cases hx⟩
theorem ep(b:AA 8):cP (bd b):=by
 unfold bd
 split
 ·exact Kl 2
 ·cases h:gH b with
  |none=>exact Kl 2
  |some y=>
   obtain ⟨h1,h2⟩:=AJu h
   obtain ⟨h3,h4⟩:=AB6 y
   exact ⟨by show y.length≤_;omega,fun x hx=>by have:=h4 x hx;omega⟩
theorem fH(key b:AA 8):cP (kJ key b):=by
 unfold kJ
 split
 ·exact ep _
 ·exact Kl _
theorem ut(key b:AA 8):cP (uL key b):=by
 unfold uL
 split
 ·exact Kl _
 ·split
  ·exact Kl _
  ·exact fH _ _
theorem tW(pub b:AA 8):cP (ua pub b):=by
 unfold ua
 split
 ·exact Kl _
 ·split
  ·exact ep _
  ·exact Kl _
theorem dG(k:r)(h:Hid r→g:=by intro h;refine AB (II (b:=3000) rfl rfl) rfl ?_;exact h.out):g:=h ⟨k⟩
theorem uv(key pub b:AA 8)(hkey:key.length=32)(hp:pub.length≤9223372036854775807)(hb:b.length≤9223372036854775807):Ev prog (.call 6 [BM key,.c (.bs pub),.c (.bs b)] []) (.val (.c (.val (.bool true))) []):=by
 by_cases h1:3000<pub.length
 ·refine AI func6 rfl ntmps6 rfl AM ?_
  refine BA ?_;refine BF ?_;refine DJ ?_;refine dG ?_;refine AX ?_;refine SN ?_;refine bB FR rfl ?_;refine HZ ?_;refine B0 ?_;exact CF
 by_cases h2:3000<b.length
 ·refine AI func6 rfl ntmps6 rfl AM ?_
  refine BA ?_;refine BF ?_;refine DJ ?_;refine dG ?_;refine E9 ?_;refine Kf ?_;refine dG ?_;refine Dm ?_;refine B0 ?_;exact CF
 have hO:=YA key b hkey O_
 have hO2:=eO key b hkey O_
 have hU:=pB key b hkey O_
 have hU2:=iE key b hkey O_
 have hS:=mK pub b O_ O_
 have hS2:=jp pub b O_ O_
 have hW:=AA3
 have q1:=fH key b
 have q2:=ut key b
 have q3:=tW pub b
 generalize kJ key b=r1 at*
 generalize uL key b=r2 at*
 generalize ua pub b=r3 at*
 obtain ⟨l1,e1⟩:=r1
 obtain ⟨l2,e2⟩:=r2
 obtain ⟨l3,e3⟩:=r3
 have k1:=im l1 l1.length l1.length l1.length rfl (by have:=q1.1;dsimp only at this;omega) (fun x h=>by have:=q1.2 x h;omega)
 have k2:=im l2 l2.length l2.length l2.length rfl (by have:=q2.1;dsimp only at this;omega) (fun x h=>by have:=q2.2 x h;omega)
 have k3:=im l3 l3.length l3.length l3.length rfl (by have:=q3.1;dsimp only at this;omega) (fun x h=>by have:=q3.2 x h;omega)
 clear q1 q2 q3
 dsimp only at hO hO2 hU hU2 hS hS2
 obtain ⟨n1,hn1⟩:∃n,n=l1.length:=⟨_,rfl⟩
 obtain ⟨n2,hn2⟩:∃n,n=l2.length:=⟨_,rfl⟩
 obtain ⟨n3,hn3⟩:∃n,n=l3.length:=⟨_,rfl⟩
 rw [←hn1] at hO hO2 k1
 rw [←hn2] at hU hU2 k2
 rw [←hn3] at hS hS2 k3
 refine AI func6 rfl ntmps6 rfl AM ?_;refine BA ?_;refine BF ?_;refine DJ ?_;refine dG ?_;refine E9 ?_;refine Kf ?_;refine dG ?_;refine Dm ?_;refine Fu ?_;refine AX ?_;refine Ae (hO) zv ?_;refine Ch ?_;refine MA ?_;refine GM ?_;refine AX ?_;refine Ae (hO2) AEU ?_;refine Ir ?_;refine Be ?_;refine CQ (Ah (bs:=[1,2]) (k1) AAs K_ K_ rfl B4) AT rfl ?_;refine FN ?_;refine E9 ?_;refine YN ?_;refine AB (Ko rfl rfl) rfl ?_;refine Dm ?_;refine Fu ?_;refine AX ?_;refine Ae (hU) AJr ?_;refine Ch ?_;refine MA ?_;refine GM ?_;refine AX ?_;refine Ae (hU2) AId ?_;refine Ir ?_;refine Be ?_;refine CQ (Ah (bs:=[3,4]) (k2) AAs K_ K_ rfl B4) AT rfl ?_;refine FN ?_;refine E9 ?_;refine YN ?_;refine AB (Ko rfl rfl) rfl ?_;refine Dm ?_;refine GW ?_;refine Ae (hS) AJA ?_;refine Ir ?_;refine Be ?_;refine Ae (hS2) AIa ?_;refine Ir ?_;refine Be ?_;refine CQ (Ah (bs:=[5,6]) (k3) AAs K_ K_ rfl B4) AT rfl ?_;refine E9 ?_;refine YN ?_;refine AB (DC rfl rfl) rfl ?_;refine HZ ?_;refine YN ?_;refine Ae (hW) AIO ?_;refine HZ ?_;refine Al ?_;exact CF
theorem ABa(key:AA 8)(hkey:key.length=32)(pub:AA 8)(hp:pub.length≤9223372036854775807)(b:AA 8)(hb:b.length≤9223372036854775807):Ev prog (.call 6 [BM key,.c (.bs pub),.c (.bs b)] []) (.val (.c (.val (.bool true))) []):=uv key pub b hkey hp hb
theorem AAU(b o j:Nat):(⟨b,o,none⟩:Addr).add j=⟨b,o+j,none⟩:=Addr.add_mid b o j
end Go.Proofs.YtmbepikkgkcgkaaGreatDoor
namespace Go.Proofs.YtmbepikkgkcgkaaGreatDoor
open Go.ChangeShapes Go.WideShapes Go.ChangeAt Go.RowKit
variable {g r : Prop}
open Go.Proofs.Tryz
theorem yH{n:Int}(h:(Lit.int .u8 n).wf=true):(.int .u8 n:Value)=U8 (BitVec.ofInt 8 n):=by
 simp only [Lit.wf,Bool.and_eq_true,decide_eq_true_eq] at h
 have h1:(0:Int)≤n:=h.1
 have h2:n≤255:=h.2
 show Value.int .u8 n=Value.int .u8 (tn (BitVec.ofInt 8 n))
 congr 1
 unfold tn
 rw [BitVec.toNat_ofInt]
 omega
def byteOf:Value→BitVec 8
 |.int _ n=>BitVec.ofInt 8 n
 |_=>0
section
variable {H:Type} {enc:TypeId×Value→H} {P:Program} {w:World} {base:Nat} {spare:Nat→Bool} {held:Bool}
theorem gy{r:Reach}{b0:Nat}{t e:TypeId}{n:Nat}{v:Value}(ht:P.underlying t=some (.array n e))(h:Value.okWide P w r b0 t v):∃cs,v= .agg cs∧cs.size=P.cellsOf t:=by
 simp only [Value.okWide,ht] at h
 obtain ⟨cs,h1,h2,_⟩:=h
 exact ⟨cs,h1,h2⟩
theorem AE0{r:Reach}{b0:Nat}{t e:TypeId}{n:Nat}{v:Value}{d:DataW H}{ps:List MemPlace}(ht:P.underlying t=some (.array n e))(he:P.underlying e=some (.int .u8))(hc:P.cellsOf e=1)(hct:P.cellsOf t=n)
  (hval:Value.okWide P w r b0 t v) (hd:DataW.Trod enc P w base spare held t v d ps):∃l:AA 8,v= .agg (cells U8 l)∧l.length=n:=by
 obtain ⟨cs,rfl,hs⟩:=gy ht hval
 obtain ⟨fuel,hf⟩:=hd
 obtain ⟨xs,m,_,_,_,hx,hi⟩:=DataW.trod_array ht hf
 refine ⟨cs.toList.map byteOf,?_,by simp [hs,hct]⟩
 congr 1
 apply Array.ext
 ·simp [cells]
 ·intro i h1 h2
  have hin:i<n:=by omega
  have h:=hi i hin
  rw [List.getElem?_eq_getElem O_] at h
  obtain ⟨z,hz,_,hw⟩:=DataW.trod_int he h
  have hv:cs[i]= .int .u8 z:=by
   rw [hc,Nat.mul_one] at hz
   have:((cs.toList.drop i).take 1)[0]?=some (.int .u8 z):=by
    have hz':((cs.toList.drop i).take 1)=[.int .u8 z]:=hz
    rw [hz'];rfl
   simp [List.getElem?_drop] at this
   have h3:=Array.getElem?_eq_some_iff.1 this
   exact h3.2
  simp only [cells,List.getElem_toArray,List.getElem_map,Array.getElem_toList]
  rw [hv]
  exact yH hw
end
def SlR(w:World)(v:Value)(l:AA 8):Prop:=
 ∃a cap,v= .slice a l.length cap∧l.length≤cap∧cap≤maxLen∧(cap=0∨ ∃b off cs t fr,a=some ⟨b,off,none⟩∧w.heap[b]?=some (.cells cs t fr)∧0<cs.size∧ ∀i,i<l.length→cs[off+i]?=some (U8 (nth l i)))
section
variable {H:Type} {enc:TypeId×Value→H} {P:Program} {w:World} {base:Nat} {held:Bool}
theorem AIy{r:Reach}{b0:Nat}{t e:TypeId}{v:Value}{d:DataW H}{ps:List MemPlace}(ht:P.underlying t=some (.slice e))(he:P.underlying e=some (.int .u8))(hc:P.cellsOf e=1)
  (hval:Value.okWide P w r b0 t v) (hd:DataW.Trod enc P w base (fun _=>true) held t v d ps):∃l:AA 8,SlR w v l:=by
 obtain ⟨a0,len0,cap0,rfl⟩:=okWide_slice ht hval
 obtain ⟨fuel,hf⟩:=hd
 rcases open_ints ht he hc hf with ⟨hcs,_⟩ | ⟨x,len,c,zs,hcs,_,hl,hm,hz,_,hcell,hwz⟩
 ·simp [Value.cells] at hcs
  obtain ⟨rfl,rfl,rfl⟩:=hcs
  exact ⟨[],none,0,rfl,Nat.le_refl _,by unfold maxLen;omega,.inl rfl⟩
 ·simp [Value.cells] at hcs
  obtain ⟨rfl,rfl,rfl⟩:=hcs
  rw [if_pos rfl] at hz
  have hlen:((zs.take len0).map (BitVec.ofInt 8)).length=len0:=by simp;omega
  refine ⟨(zs.take len0).map (BitVec.ofInt 8),some x,cap0,by rw [hlen],by rw [hlen];exact hl,hm,?_⟩
  rcases Nat.eq_zero_or_pos cap0 with h0 | h0
  ·exact .inl h0
  ·right
   obtain ⟨b,off,spot⟩:=x
   have hspot:spot=none:=by
    have h1:=hcell 0 O_
    simpa [Addr.add] using World.cell?_spot h1
   subst hspot
   have at_:∀i,i<cap0→w.cell? ⟨b,off+i,none⟩=some (.int .u8 (zs.getD i 0)):=fun i hi=>by
    have h1:=hcell i O_
    rwa [show (⟨b,off,none⟩:Addr).add i=⟨b,off+i,none⟩ from AAU b off i] at h1
   have h1:=at_ 0 h0
   unfold World.cell? at h1
   split at h1
   ·rename_i cs t fr hh
    refine ⟨b,off,cs,t,fr,rfl,hh,?_,fun i hi=>?_⟩
    ·have h3:cs[off+0]?=_:=h1
     have:=(Array.getElem?_eq_some_iff.1 h3).1
     omega
    rw [hlen] at hi
    have h2:=at_ i O_
    unfold World.cell? at h2
    simp only [hh] at h2
    rw [show cs[off+i]?=some (.int .u8 (zs.getD i 0)) by simpa using h2,yH (hwz _ (by rw [List.getD_eq_getElem?_getD,List.getElem?_eq_getElem O_];exact List.getElem_mem _))]
    congr 2
    rw [Qp _ _ (by rw [hlen];exact hi)]
    have hi2:i<zs.length:=by omega
    simp [hi2]
   ·cases h1
end
def AEJ(sz:Nat):Value→Option Loc
 |.slice (some a) _ cap=>if cap=0 then none else some ⟨a.block,a.off,cap*sz⟩
 |_=>none
def xU(w:World):Nat→Nat→Value→Prop:=fun c o v=> ∃cs t fr,w.heap[c]?=some (.cells cs t fr)∧cs[o]?=some v
def ALD(w:World)(sz:Nat)(v:Value)(x:Arr):Prop:=x.isMap=false∧ ∃a len cap,v= .slice a len cap∧len≤cap∧x.size=len*sz∧(cap=0∨ ∃b off cs t fr,a=some ⟨b,off,none⟩∧w.heap[b]?=some (.cells cs t fr)∧ ∀i,i<x.size→ ∃u,cs[off+i]?=some u∧ ∀ι:Emb,ι.tx=xU w→(x.get i).rel ι u)
theorem SlR.stay{w:World}{v:Value}{l:AA 8}(h:SlR w v l){ι:Emb}(hι:ι.tx=xU w):(AV.c (.bs l)).rel ι v:=by
 obtain ⟨a,cap,rfl,h1,_,h2⟩:=h
 refine ⟨a,cap,rfl,h1,h2.imp id ?_⟩
 rintro ⟨b,off,cs,t,fr,rfl,hh,h0,hc⟩
 exact ⟨b,off,rfl,⟨0,cs[0],by rw [hι];exact ⟨cs,t,fr,hh,by simp [h0]⟩⟩,fun i hi=>by rw [hι];exact ⟨cs,t,fr,hh,hc i hi⟩⟩
def ZH(w:World)(us:List (Value×Nat×Arr)):Emb:=⟨fun i=>(us[i]?).bind fun p=>AEJ p.2.1 p.1,xU w⟩
def Tu(us:List (Value×Nat×Arr)):Az:=us.map fun p=> .row false p.2.2
theorem ALP{us:List (Value×Nat×Arr)}{w:World}(hb:∀c Φ,Zd c=some Φ→ ∃ob,w.heap[c]?=some ob∧Φ ob)(h:∀p∈us,ALD w p.2.1 p.1 p.2.2):R (ZH w us) (Tu us) w:=by
 have row:∀ {b:Nat} {own:Bool} {x:Arr},(Tu us)[b]?=some (.row own x)→ ∃p,us[b]?=some p∧own=false∧x=p.2.2:=fun {b own x} hb=>by
  unfold Tu at hb
  rw [List.getElem?_map] at hb
  obtain ⟨p,hp,e⟩:=Option.map_eq_some_iff.1 hb
  cases e
  exact ⟨p,hp,rfl,rfl⟩
 refine ⟨fun b hb=>?_,fun b l own x h1 h2=>?_,fun b b' l l' own own' x x' _ _ _ k1 k2 ho=>?_,fun c Φ hc=>⟨?_,fun b l x _ k=>?_⟩⟩
 ·unfold ZH
  dsimp only
  rw [List.getElem?_eq_none (by simpa [Tu] using hb)];rfl
 ·obtain ⟨p,hp,rfl,rfl⟩:=row h2
  obtain ⟨hmp,a,len,cap,hv,hl,hsz,hs⟩:=h p (List.mem_of_getElem? hp)
  unfold ZH at h1
  dsimp only at h1
  rw [hp] at h1
  simp only [Option.bind_some,hv] at h1
  cases a with
  |none=>cases h1
  |some a=>
   simp only [AEJ] at h1
   split at h1
   ·cases h1
   ·rename_i hc
    cases h1
    rcases hs with hs | ⟨b1,off,cs,t,fr,ha,hh,hcell⟩
    ·exact absurd hs hc
    ·cases ha
     refine .of hmp ⟨cs,t,fr,hh,by rw [hsz];exact Nat.mul_le_mul_right _ hl,fun i hi=>?_,fun h=>by cases h⟩
     obtain ⟨u,e1,e2⟩:=hcell i hi
     exact ⟨u,e1,e2 _ rfl⟩
 ·obtain ⟨_,_,rfl,_⟩:=row k1
  obtain ⟨_,_,rfl,_⟩:=row k2
  rcases ho with h | h<;>cases h
 ·cases hc with
  |tx k=>obtain ⟨cs,t,fr,h1,h2⟩:=k;exact ⟨_,h1,cs,t,fr,rfl,h2⟩
  |base k=>exact hb _ _ k
 ·obtain ⟨_,_,e,_⟩:=row k
  cases e
theorem AHv(ι:Emb)(l:AA 8):(AV.agg (.a8 l)).rel ι (.agg (cells U8 l)):=by
 refine ⟨cells U8 l,rfl,by simp [cells,Arr.size],fun i hi=>⟨U8 (nth l i),?_,rfl⟩⟩
 have hi':i<l.length:=hi
 rw [Nat.zero_add,Qp l i hi']
 simp [cells,hi']
theorem AHm{P:Program}{f:FuncId}{args:List AV}{m m':Az}{ι:Emb}{w:World}{vs:Array Value}(h:Ev P (.call f args m) (.val (.c (.val (.bool true))) m'))(hR:R ι m w)(ha:DP ι args vs.toList)(hro:∀c,¬Dv ι m c):
  Calls P f vs w fun e w'=>e= .returned (.bool true)∧Below w.heap.size w w':=by
 refine (sound h ι w vs hR ha).mono fun e w' hq=>?_
 obtain ⟨u,ι',rfl,hv,hs⟩:=hq
 have hu:u= .bool true:=hv
 subst hu
 exact ⟨rfl,hs.trans.os,hs.trans.tape,hs.trans.output,hs.trans.size,fun c hc=>hs.trans.keep c hc (hro c)⟩
theorem AHk{us:List (Value×Nat×Arr)}{w:World}{c:Nat}:¬Dv (ZH w us) (Tu us) c:=by
 rintro ⟨b,l,x,_,h,_⟩
 unfold Tu at h
 rw [List.getElem?_map] at h
 obtain ⟨p,_,e⟩:=Option.map_eq_some_iff.1 h
 cases e
section
variable {H:Type} {enc:TypeId×Value→H} {P:Program} {w:World} {base:Nat} {held:Bool}
end
def ADS:List (String×DataW Unit):=[("math/bits.deBruijn32tab",Rows.laid_math_bits_deBruijn32tab),("math/bits.deBruijn64tab",Rows.laid_math_bits_deBruijn64tab),("internal/strconv.uint64pow10",Rows.laid_internal_strconv_uint64pow10)]
theorem AKW:prog.globalNamed "internal/strconv.uint64pow10" =some 0:=by kernel_rfl
theorem ALo:(prog.globals[0]?).map (·.type)=some 222:=by kernel_rfl
theorem ALn:prog.underlying 222=some (.array 20 70):=by kernel_rfl
theorem AGX:prog.underlying 70=some (.int .u64):=by kernel_rfl
theorem AIk(os:Os)(args:Array Value):laidMetH prog ADS ((World.doorLaid prog 400 os).forCall (fun _ _=>0) ⟨#[],args,[]⟩).memory:=
 laidMetH_of_parts3 (fuel:=8) (laidMet_of_run' 8 K_ K_) K_ K_
theorem base_of{W:World}(h:laidMetH prog ADS W):∀c Φ,Zd c=some Φ→ ∃ob,W.heap[c]?=some ob∧Φ ob:=by
 rw [MakeChecks.laidMetH_plain _ _ _ K_] at h
 obtain ⟨ps,⟨g0,t0,cs0,f0,p0,q0,hg0,ht0,hv0,hd0,⟨g1,t1,cs1,f1,p1,q1,hg1,ht1,hv1,hd1,⟨g2,t2,cs2,f2,p2,q2,hg2,ht2,hv2,hd2,_⟩,_⟩,_⟩,_,_⟩:=h
 obtain rfl:=Option.some.inj (AKW.symm.trans hg2)
 obtain rfl:=Option.some.inj (ALo.symm.trans ht2)
 have hd:DataW.trod _ prog _ _ _ _ f2 222 cs2.toList=some (Lib.tabData .u64 Lib.pow10Tab,p2):=hd2
 have hcs:=Lib.cells_of_tab ALn AGX K_ K_ hd
 intro c Φ hc
 unfold Zd at hc
 split at hc
 ·rename_i h0
  subst h0
  cases hc
  simp only [World.var?,AKW,Option.bind_some] at hv2
  split at hv2
  ·rename_i cs t fr hh
   cases hv2
   exact ⟨_,hh,t,fr,by rw [←hcs]⟩
  ·cases hv2
 ·cases hc
end Go.Proofs.YtmbepikkgkcgkaaGreatDoor
