/- Merged and shortened by a program: part 6. -/
import Derived.Test.YtmbepikkgkcgkaaGreatDoorUR5
set_option maxRecDepth 100000
set_option maxHeartbeats 8000000
namespace Go.Proofs.YtmbepikkgkcgkaaGreatDoor
open Go.RowKit
variable {g r : Prop}
open Go.Proofs.Tryz
section
variable {P:Program} {ops:Array Oper} {l:List Oper} {N d:Nat} {T:Nat→AV} {M M':Az} {K:St→Prop} {ty:TypeId} {pos:String} {af:Array Edge}
theorem AIE{op:Op}{v:AV}(h:Ev P (.op op (AF T) (Bv M)) (.val v (Bv M)))(hd:decide (d<N)=true)(hk:HO P ops l ⟨N,upd T d v,M⟩ K):HO P ops (⟨some d,op,ty,pos,af,none⟩::l) ⟨N,T,M⟩ K:=
 Hw (news:=[]) (by rw [List.append_nil];exact h) (List.append_nil _) hd hk
end
def Rl(x:Nat)(X1:AA 8)(j3:Nat):AA 8:=X1++[((BitVec.ofNat 64 x)>>>(8*j3)).setWidth 8]
def GO(x:Nat):Nat→AA 8
 |0=>[]
 |j3+1=>Rl x (GO x j3) j3
@[simp] theorem Ok(x j3:Nat):(GO x j3).length=j3:=by
 induction j3 with
 |zero=>(simp [GO, *];done)
 |succ j3 ih=>rw [GO.eq_2,Rl];(simp [ih];done)
def JA(x:Nat):AA 8:=(GO x 4)
abbrev BP(x:List (BitVec 8)):Row:= .row true (.a8 x)
theorem IU(k:r)(h:Hid r→g:=by intro h;refine AB (A8 (b:=4) rfl rfl) rfl ?_;exact h.out):g:=h ⟨k⟩
theorem Yr(k:r)(h:Hid r→g:=by intro h;refine AB (F9 rfl underlying3 underlying70 (AA6 _)) rfl ?_;exact h.out):g:=h ⟨k⟩
theorem KN(k:r)(h:Hid r→g:=by intro h;refine AB (S8 (a:=8) rfl rfl O_) rfl ?_;exact h.out):g:=h ⟨k⟩
theorem YR(k:r)(h:Hid r→g:=by intro h;refine AB (CW rfl rfl) rfl ?_;exact h.out):g:=h ⟨k⟩
theorem RS(k:r)(h:Hid r→g:=by intro h;refine AB (F9 rfl underlying70 underlying5 (ABP _)) rfl ?_;exact h.out):g:=h ⟨k⟩
theorem Yp(k:r)(h:Hid r→g:=by intro h;refine Ap (fN (l:=[_]) underlying23 KM rfl rfl D_ D_ AM) AT rfl ?_;exact h.out):g:=h ⟨k⟩
theorem DD(k:r)(h:Hid r→g:=by intro h;refine AEs rfl rfl rfl rfl underlying23 underlying23 KM Iz Iz O_ AM AT rfl ?_;exact h.out):g:=h ⟨k⟩
theorem Nl(k:r)(h:Hid r→g:=by intro h;refine AB (B8 (b:=1) rfl rfl O_) rfl ?_;refine AB (Ao rfl) rfl ?_;refine AR ?_;exact h.out):g:=h ⟨k⟩
theorem PO(k:r)(h:Hid r→g:=by intro h;refine AB (A8 (a:=4) (b:=4) rfl rfl) rfl ?_;exact h.out):g:=h ⟨k⟩
theorem Eg(k:r)(h:Hid r→g:=by intro h;refine AR ?_;refine S_ ?_;refine A2 ?_;refine AB (Ao rfl) rfl ?_;refine AB (A6 rfl) rfl ?_;refine AR ?_;refine S_ ?_;exact h.out):g:=h ⟨k⟩
theorem uF(x:Nat)(_hx:x≤9223372036854775807):Ev prog (.call 35 [At ((x:Nat):Int),At ((4:Nat):Int)] []) (.val (.c (.sl 0 0 4 4 1)) [BP (JA x)]):=by
 have hP:=Hid.mk (JA.eq_1 x)
 refine AI func35 rfl ntmps35 rfl AM ?_;refine P3 ?_;refine Be ?_;refine Ar ?_;refine EU 5 1 (.a8 ([])) rfl rfl AM rfl ?_;refine S_ ?_;refine AK [0,5,7,8] (fun (zz:Nat×AA 8)=>⟨22,AU [0,5,7,8] [At (((x:Nat):Int)),.c (.sl 0 0 zz.1 zz.1 1),At (((4:Nat):Int)),At (((zz.1:Nat):Int))],[BP (zz.2)]⟩) (fun j3=>(j3,GO x j3)) (4) K_ ?_ ?_
 ·intro j3 hj3
  try dsimp only
  have hX1:(GO x j3).length=j3:=by rw [Ok x _];try omega
  rw [GO.eq_2,Rl]
  generalize GO x j3=X1 at*
  refine Ab ?_;refine IU ?_;refine Ak ?_;refine Be ?_;refine Yr ?_;refine AX ?_;refine KN ?_;refine YR ?_;refine RS ?_;refine Yp ?_;refine DD ?_;refine Ai ?_;refine Nl ?_;exact ⟨(j3+1,_),K_,rfl⟩
 ·try dsimp only
  have hY2:(GO x 4).length=4:=by rw [Ok x _];try omega
  generalize GO x 4=Y2 at*
  refine Ab ?_;refine PO ?_;refine Eg ?_;rw [hP.out]
  exact CF
@[simp] theorem Ux(x:Nat):(JA x).length=4:=by
 unfold JA
 (simp [Ok, *];done)
attribute [irreducible] JA
def SQ(x:Nat)(X1:AA 8)(j3:Nat):AA 8:=X1++[((BitVec.ofNat 64 x)>>>(8*j3)).setWidth 8]
def GJ(x:Nat):Nat→AA 8
 |0=>[]
 |j3+1=>SQ x (GJ x j3) j3
@[simp] theorem Od(x j3:Nat):(GJ x j3).length=j3:=by
 induction j3 with
 |zero=>(simp [GJ, *];done)
 |succ j3 ih=>rw [GJ.eq_2,SQ];(simp [ih];done)
def HL(x:Nat):AA 8:=(GJ x 8)
theorem Rc(k:r)(h:Hid r→g:=by intro h;refine AB (A8 (b:=8) rfl rfl) rfl ?_;exact h.out):g:=h ⟨k⟩
theorem Ub(k:r)(h:Hid r→g:=by intro h;refine AB (A8 (a:=8) (b:=8) rfl rfl) rfl ?_;exact h.out):g:=h ⟨k⟩
theorem YF(x:Nat)(_hx:x≤9223372036854775807):Ev prog (.call 35 [At ((x:Nat):Int),At ((8:Nat):Int)] []) (.val (.c (.sl 0 0 8 8 1)) [BP (HL x)]):=by
 have hP:=Hid.mk (HL.eq_1 x)
 refine AI func35 rfl ntmps35 rfl AM ?_;refine P3 ?_;refine Be ?_;refine Ar ?_;refine EU 5 1 (.a8 ([])) rfl rfl AM rfl ?_;refine S_ ?_;refine AK [0,5,7,8] (fun (zz:Nat×AA 8)=>⟨22,AU [0,5,7,8] [At (((x:Nat):Int)),.c (.sl 0 0 zz.1 zz.1 1),At (((8:Nat):Int)),At (((zz.1:Nat):Int))],[BP (zz.2)]⟩) (fun j3=>(j3,GJ x j3)) (8) K_ ?_ ?_
 ·intro j3 hj3
  try dsimp only
  have hX1:(GJ x j3).length=j3:=by rw [Od x _];try omega
  rw [GJ.eq_2,SQ]
  generalize GJ x j3=X1 at*
  refine Ab ?_;refine Rc ?_;refine Ak ?_;refine Be ?_;refine Yr ?_;refine AX ?_;refine KN ?_;refine YR ?_;refine RS ?_;refine Yp ?_;refine DD ?_;refine Ai ?_;refine Nl ?_;exact ⟨(j3+1,_),K_,rfl⟩
 ·try dsimp only
  have hY2:(GJ x 8).length=8:=by rw [Od x _];try omega
  generalize GJ x 8=Y2 at*
  refine Ab ?_;refine Ub ?_;refine Eg ?_;rw [hP.out]
  exact CF
@[simp] theorem Un(x:Nat):(HL x).length=8:=by
 unfold HL
 (simp [Od, *];done)
attribute [irreducible] HL
def VU(l:List (AA 8)):Nat→Nat
 |0=>0
 |j+1=>VU l j+(4+(O6 l j).length)
def nO(l:List (AA 8)):Nat→AA 8
 |0=>[]
 |j+1=>(nO l j++JA (O6 l j).length)++O6 l j
@[simp] theorem gf(l:List (AA 8))(j:Nat):(nO l j).length=VU l j:=by
 induction j with
 |zero=>rfl
 |succ j ih=>simp only [nO,VU,List.length_append,Ux,ih];omega
theorem ck (l : List (AA 8)) {i j : Nat} (h : i ≤ j) : VU l i ≤ VU l j := by
  induction j with
  | zero => obtain rfl : i = 0 := by omega
            exact Nat.le_refl _
  | succ j ih =>
    rcases Nat.lt_or_ge j i with h1 | h1
    · obtain rfl : i = j + 1 := by omega
      exact Nat.le_refl _
    · have := ih h1
      rw [VU.eq_2]; omega
def jn(l:List (AA 8)):AA 8:=nO l l.length
def jl(l:List (AA 8)):Nat:=VU l l.length
theorem Xw(l:List (AA 8)):(jn l).length=jl l:=gf l _
theorem MA(k:r)(h:Hid r→g:=by intro h;refine AB (A6 rfl) rfl ?_;refine AB (A6 rfl) rfl ?_;refine AR ?_;refine S_ ?_;refine A2 ?_;exact h.out):g:=h ⟨k⟩
theorem Yj(k:r)(h:Hid r→g:=by intro h;refine AB (Oc rfl underlying22) rfl ?_;exact h.out):g:=h ⟨k⟩
theorem lJ(k:r)(h:Hid r→g:=by intro h;refine AB (F1 rfl rfl underlying22 WE O_) rfl ?_;exact h.out):g:=h ⟨k⟩
theorem lD(k:r)(h:Hid r→g:=by intro h;refine AB (iR rfl rfl kC EO) rfl ?_;exact h.out):g:=h ⟨k⟩
theorem DJ(k:r)(h:Hid r→g:=by intro h;refine AB (cK rfl underlying23 rfl) rfl ?_;exact h.out):g:=h ⟨k⟩
theorem Wc(k:r)(h:Hid r→g:=by intro h;refine AB (B8 (a:=4) rfl rfl O_) rfl ?_;exact h.out):g:=h ⟨k⟩
theorem Rb(k:r)(h:Hid r→g:=by intro h;refine AB (B8 rfl rfl O_) rfl ?_;exact h.out):g:=h ⟨k⟩
theorem JE(k:r)(h:Hid r→g:=by intro h;refine AB (II (b:=65536) rfl rfl) rfl ?_;exact h.out):g:=h ⟨k⟩
theorem vY(l:List (AA 8))(n cap:Nat)(hl:l.length=n)(hn:n≤1099511627776)(hs:jl l≤65536):Ev prog (.call 11 [.c (.sl 0 0 n cap 1)] [.row false (.ab l)]) (.val (.tup [.c (.bs (jn l)),At ((0:Nat):Int)]) [.row false (.ab l)]):=by
 have hP:Hid (jn l=nO l n):=⟨by rw [jn,hl]⟩
 have hs:VU l n≤65536:=by rw [jl,hl] at hs;exact hs
 have hl:l.length=n:=hl
 refine AI func11 rfl ntmps11 rfl AM ?_;refine Ab ?_;refine MA ?_;refine BF ?_;refine Yj ?_;refine V5 ?_;refine AK [0,4,10,11,12] (fun (zz:Nat×Nat)=>⟨39,AU [0,4,10,11,12] [.c (.sl 0 0 n cap 1),At (((zz.2:Nat):Int)),.c (.sl 0 0 n cap 1),At (((n:Nat):Int)),At (((zz.1:Nat):Int))],[.row false (.ab l)]⟩) (fun j=>(j,VU l j)) (n) K_ ?_ ?_
 ·intro j hj
  have h1:VU l (j+1)≤65536:=Nat.le_trans (ck l hj) hs
  try dsimp only
  rw [VU.eq_2] at*
  generalize VU l j=X at*
  refine U7 ?_;refine lJ ?_;refine lD ?_;refine Be ?_;refine DJ ?_;refine Wc ?_;refine Rb ?_;refine BF ?_;refine JE ?_;refine Cj ?_;exact ⟨(j+1,_),K_,rfl⟩
 ·try dsimp only
  refine U7 ?_;refine BF ?_;refine Yj ?_;refine V5 ?_;refine EU 7 1 (.a8 []) rfl rfl AM rfl ?_;refine S_ ?_;refine AK [7,24,25,26] (fun (zz:Nat×Nat×AA 8)=>⟨39,AU [7,24,25,26] [.c (.sl 1 0 zz.2.1 zz.2.1 1),.c (.sl 0 0 n cap 1),At (((n:Nat):Int)),At (((zz.1:Nat):Int))],[.row false (.ab l),BP (zz.2.2)]⟩) (fun j=>(j,VU l j,nO l j)) (n) K_ ?_ ?_
  ·intro j hj
   have h1:VU l (j+1)≤65536:=Nat.le_trans (ck l hj) hs
   have hX:(nO l j).length=VU l j:=gf l j
   try dsimp only
   rw [VU.eq_2] at*
   rw [nO.eq_2]
   generalize VU l j=Y at*
   generalize nO l j=X at*
   refine U7 ?_;refine lJ ?_;refine lD ?_;refine BZ ?_;have h2:(X++JA (O6 l j).length).length=Y+4:=by simp [hX]
   refine CK ?_;refine DJ ?_;refine Li (uF (O6 l j).length O_) st ?_;refine DD ?_;refine AX ?_;refine AFV rfl rfl rfl underlying23 underlying23 KM Iz Iz O_ AM AT rfl ?_;refine Ai ?_;refine Nl ?_;rw [show Y+(4+(O6 l j).length)=Y+4+(O6 l j).length by omega]
   exact ⟨(j+1,_,_),K_,rfl⟩
  ·try dsimp only
   have hX:(nO l n).length=VU l n:=gf l n
   rw [hP.out]
   generalize VU l n=Y at*
   generalize nO l n=X at*
   refine Vx ?_;refine Ar ?_;refine Mh 7 rfl rfl hX rfl ?_;refine A1 ?_;exact He
theorem tp(l:List (AA 8))(n:Nat)(h:65536<VU l n):∃q,q<n∧VU l q≤65536∧65536<VU l (q+1):=by
 induction n with
 |zero=>simp [VU] at h
 |succ n ih=>
  by_cases h1:65536<VU l n
  ·obtain ⟨q,h2,h3⟩:=ih h1
   exact ⟨q,by omega,h3⟩
  ·exact ⟨n,by omega,by omega,h⟩
theorem pA(l:List (AA 8))(n cap:Nat)(hl:l.length=n)(hn:n≤1099511627776)(hb:∀j,(O6 l j).length≤1099511627776)(hs:65536<jl l):Ev prog (.call 11 [.c (.sl 0 0 n cap 1)] [.row false (.ab l)]) (.val (.tup [.c (.bs []),At ((2:Nat):Int)]) [.row false (.ab l)]):=by
 have hs:65536<VU l n:=by rw [jl,hl] at hs;exact hs
 obtain ⟨q,hq,h1,h2⟩:=tp l n hs
 refine AI func11 rfl ntmps11 rfl AM ?_;refine Ab ?_;refine MA ?_;refine BF ?_;refine Yj ?_;refine V5 ?_;refine AK [0,4,10,11,12] (fun (zz:Nat×Nat)=>⟨39,AU [0,4,10,11,12] [.c (.sl 0 0 n cap 1),At (((zz.2:Nat):Int)),.c (.sl 0 0 n cap 1),At (((n:Nat):Int)),At (((zz.1:Nat):Int))],[.row false (.ab l)]⟩) (fun j=>(j,VU l j)) (q) K_ ?_ ?_
 ·intro j hj
  have h3:VU l (j+1)≤65536:=Nat.le_trans (ck l hj) h1
  clear h2
  try dsimp only
  rw [VU.eq_2] at*
  generalize VU l j=X at*
  refine U7 ?_;refine lJ ?_;refine lD ?_;refine Be ?_;refine DJ ?_;refine Wc ?_;refine Rb ?_;refine BF ?_;refine JE ?_;refine Cj ?_;exact ⟨(j+1,_),K_,rfl⟩
 ·try dsimp only
  have h3:=hb q
  rw [VU.eq_2] at h2
  generalize VU l q=X at*
  refine U7 ?_;refine lJ ?_;refine lD ?_;refine Be ?_;refine DJ ?_;refine Wc ?_;refine Rb ?_;refine BF ?_;refine JE ?_;refine AZ ?_;refine Hl (AGg (Ev.val (A6 rfl))) rfl ?_;refine Al ?_;exact UE
def Zi(b:AA 8):Nat→Nat
 |0=>0
 |k+1=>Zi b k ||| (nth b k).toNat*2^(8*k)
theorem du(x:BitVec 8){k:Nat}(hk:k<4):x.toNat*2^(8*k)<4294967296:=by
 have:=x.isLt
 rcases (by omega:k=0∨k=1∨k=2∨k=3) with rfl | rfl | rfl | rfl<;>omega
theorem iq(b:AA 8):∀k,k≤4→Zi b k<4294967296
 |0,_=>by simp [Zi]
 |k+1,h=>Nat.or_lt_two_pow (n:=32) (iq b k O_) (du _ O_)
def gH(b:AA 8):Option (List (AA 8)):=
 if b.length=0 then some []
 else if _h:b.length<4 then none
 else if (b.drop 4).length<Zi b 4 then none
 else (gH ((b.drop 4).drop (Zi b 4))).map ((b.drop 4).take (Zi b 4):: ·)
termination_by b.length
decreasing_by simp only [List.length_drop];omega
def bd(b:AA 8):List (AA 8)×Nat:=
 if 65536<b.length then ([],2) else match gH b with | some l=>(l,0) | none=>([],2)
theorem bL{b:AA 8}{l:List (AA 8)}(h:b.length≤65536)(hl:gH b=some l):bd b=(l,0):=by
 unfold bd
 rw [if_neg O_,hl]
theorem Pc{b:AA 8}(h:65536<b.length∨gH b=none):bd b=([],2):=by
 unfold bd
 split
 ·rfl
 ·rcases h with h | h
  ·omega
  ·rw [h]
theorem sB(out:List (AA 8))(x:AA 8)(o:Option (List (AA 8))):(o.map (x:: ·)).map (out++ ·)=o.map ((out++[x])++ ·):=by
 cases o<;>simp
theorem KP(k:r)(h:Hid r→g:=by intro h;refine AR ?_;refine S_ ?_;refine A2 ?_;refine AB (A6 rfl) rfl ?_;refine AB (A6 rfl) rfl ?_;refine AR ?_;refine Q_ ?_;exact h.out):g:=h ⟨k⟩
theorem YS(k:r)(h:Hid r→g:=by intro h;refine AB (II (b:=0) rfl rfl) rfl ?_;exact h.out):g:=h ⟨k⟩
theorem UF(k:r)(h:Hid r→g:=by intro h;refine Ap (AI1 underlying23 KM) AT rfl ?_;exact h.out):g:=h ⟨k⟩
theorem LU(k:r)(h:Hid r→g:=by intro h;refine AB (Ao rfl) rfl ?_;refine AB (Ao rfl) rfl ?_;exact h.out):g:=h ⟨k⟩
theorem ADo(k:r)(h:Hid r→g:=by intro h;refine Hl (kX (Ev.mem (ACV rfl rfl underlying23 underlying23 KM Iz O_ AM)) AM AP rfl) rfl ?_;exact h.out):g:=h ⟨k⟩
theorem dy(k:r)(h:Hid r→g:=by intro h;refine Ap (AEL underlying22 AA1 (xz _) rfl CS_ D_ D_ AM) AT rfl ?_;exact h.out):g:=h ⟨k⟩
theorem AAq(k:r)(h:Hid r→g:=by intro h;refine AFf rfl rfl rfl rfl underlying22 underlying22 AA1 Iz O_ AM AT rfl ?_;exact h.out):g:=h ⟨k⟩
theorem cA(b:AA 8)(hb:b.length≤1099511627776):Ev prog (.call 15 [.c (.bs b)] []) (.val (.tup [.c (.sl 0 0 (bd b).1.length (bd b).1.length 1),At ((bd b).2:Int)]) [.row true (.ab (bd b).1)]):=by
 refine AI func15 rfl ntmps15 rfl AM ?_;refine Ab ?_;refine S5 ?_;refine BZ ?_;by_cases h0:65536<b.length
 ·rw [Pc (.inl h0)]
  refine A1 ?_;refine DJ ?_;refine JE ?_;refine KP ?_;refine EU 2 1 (.ab []) rfl rfl AM rfl ?_;exact En
 ·refine S_ ?_
  refine RT ?_;refine DJ ?_;refine JE ?_;refine B0 ?_;refine EU 4 1 (.ab []) rfl rfl AM rfl ?_;refine S_ ?_;refine Q2 [0,4] (fun (zz:AA 8×Nat×List (AA 8))=>⟨48,AU [0,4] [.c (.bs zz.1),.c (.sl 0 0 zz.2.1 zz.2.1 1)],[.row true (.ab zz.2.2)]⟩) (fun zz=>zz.1.length) (fun zz=>gH b=(gH zz.1).map (zz.2.2++ ·)∧zz.2.2.length=zz.2.1∧zz.1.length+zz.2.1≤65536) (b,0,[]) K_ ⟨by simp,rfl,by simp;omega⟩ ?_
  rintro ⟨r,on,out⟩ ⟨hR,hol,hsz⟩
  dsimp only at hR hol hsz ⊢
  rw [gH.eq_1 r] at hR
  by_cases h1:r.length=0
  ·rw [if_pos h1] at hR
   rw [bL (l:=out) O_ (by rw [hR];simp)]
   refine A1 ?_;refine DJ ?_;refine YS ?_;refine AR ?_;rw [hol]
   refine A1 ?_;exact He
  rw [if_neg h1] at hR
  refine A1 ?_;refine DJ ?_;refine YS ?_;refine AR ?_;by_cases h2:r.length<4
  ·rw [dif_pos h2] at hR
   rw [Pc (.inr (by rw [hR];rfl))]
   refine A1 ?_;refine DJ ?_;refine IU ?_;refine KP ?_;refine EU 2 1 (.ab []) rfl rfl AM rfl ?_;exact En
  rw [dif_neg h2] at hR
  refine A1 ?_;refine DJ ?_;refine IU ?_;refine AZ ?_;refine BF ?_;refine Ar ?_;refine AK [0,4,5,16] (fun (zz:Nat×Nat)=>⟨48,AU [0,4,5,16] [.c (.bs r),.c (.sl 0 0 on on 1),At (((zz.2:Nat):Int)),At (((zz.1:Nat):Int))],[.row true (.ab out)]⟩) (fun j=>(j,Zi r j)) (4) K_ ?_ ?_
  ·intro j hj
   have h3:=iq r j O_
   have h4:=du (nth r j) hj
   try dsimp only
   rw [Zi.eq_2]
   generalize Zi r j=X at*
   refine Ab ?_;refine IU ?_;refine Ak ?_;refine Be ?_;refine AX ?_;refine AB (aG rfl rfl underlying23 Bt EO) rfl ?_;refine AB (WU rfl UR EO) rfl ?_;refine AB (F9 rfl underlying5 underlying3 (AJo _)) rfl ?_;refine AX ?_;refine KN ?_;refine Hl (Ev.val (jg rfl rfl O_ O_)) rfl ?_;refine Hl (Ev.val (rm rfl rfl O_ O_)) rfl ?_;refine Ai ?_;refine Nl ?_;exact ⟨(j+1,_),K_,rfl⟩
  ·have h3:=iq r 4 O_
   have h5:(r.drop 4).length=r.length-4:=by simp
   try dsimp only
   generalize Zi r 4=n at*
   generalize hr4:r.drop 4=r4 at*
   refine Ab ?_;refine IU ?_;refine Ak ?_;refine AB (Xj (l:=4) rfl rfl underlying23 Bt Wg) rfl ?_;refine BZ ?_;rw [hr4]
   by_cases h6:r4.length<n
   ·rw [if_pos h6] at hR
    rw [Pc (.inr (by rw [hR];rfl))]
    refine CK ?_;refine DJ ?_;refine AB (II rfl rfl) rfl ?_;refine KP ?_;refine EU 2 1 (.ab []) rfl rfl AM rfl ?_;exact En
   rw [if_neg h6,sB] at hR
   have h7:(r4.take n).length=n:=by simp;omega
   have h8:(r4.drop n).length=r4.length-n:=by simp
   refine CK ?_;refine DJ ?_;refine AB (II rfl rfl) rfl ?_;refine Ak ?_;refine UF ?_;refine LU ?_;refine AB (qe rfl rfl underlying23 Bt Wg) rfl ?_;refine ADo ?_;refine dy ?_;refine AAq ?_;refine Be ?_;refine AB (Xj rfl rfl underlying23 Bt Wg) rfl ?_;refine BZ ?_;refine ⟨(r4.drop n,on+1,out++[r4.take n]),K_,?_,hR,?_,?_⟩
   ·dsimp only;omega
   ·simp [hol]
   ·dsimp only;omega
abbrev Dn:=List (Int×AA 8)
def Hi(D:Dn):List (Value×Fy):=D.map fun p=>(.int .i64 p.1,.bs p.2)
def Dl(D:Dn)(x:Int):AA 8:=match D.find? (fun p=>p.1==x) with | some p=>p.2 | none=>[]
def PT(D:Dn)(x:Int):Prop:= ∃p∈D,p.1=x
structure rF(D:Dn):Prop where
 dist:D.Pairwise fun p q=>p.1≠q.1
 len:∀p∈D,p.2.length≤100000
theorem rF.keyed{D:Dn}(h:rF D):Keyed (.int .i64) (Hi D):=by
 refine ⟨fun p hp=>?_,?_⟩
 ·obtain ⟨q,_,rfl⟩:=List.mem_map.1 hp
  exact rfl
 ·unfold Hi
  rw [List.pairwise_map]
  refine h.dist.imp fun hne e=>hne (Value.int.inj e).2
theorem yn{D:Dn}{x:Int}(h:PT D x):(x,Dl D x)∈D:=by
 unfold Dl
 cases hf:D.find? (fun p=>p.1==x) with
 |none=>
  obtain ⟨p,hp,rfl⟩:=h
  have:=List.find?_eq_none.1 hf p hp
  simp at this
 |some p=>
  have h1:=List.mem_of_find?_eq_some hf
  have h2:=List.find?_some hf
  simp only [beq_iff_eq] at h2
  subst h2
  exact h1
theorem cl{D:Dn}{x:Int}(h:PT D x):((.int .i64 x,.bs (Dl D x)):Value×Fy)∈Hi D:=List.mem_map.2 ⟨_,yn h,rfl⟩
theorem dP{D:Dn}(hD:rF D)(x:Int):(Dl D x).length≤100000:=by
 unfold Dl
 cases hf:D.find? (fun p=>p.1==x) with
 |none=>exact Nat.zero_le _
 |some p=>exact hD.len p (List.mem_of_find?_eq_some hf)
def Wz(l:List (AA 8)):AA 8×Nat:=if jl l≤65536 then (jn l,0) else ([],2)
theorem mx{l:List (AA 8)}{n:Nat}(h:∀x∈l,x.length≤n)(j:Nat):(O6 l j).length≤n:=by
 unfold O6
 rw [List.getD_eq_getElem?_getD]
 cases hj:l[j]? with
 |none=>exact Nat.zero_le _
 |some x=>exact h x (List.mem_of_getElem? hj)
theorem zt(l:List (AA 8))(n cap:Nat)(hl:l.length=n)(hn:n≤1099511627776)(hb:∀x∈l,x.length≤100000):Ev prog (.call 11 [.c (.sl 0 0 n cap 1)] [.row false (.ab l)]) (.val (.tup [.c (.bs (Wz l).1),At (((Wz l).2:Nat):Int)]) [.row false (.ab l)]):=by
 unfold Wz
 by_cases h:jl l≤65536
 ·rw [if_pos h];exact vY l n cap hl hn h
 ·rw [if_neg h];exact pA l n cap hl hn (fun j=>Nat.le_trans (mx hb j) D_) O_
theorem AAk(D:Dn)(a:List Int)(j:Nat)(hj:j<a.length):(a.take (j+1)).map (Dl D)=(a.take j).map (Dl D)++[Dl D (DU a j)]:=by
 rw [List.take_succ_eq_append_getElem hj,List.map_append]
 simp only [List.map_cons,List.map_nil,DU,List.getD_eq_getElem?_getD,List.getElem?_eq_getElem hj,Option.getD_some]
theorem RX(k:r)(h:Hid r→g:=by intro h;refine AB (Bj rfl rfl) rfl ?_;exact h.out):g:=h ⟨k⟩
theorem fw(L:List Nd)(es:List (Value×Fy))(N:Nat)(D:Dn)(a:List Int)(hD:rF D)(ha:∀x∈a,PT D x)(hlen:a.length≤400):Ev prog (.call 69 [AY 0,.c (.is a)] [.row false (.ac [.ptr 1 0,.mp 2]),.row false (.ac [.sl 3 0 N N 3,.mp 4]),.row false (.mp (Hi D)),.row false (.an L),.row false (.mp es)])
  (.val (.tup [.c (.bs (Wz (a.map (Dl D))).1),.c (.val (.int .i64 (((Wz (a.map (Dl D))).2:Nat):Int)))]) [.row false (.ac [.ptr 1 0,.mp 2]),.row false (.ac [.sl 3 0 N N 3,.mp 4]),.row false (.mp (Hi D)),.row false (.an L),.row false (.mp es)]):=by
 generalize hm:a.length=m at*
 refine AI func69 rfl ntmps69 rfl AM ?_;refine Ab ?_;refine MA ?_;refine BF ?_;refine AB (qL rfl underlying41 rfl) rfl ?_;refine V5 ?_;refine EU 6 1 (.ab []) rfl rfl AM rfl ?_;refine S_ ?_;refine AK [0,6,9,10,11] (fun (zz:Nat×List (AA 8))=>⟨29,AU [0,6,9,10,11] [AY 0,.c (.sl 5 0 zz.1 zz.1 1),.c (.is a),At ((m:Int)),At ((zz.1:Int))],[.row false (.ac [.ptr 1 0,.mp 2]),.row false (.ac [.sl 3 0 N N 3,.mp 4]),.row false (.mp (Hi D)),.row false (.an L),.row false (.mp es),.row true (.ab zz.2)]⟩) (fun j=>(j,(a.take j).map (Dl D))) (m) K_ ?_ ?_
 ·intro j hj
  dsimp only
  have h1:PT D (DU a j):=ha _ (by simp [DU,show j<a.length by omega])
  have h2:((a.take j).map (Dl D)).length=j:=by simp;omega
  rw [AAk D a j O_]
  generalize (a.take j).map (Dl D)=u at*
  refine U7 ?_;refine AB (bD rfl rfl underlying41 dT EO) rfl ?_;refine AB (MP rfl E3 EO) rfl ?_;refine BZ ?_;generalize DU a j=x at*
  refine CK ?_;refine UO ?_;refine AB (A7 rfl (Zj _ _)) rfl ?_;refine AB (DR rfl rfl gT EO rfl) rfl ?_;refine AX ?_;refine Hl (dC (c:= .bs (Dl D x)) underlying85 underlying3 rfl rfl rfl hD.keyed (cl h1)) rfl ?_;refine dy ?_;refine AAq ?_;refine Ai ?_;refine Nl ?_;exact ⟨(j+1,_),K_,rfl⟩
 ·dsimp only
  rw [show a.take m=a by rw [←hm,List.take_length]]
  have h2:(a.map (Dl D)).length=m:=by simp [hm]
  have h3:∀x∈a.map (Dl D),x.length≤100000:=fun x hx=>by obtain ⟨y,_,rfl⟩:=List.mem_map.1 hx;exact dP hD y
  generalize a.map (Dl D)=u at*
  refine Vx ?_;refine Ak ?_;refine Li (zt u m m h2 O_ h3) AIX ?_;refine RX ?_;refine RX ?_;exact He
def N2(X1:AA 8):AA 8:=X1++[0#8]
def ES(b:AA 8):Nat→AA 8
 |0=>b
 |j1+1=>N2 (ES b j1)
@[simp] theorem OT(b:AA 8)(j1:Nat):(ES b j1).length=b.length+j1:=by
 induction j1 with
 |zero=>(simp [ES, *];done)
 |succ j1 ih=>rw [ES.eq_2,N2];(simp [ih];omega)
def Ky(b:AA 8):AA 8:=(ES b ((16-b.length%16)%16))
theorem JI(k:r)(h:Hid r→g:=by intro h;refine S_ ?_;refine A2 ?_;refine AB (Ao rfl) rfl ?_;refine AB (Oc rfl underlying23) rfl ?_;exact h.out):g:=h ⟨k⟩
theorem rN(k:r)(h:Hid r→g:=by intro h;refine AB (OU (b:=16) rfl rfl O_ O_) rfl ?_;exact h.out):g:=h ⟨k⟩
theorem Jm(k:r)(h:Hid r→g:=by intro h;refine AB (Ko (b:=0) rfl rfl) rfl ?_;exact h.out):g:=h ⟨k⟩
theorem Wf(k:r)(h:Hid r→g:=by intro h;refine Ap (fN (l:=[0#8]) underlying23 KM rfl rfl D_ D_ AM) AT rfl ?_;exact h.out):g:=h ⟨k⟩
theorem eH(b:AA 8)(n cap:Nat)(hb:b.length=n)(hn:n≤1099511627776):Ev prog (.call 146 [.c (.sl 0 0 n cap 1)] [BP (b)]) (.val (.c (.sl 1 0 (n+(16-n%16)%16) (n+(16-n%16)%16) 1)) [.dead,BP (Ky b)]):=by
 have hP:=Hid.mk (Ky.eq_1 b)
 try simp only [hb] at hP
 refine AI func146 rfl ntmps146 rfl AM ?_;refine Ab ?_;refine Al ?_;refine xO 0 rfl rfl AM rfl ?_;refine S_ ?_;refine AK [0] (fun (zz:Nat×AA 8)=>⟨11,AU [0] [.c (.sl 1 0 (n+zz.1) (n+zz.1) 1)],[.dead,BP (zz.2)]⟩) (fun j1=>(j1,ES b j1)) ((16-n%16)%16) K_ ?_ ?_
 ·intro j1 hj1
  try dsimp only
  have hX1:(ES b j1).length=n+j1:=by rw [OT b _];try omega
  rw [ES.eq_2,N2]
  try simp only [hb]
  generalize ES b j1=X1 at*
  refine JI ?_;refine rN ?_;refine Jm ?_;refine Ak ?_;refine Wf ?_;refine DD ?_;refine BZ ?_;exact ⟨(j1+1,_),K_,rfl⟩
 ·try dsimp only
  have hY2:(ES b ((16-n%16)%16)).length=n+(16-n%16)%16:=by rw [OT b _];try omega
  generalize ES b ((16-n%16)%16)=Y2 at*
  refine JI ?_;refine rN ?_;refine Jm ?_;refine Eg ?_;rw [hP.out]
  exact CF
@[simp] theorem AHS(b:AA 8):(Ky b).length=b.length+(16-b.length%16)%16:=by
 unfold Ky
 (simp [OT, *];done)
attribute [irreducible] Ky
def Ck(x:BitVec 32)(k:Int):BitVec 32:=(x<<<((BitVec.ofInt 64 k)&&&31#64).toNat) ||| (x>>>(32#64-((BitVec.ofInt 64 k)&&&31#64)).toNat)
theorem Cf(x:BitVec 32)(k:Int):Ev prog (.call 63 [.c (.val (EQ x)),At k] []) (.val (.c (.val (EQ (Ck x k)))) []):=by
 have hP:=Hid.mk (Ck.eq_1 x k)
 refine AI func63 rfl ntmps63 rfl AM ?_;refine Ab ?_;refine BF ?_;refine AB (F9 rfl underlying3 underlying71 (ADi _)) rfl ?_;refine AB (Gk (b:=31#64) rfl rfl) rfl ?_;refine Be ?_;refine AB (wu rfl rfl) rfl ?_;refine LU ?_;refine AB (jH (a:=32#64) rfl rfl) rfl ?_;refine AB (aZ rfl rfl) rfl ?_;refine AB (Xu rfl rfl) rfl ?_;refine Al ?_;rw [hP.out]
 exact CF
attribute [irreducible] Ck
def Hf(x:BitVec 64)(k:Int):BitVec 64:=(x<<<((BitVec.ofInt 64 k)&&&63#64).toNat) ||| (x>>>(64#64-((BitVec.ofInt 64 k)&&&63#64)).toNat)
theorem Vv(k:r)(h:Hid r→g:=by intro h;refine AB (ko rfl rfl) rfl ?_;exact h.out):g:=h ⟨k⟩
theorem Ld(k:r)(h:Hid r→g:=by intro h;refine AB (gC rfl rfl) rfl ?_;exact h.out):g:=h ⟨k⟩
theorem GL(x:BitVec 64)(k:Int):Ev prog (.call 171 [.c (.val (Bp x)),At k] []) (.val (.c (.val (Bp (Hf x k)))) []):=by
 have hP:=Hid.mk (Hf.eq_1 x k)
 refine AI func171 rfl ntmps171 rfl AM ?_;refine Ab ?_;refine BF ?_;refine AB (F9 rfl underlying3 underlying71 (ADi _)) rfl ?_;refine AB (Gk (b:=63#64) rfl rfl) rfl ?_;refine Be ?_;refine AB (cQ rfl rfl) rfl ?_;refine LU ?_;refine AB (jH (a:=64#64) rfl rfl) rfl ?_;refine Vv ?_;refine Ld ?_;refine Al ?_;rw [hP.out]
 exact CF
attribute [irreducible] Hf
def Qy(x:AA 32)(a b:Nat):AA 32:=put x a ((nth x a)+(nth x b))
@[simp] theorem kU(x:AA 32)(a b:Nat):(Qy x a b).length=x.length:=by simp [Qy]
def QY(a d:Nat)(X1:AA 32):AA 32:=put X1 d (Ck ((nth X1 d)^^^(nth X1 a)) ((16:Nat):Int))
@[simp] theorem me(a d:Nat)(X1:AA 32):(QY a d X1).length=X1.length:=by simp [QY]
def Qh(c d:Nat)(X2:AA 32):AA 32:=put X2 c ((nth X2 c)+(nth X2 d))
@[simp] theorem kY(c d:Nat)(X2:AA 32):(Qh c d X2).length=X2.length:=by simp [Qh]
def Qv(b c:Nat)(X3:AA 32):AA 32:=put X3 b (Ck ((nth X3 b)^^^(nth X3 c)) ((12:Nat):Int))
@[simp] theorem kZ(b c:Nat)(X3:AA 32):(Qv b c X3).length=X3.length:=by simp [Qv]
def P6(a b:Nat)(X4:AA 32):AA 32:=put X4 a ((nth X4 a)+(nth X4 b))
@[simp] theorem mY(a b:Nat)(X4:AA 32):(P6 a b X4).length=X4.length:=by simp [P6]
def Pw(a d:Nat)(X5:AA 32):AA 32:=put X5 d (Ck ((nth X5 d)^^^(nth X5 a)) ((8:Nat):Int))
@[simp] theorem kV(a d:Nat)(X5:AA 32):(Pw a d X5).length=X5.length:=by simp [Pw]
def P9(c d:Nat)(X6:AA 32):AA 32:=put X6 c ((nth X6 c)+(nth X6 d))
@[simp] theorem mG(c d:Nat)(X6:AA 32):(P9 c d X6).length=X6.length:=by simp [P9]
def QA(b c:Nat)(X7:AA 32):AA 32:=put X7 b (Ck ((nth X7 b)^^^(nth X7 c)) ((7:Nat):Int))
@[simp] theorem nL(b c:Nat)(X7:AA 32):(QA b c X7).length=X7.length:=by simp [QA]
def B9(x:AA 32)(a b c d:Nat):AA 32:=(QA b c (P9 c d (Pw a d (P6 a b (Qv b c (Qh c d (QY a d (Qy x a b))))))))
abbrev Fz(x:List (BitVec 32)):Row:= .row true (.a32 x)
theorem AO{A B:Prop}(a:A)(b:B)(k:r)(h:A→B→Hid r→g:=by intro a b h;refine Hw (Ah (bs:=[]) a b K_ K_ rfl B4) AT rfl ?_;exact h.out):g:=h a b ⟨k⟩
theorem UJ(k:r)(h:Hid r→g:=by intro h;refine S_ ?_;refine B5 13 mixed K_ rfl rfl rfl ?_;exact h.out):g:=h ⟨k⟩
theorem Em(k:r)(h:Hid r→g:=by intro h;refine AH (Ao rfl) rfl ?_;refine AH (Ao rfl) rfl ?_;refine AH (RG rfl) rfl ?_;refine AH (AN rfl rfl underlying181 Bi O_) rfl ?_;refine AH (Vf rfl rfl Zs EO) rfl ?_;exact h.out):g:=h ⟨k⟩
theorem Ia(k:r)(h:Hid r→g:=by intro h;refine AH (VY rfl rfl) rfl ?_;exact h.out):g:=h ⟨k⟩
theorem L8(k:r)(h:Hid r→g:=by intro h;refine AH (RG rfl) rfl ?_;refine AH (AN rfl rfl underlying181 Bi O_) rfl ?_;refine BJ ?_;refine PK rfl rfl rfl Bi EO AT ?_;refine AR ?_;exact h.out):g:=h ⟨k⟩
theorem L2(k:r)(h:Hid r→g:=by intro h;refine S_ ?_;refine B5 16 mixed K_ rfl rfl rfl ?_;exact h.out):g:=h ⟨k⟩
theorem GK(k:r)(h:Hid r→g:=by intro h;refine AH (rp rfl rfl) rfl ?_;exact h.out):g:=h ⟨k⟩
theorem N7(x:AA 32)(a b c d:Nat)(hx:x.length=16)(ha:a≤1099511627776)(hb:b≤1099511627776)(hc:c≤1099511627776)(hd:d≤1099511627776)(la:a<16)(lb:b<16)(lc:c<16)(ld:d<16):Ev prog (.call 149 [AY 0,At ((a:Nat):Int),At ((b:Nat):Int),At ((c:Nat):Int),At ((d:Nat):Int)] [Fz (x)]) (.val (.tup []) [Fz (B9 x a b c d)]):=by
 have hP_quar:Hid (B9 x a b c d=(QA b c (P9 c d (Pw a d (P6 a b (Qv b c (Qh c d (QY a d (Qy x a b))))))))):=⟨rfl⟩
 refine AI func149 rfl ntmps149 rfl AM ?_;refine UJ ?_;refine Em ?_;refine Em ?_;refine Ia ?_;refine L8 ?_;rw [show (put x a ((nth x a)+(nth x b)))=Qy x a b from rfl]
 have hX1:(Qy x a b).length=16:=AP
 generalize Qy x a b=X1 at*
 refine L2 ?_;refine Ca ?_;refine Em ?_;refine Em ?_;refine GK ?_;refine AO (Cf ((nth X1 d)^^^(nth X1 a)) ((16:Nat):Int)) KG ?_;refine L8 ?_;rw [show (put X1 d (Ck ((nth X1 d)^^^(nth X1 a)) ((16:Nat):Int)))=QY a d X1 from rfl]
 have hX2:(QY a d X1).length=16:=AP
 generalize QY a d X1=X2 at*
 refine UJ ?_;refine Em ?_;refine Em ?_;refine Ia ?_;refine L8 ?_;rw [show (put X2 c ((nth X2 c)+(nth X2 d)))=Qh c d X2 from rfl]
 have hX3:(Qh c d X2).length=16:=AP
 generalize Qh c d X2=X3 at*
 refine L2 ?_;refine Ca ?_;refine Em ?_;refine Em ?_;refine GK ?_;refine AO (Cf ((nth X3 b)^^^(nth X3 c)) ((12:Nat):Int)) KG ?_;refine L8 ?_;rw [show (put X3 b (Ck ((nth X3 b)^^^(nth X3 c)) ((12:Nat):Int)))=Qv b c X3 from rfl]
 have hX4:(Qv b c X3).length=16:=AP
 generalize Qv b c X3=X4 at*
 refine UJ ?_;refine Em ?_;refine Em ?_;refine Ia ?_;refine L8 ?_;rw [show (put X4 a ((nth X4 a)+(nth X4 b)))=P6 a b X4 from rfl]
 have hX5:(P6 a b X4).length=16:=AP
 generalize P6 a b X4=X5 at*
 refine L2 ?_;refine Ca ?_;refine Em ?_;refine Em ?_;refine GK ?_;refine AO (Cf ((nth X5 d)^^^(nth X5 a)) ((8:Nat):Int)) KG ?_;refine L8 ?_;rw [show (put X5 d (Ck ((nth X5 d)^^^(nth X5 a)) ((8:Nat):Int)))=Pw a d X5 from rfl]
 have hX6:(Pw a d X5).length=16:=AP
 generalize Pw a d X5=X6 at*
 refine UJ ?_;refine Em ?_;refine Em ?_;refine Ia ?_;refine L8 ?_;rw [show (put X6 c ((nth X6 c)+(nth X6 d)))=P9 c d X6 from rfl]
 have hX7:(P9 c d X6).length=16:=AP
 generalize P9 c d X6=X7 at*
 refine L2 ?_;refine Ca ?_;refine Em ?_;refine Em ?_;refine GK ?_;refine AO (Cf ((nth X7 b)^^^(nth X7 c)) ((7:Nat):Int)) KG ?_;refine L8 ?_;rw [show (put X7 b (Ck ((nth X7 b)^^^(nth X7 c)) ((7:Nat):Int)))=QA b c X7 from rfl]
 have hX8:(QA b c X7).length=16:=AP
 generalize QA b c X7=X8 at*
 refine S_ ?_;rw [hP_quar.out]
 exact AEr (by (exact .inr rfl)) (by (kernel_rfl))
@[simp] theorem AIe(x:AA 32)(a b c d:Nat):(B9 x a b c d).length=x.length:=by
 unfold B9
 (simp [kU,me,kY,kZ,mY,kV,mG,nL, *];done)
attribute [irreducible] B9
def VR(b:AA 8)(o:Nat)(X1:BitVec 64)(j3:Nat):BitVec 64:=X1 ||| (((nth b (o+j3)).setWidth 64)<<<(8*j3))
def Mx(b:AA 8)(o:Nat):Nat→BitVec 64
 |0=>0#64
 |j3+1=>VR b o (Mx b o j3) j3
def ah(b:AA 8)(o n:Nat):BitVec 64:=(Mx b o n)
abbrev A0(x:List (BitVec 8)):Row:= .row false (.a8 x)
theorem D7(k:r)(h:Hid r→g:=by intro h;refine AB (Oc rfl underlying23) rfl ?_;exact h.out):g:=h ⟨k⟩
theorem oS(k:r)(h:Hid r→g:=by intro h;refine AB (P8 rfl rfl underlying23 Bt O_) rfl ?_;exact h.out):g:=h ⟨k⟩
theorem GA(k:r)(h:Hid r→g:=by intro h;refine AB (ZF rfl rfl UR EO) rfl ?_;exact h.out):g:=h ⟨k⟩
theorem qY(k:r)(h:Hid r→g:=by intro h;refine AB (F9 rfl underlying5 underlying70 (ADr _)) rfl ?_;exact h.out):g:=h ⟨k⟩
theorem kR(b:AA 8)(o n cap:Nat)(hb:o+n≤b.length)(hn:n≤8796093022208):Ev prog (.call 148 [.c (.sl 0 o n cap 1)] [A0 (b)]) (.val (.c (.val (Bp (ah b o n)))) [A0 (b)]):=by
 have hP:=Hid.mk (ah.eq_1 b o n)
 refine AI func148 rfl ntmps148 rfl AM ?_;refine P3 ?_;refine BF ?_;refine D7 ?_;refine V5 ?_;refine AK [3,6,7,8] (fun (zz:Nat×BitVec 64)=>⟨22,AU [3,6,7,8] [.c (.val (Bp (zz.2))),.c (.sl 0 o n cap 1),At (((n:Nat):Int)),At (((zz.1:Nat):Int))],[A0 (b)]⟩) (fun j3=>(j3,Mx b o j3)) (n) K_ ?_ ?_
 ·intro j3 hj3
  try dsimp only
  rw [Mx.eq_2,VR]
  generalize Mx b o j3=X1 at*
  refine Vx ?_;refine Ak ?_;refine oS ?_;refine GA ?_;refine S5 ?_;refine Be ?_;refine qY ?_;refine AX ?_;refine KN ?_;refine AB (CM rfl rfl) rfl ?_;refine Ld ?_;refine Ai ?_;refine Nl ?_;exact ⟨(j3+1,_),K_,rfl⟩
 ·try dsimp only
  generalize Mx b o n=Y2 at*
  refine Vx ?_;refine Eg ?_;rw [hP.out]
  exact CF
attribute [irreducible] ah
def Me(key:AA 8)(X1:AA 32)(j3:Nat):AA 32:=put X1 (4+j3) ((ah key (4*j3) (((4*j3)+4)-(4*j3))).setWidth 32)
def Dh(key:AA 8):Nat→AA 32
 |0=>put (put (put (put (DF 16) 0 1634760805#32) 1 857760878#32) 2 2036477234#32) 3 1797285236#32
 |j3+1=>Me key (Dh key j3) j3
@[simp] theorem M8(key:AA 8)(j3:Nat):(Dh key j3).length=16:=by
 induction j3 with
 |zero=>(simp [Dh, *];done)
 |succ j3 ih=>rw [Dh.eq_2,Me];(simp [ih];done)
def ML(nonce:AA 8)(X3:AA 32)(j9:Nat):AA 32:=put X3 (13+j9) ((ah nonce (4*j9) (((4*j9)+4)-(4*j9))).setWidth 32)
def Da(counter:BitVec 32)(nonce:AA 8)(Y2:AA 32):Nat→AA 32
 |0=>put Y2 12 counter
 |j9+1=>ML nonce (Da counter nonce Y2 j9) j9
theorem Mt(counter:BitVec 32)(nonce:AA 8)(Y2:AA 32)(hY2:Y2.length=16)(j9:Nat):(Da counter nonce Y2 j9).length=16:=by
 induction j9 with
 |zero=>(simp [Da, *];done)
 |succ j9 ih=>rw [Da.eq_2,ML];(simp [ih];done)
def K7(X5:AA 32):AA 32:=B9 (B9 (B9 (B9 (B9 (B9 (B9 (B9 X5 0 4 8 12) 1 5 9 13) 2 6 10 14) 3 7 11 15) 0 5 10 15) 1 6 11 12) 2 7 8 13) 3 4 9 14
def DE(Y4:AA 32):Nat→AA 32
 |0=>Y4
 |j15+1=>K7 (DE Y4 j15)
theorem Lp(Y4:AA 32)(hY4:Y4.length=16)(j15:Nat):(DE Y4 j15).length=16:=by
 induction j15 with
 |zero=>(simp [DE, *];done)
 |succ j15 ih=>rw [DE.eq_2,K7];(simp [ih];done)
def K1(Y4 Y14:AA 32)(X15:AA 8)(j27:Nat):AA 8:=put X15 j27 ((((nth Y14 (j27/4))+(nth Y4 (j27/4)))>>>(8*(j27%4))).setWidth 8)
def DL(Y4 Y14:AA 32):Nat→AA 8
 |0=>Ac 64
 |j27+1=>K1 Y4 Y14 (DL Y4 Y14 j27) j27
@[simp] theorem Lt(Y4 Y14:AA 32)(j27:Nat):(DL Y4 Y14 j27).length=64:=by
 induction j27 with
 |zero=>(simp [DL, *];done)
 |succ j27 ih=>rw [DL.eq_2,K1];(simp [ih];done)
def Cp(key:AA 8)(counter:BitVec 32)(nonce:AA 8):AA 8:=(DL (Da counter nonce (Dh key 8) 3) (DE (Da counter nonce (Dh key 8) 3) 10) 64)
abbrev BM(x:List (BitVec 8)):AV:= .agg (.a8 x)
theorem bM{A B:Prop}(a:A)(b:B)(k:r)(h:A→B→Hid r→g:=by intro a b h;refine CQ (Ah (bs:=[0]) a b K_ K_ rfl B4) AT rfl ?_;exact h.out):g:=h a b ⟨k⟩
theorem aK{A B:Prop}(a:A)(b:B)(k:r)(h:A→B→Hid r→g:=by intro a b h;refine Hl (MB (bs:=[2]) a b K_ rfl rfl B4 AT) rfl ?_;exact h.out):g:=h a b ⟨k⟩
theorem BO(k:r)(h:Hid r→g:=by intro h;refine S_ ?_;refine A2 ?_;refine Ap (Sw yp AM) AT rfl ?_;refine Ap (Sw yp AM) AT rfl ?_;exact h.out):g:=h ⟨k⟩
theorem F6(k:r)(h:Hid r→g:=by intro h;refine Ap (Ay yy AM) AT rfl ?_;exact h.out):g:=h ⟨k⟩
theorem zG(k:r)(h:Hid r→g:=by intro h;refine AB (ACi (l:=(put (put (put (put (DF 16) 0 (1634760805#32)) 1 (857760878#32)) 2 (2036477234#32)) 3 (1797285236#32))) AGk underlying181 Bi rfl rfl) rfl ?_;exact h.out):g:=h ⟨k⟩
theorem iz(k:r)(h:Hid r→g:=by intro h;refine Bs rfl rfl rfl rfl nZ B7 B7 AT ?_;exact h.out):g:=h ⟨k⟩
theorem FA(k:r)(h:Hid r→g:=by intro h;refine AR ?_;refine S_ ?_;refine A2 ?_;refine AB (Ao rfl) rfl ?_;refine AR ?_;refine S_ ?_;exact h.out):g:=h ⟨k⟩
theorem TK(k:r)(h:Hid r→g:=by intro h;refine AB (S8 (a:=4) rfl rfl O_) rfl ?_;exact h.out):g:=h ⟨k⟩
theorem Wq(k:r)(h:Hid r→g:=by intro h;refine AB (B8 (b:=4) rfl rfl O_) rfl ?_;exact h.out):g:=h ⟨k⟩
theorem qX(k:r)(h:Hid r→g:=by intro h;refine AB (F9 rfl underlying70 underlying106 (AGr _)) rfl ?_;exact h.out):g:=h ⟨k⟩
theorem gx(k:r)(h:Hid r→g:=by intro h;refine AB (AN rfl rfl underlying181 Bi O_) rfl ?_;exact h.out):g:=h ⟨k⟩
theorem Hq(k:r)(h:Hid r→g:=by intro h;refine PK rfl rfl rfl Bi EO AT ?_;exact h.out):g:=h ⟨k⟩
theorem dH(k:r)(h:Hid r→g:=by intro h;refine AB (A8 (a:=3) (b:=3) rfl rfl) rfl ?_;exact h.out):g:=h ⟨k⟩
theorem HM(k:r)(h:Hid r→g:=by intro h;refine AB (A8 (b:=64) rfl rfl) rfl ?_;exact h.out):g:=h ⟨k⟩
theorem gA(k:r)(h:Hid r→g:=by intro h;refine AH (VD (b:=4) rfl rfl O_ O_) rfl ?_;exact h.out):g:=h ⟨k⟩
theorem fo(k:r)(h:Hid r→g:=by intro h;refine AH (AN rfl rfl underlying181 Bi O_) rfl ?_;exact h.out):g:=h ⟨k⟩
theorem Il(k:r)(h:Hid r→g:=by intro h;refine AH (Vf rfl rfl Zs EO) rfl ?_;refine AH (Ao rfl) rfl ?_;exact h.out):g:=h ⟨k⟩
theorem Dk(k:r)(h:Hid r→g:=by intro h;refine AH (Vf rfl rfl Zs EO) rfl ?_;exact h.out):g:=h ⟨k⟩
theorem Mu(k:r)(h:Hid r→g:=by intro h;refine AH (VY rfl rfl) rfl ?_;refine AH (Ao rfl) rfl ?_;exact h.out):g:=h ⟨k⟩
theorem Ud(k:r)(h:Hid r→g:=by intro h;refine AH (S8 (a:=8) rfl rfl O_) rfl ?_;exact h.out):g:=h ⟨k⟩
theorem gV(k:r)(h:Hid r→g:=by intro h;refine AH (AN rfl rfl underlying105 Bt O_) rfl ?_;exact h.out):g:=h ⟨k⟩
theorem Ct(k:r)(h:Hid r→g:=by intro h;refine cD rfl rfl rfl Bt EO AT ?_;exact h.out):g:=h ⟨k⟩
theorem Lr(k:r)(h:Hid r→g:=by intro h;refine AB (A8 (a:=64) (b:=64) rfl rfl) rfl ?_;exact h.out):g:=h ⟨k⟩
theorem jm(k:r)(h:Hid r→g:=by intro h;refine AB (A9 rfl rfl WL XQ B7 D_) rfl ?_;exact h.out):g:=h ⟨k⟩
theorem OQ(k:r)(h:Hid r→g:=by intro h;refine Bs rfl rfl rfl rfl XQ B7 B7 AT ?_;exact h.out):g:=h ⟨k⟩
theorem jK(h:g:=by exact kG (Hu rfl rfl WL XQ B7 D_) (by (kernel_rfl))):g:=h
theorem bG(key:AA 8)(counter:BitVec 32)(nonce:AA 8)(hkey:key.length=32)(hnonce:nonce.length=12):Ev prog (.call 109 [BM (key),.c (.val (EQ counter)),BM (nonce)] []) (.val (BM (Cp key counter nonce)) []):=by
 have hP:=Hid.mk (Cp.eq_1 key counter nonce)
 refine AI func109 rfl ntmps109 rfl AM ?_;refine BO ?_;refine F6 ?_;refine AZ ?_;refine zG ?_;refine Ap (Ay gO AM) AT rfl ?_;refine iz ?_;refine FA ?_;refine AK [1,3,5,6,7,14] (fun (zz:Nat×AA 32)=>⟨79,AU [1,3,5,6,7,14] [.c (.val (EQ (counter))),AY 0,AY 1,AY 2,AY 3,At (((zz.1:Nat):Int))],[BP (key),BP (nonce),BP (Ac 64),Fz (zz.2)]⟩) (fun j3=>(j3,Dh key j3)) (8) K_ ?_ ?_
 ·intro j3 hj3
  try dsimp only
  have hX1:(Dh key j3).length=16:=by rw [M8 key _];try omega
  rw [Dh.eq_2,Me]
  generalize Dh key j3=X1 at*
  refine Ab ?_;refine Rc ?_;refine Ak ?_;refine BF ?_;refine Wc ?_;refine AX ?_;refine TK ?_;refine AX ?_;refine TK ?_;refine Wq ?_;refine AB (IH rfl underlying37 Bt rfl rfl rfl O_ O_ T6 rfl rfl) rfl ?_;refine bM (kR key (4*j3) (((4*j3)+4)-(4*j3)) (32-(4*j3)) AD AD) za ?_;refine qX ?_;refine gx ?_;refine Hq ?_;refine Cj ?_;exact ⟨(j3+1,_),K_,rfl⟩
 ·try dsimp only
  have hY2:(Dh key 8).length=16:=by rw [M8 key _];try omega
  generalize Dh key 8=Y2 at*
  refine Ab ?_;refine Ub ?_;refine Ak ?_;refine AB (AN (j:=12) rfl rfl underlying181 Bi O_) rfl ?_;refine Hq ?_;refine FA ?_;refine AK [5,6,7,31] (fun (zz:Nat×AA 32)=>⟨79,AU [5,6,7,31] [AY 0,AY 1,AY 2,At (((zz.1:Nat):Int))],[BP (nonce),BP (Ac 64),Fz (zz.2)]⟩) (fun j9=>(j9,Da counter nonce Y2 j9)) (3) K_ ?_ ?_
  ·intro j9 hj9
   try dsimp only
   have hX3:(Da counter nonce Y2 j9).length=16:=by rw [Mt counter nonce Y2 hY2 _];try omega
   rw [Da.eq_2,ML]
   generalize Da counter nonce Y2 j9=X3 at*
   refine Ab ?_;refine AB (A8 (b:=3) rfl rfl) rfl ?_;refine Ak ?_;refine BF ?_;refine AB (B8 (a:=13) rfl rfl O_) rfl ?_;refine AX ?_;refine TK ?_;refine AX ?_;refine TK ?_;refine Wq ?_;refine AB (IH rfl underlying98 Bt rfl rfl rfl O_ O_ T6 rfl rfl) rfl ?_;refine bM (kR nonce (4*j9) (((4*j9)+4)-(4*j9)) (12-(4*j9)) AD AD) za ?_;refine qX ?_;refine gx ?_;refine Hq ?_;refine Cj ?_;exact ⟨(j9+1,_),K_,rfl⟩
  ·try dsimp only
   have hY4:(Da counter nonce Y2 3).length=16:=by rw [Mt counter nonce Y2 hY2 _];try omega
   generalize Da counter nonce Y2 3=Y4 at*
   refine Ab ?_;refine dH ?_;refine AZ ?_;refine AB (A9 rfl rfl rj nZ B7 D_) rfl ?_;refine Ap (Ay gO AM) AT rfl ?_;refine iz ?_;refine FA ?_;refine AK [6,7,10,47] (fun (zz:Nat×AA 32)=>⟨79,AU [6,7,10,47] [AY 0,AY 1,AY 2,At (((zz.1:Nat):Int))],[BP (Ac 64),Fz (Y4),Fz (zz.2)]⟩) (fun j15=>(j15,DE Y4 j15)) (10) K_ ?_ ?_
   ·intro j15 hj15
    try dsimp only
    have hX5:(DE Y4 j15).length=16:=by rw [Lp Y4 hY4 _];try omega
    rw [DE.eq_2,K7]
    generalize DE Y4 j15=X5 at*
    refine Ab ?_;refine AB (A8 (b:=10) rfl rfl) rfl ?_;refine AR ?_;have hQ6:(B9 X5 0 4 8 12).length=16:=AP
    refine Ab ?_;refine aK (N7 X5 0 4 8 12 AD AD AD AD AD AD AD AD AD) R3 ?_;refine AR ?_;have hQ7:(B9 (B9 X5 0 4 8 12) 1 5 9 13).length=16:=AP
    refine Ab ?_;refine aK (N7 (B9 X5 0 4 8 12) 1 5 9 13 AD AD AD AD AD AD AD AD AD) R3 ?_;refine AR ?_;have hQ8:(B9 (B9 (B9 X5 0 4 8 12) 1 5 9 13) 2 6 10 14).length=16:=AP
    refine Ab ?_;refine aK (N7 (B9 (B9 X5 0 4 8 12) 1 5 9 13) 2 6 10 14 AD AD AD AD AD AD AD AD AD) R3 ?_;refine AR ?_;have hQ9:(B9 (B9 (B9 (B9 X5 0 4 8 12) 1 5 9 13) 2 6 10 14) 3 7 11 15).length=16:=AP
    refine Ab ?_;refine aK (N7 (B9 (B9 (B9 X5 0 4 8 12) 1 5 9 13) 2 6 10 14) 3 7 11 15 AD AD AD AD AD AD AD AD AD) R3 ?_;refine AR ?_;have hQ10:(B9 (B9 (B9 (B9 (B9 X5 0 4 8 12) 1 5 9 13) 2 6 10 14) 3 7 11 15) 0 5 10 15).length=16:=AP
    refine Ab ?_;refine aK (N7 (B9 (B9 (B9 (B9 X5 0 4 8 12) 1 5 9 13) 2 6 10 14) 3 7 11 15) 0 5 10 15 AD AD AD AD AD AD AD AD AD) R3 ?_;refine AR ?_;have hQ11:(B9 (B9 (B9 (B9 (B9 (B9 X5 0 4 8 12) 1 5 9 13) 2 6 10 14) 3 7 11 15) 0 5 10 15) 1 6 11 12).length=16:=AP
    refine Ab ?_;refine aK (N7 (B9 (B9 (B9 (B9 (B9 X5 0 4 8 12) 1 5 9 13) 2 6 10 14) 3 7 11 15) 0 5 10 15) 1 6 11 12 AD AD AD AD AD AD AD AD AD) R3 ?_;refine AR ?_;have hQ12:(B9 (B9 (B9 (B9 (B9 (B9 (B9 X5 0 4 8 12) 1 5 9 13) 2 6 10 14) 3 7 11 15) 0 5 10 15) 1 6 11 12) 2 7 8 13).length=16:=AP
    refine Ab ?_;refine aK (N7 (B9 (B9 (B9 (B9 (B9 (B9 X5 0 4 8 12) 1 5 9 13) 2 6 10 14) 3 7 11 15) 0 5 10 15) 1 6 11 12) 2 7 8 13 AD AD AD AD AD AD AD AD AD) R3 ?_;refine AR ?_;have hQ13:(B9 (B9 (B9 (B9 (B9 (B9 (B9 (B9 X5 0 4 8 12) 1 5 9 13) 2 6 10 14) 3 7 11 15) 0 5 10 15) 1 6 11 12) 2 7 8 13) 3 4 9 14).length=16:=AP
    refine Ab ?_;refine aK (N7 (B9 (B9 (B9 (B9 (B9 (B9 (B9 X5 0 4 8 12) 1 5 9 13) 2 6 10 14) 3 7 11 15) 0 5 10 15) 1 6 11 12) 2 7 8 13) 3 4 9 14 AD AD AD AD AD AD AD AD AD) R3 ?_;refine Cj ?_;exact ⟨(j15+1,_),K_,rfl⟩
   ·try dsimp only
    have hY14:(DE Y4 10).length=16:=by rw [Lp Y4 hY4 _];try omega
    generalize DE Y4 10=Y14 at*
    refine Ab ?_;refine AB (A8 (a:=10) (b:=10) rfl rfl) rfl ?_;refine AZ ?_;refine F6 ?_;refine FA ?_;refine AK [6,7,10,11,58] (fun (zz:Nat×AA 8)=>⟨79,AU [6,7,10,11,58] [AY 0,AY 1,AY 2,AY 3,At (((zz.1:Nat):Int))],[BP (Ac 64),Fz (Y4),Fz (Y14),BP (zz.2)]⟩) (fun j27=>(j27,DL Y4 Y14 j27)) (64) K_ ?_ ?_
    ·intro j27 hj27
     try dsimp only
     have hX15:(DL Y4 Y14 j27).length=64:=by rw [Lt Y4 Y14 _];try omega
     rw [DL.eq_2,K1]
     generalize DL Y4 Y14 j27=X15 at*
     refine Ab ?_;refine HM ?_;refine Eg ?_;refine B5 16 mixed K_ rfl rfl rfl ?_;refine Ca ?_;refine gA ?_;refine fo ?_;refine Il ?_;refine gA ?_;refine fo ?_;refine Dk ?_;refine Mu ?_;refine AH (OU (b:=4) rfl rfl O_ O_) rfl ?_;refine Ud ?_;refine AH (Hp rfl rfl) rfl ?_;refine AH (F9 rfl underlying106 underlying5 (yY _)) rfl ?_;refine gV ?_;refine BJ ?_;refine Ct ?_;refine Cj ?_;exact ⟨(j27+1,_),K_,rfl⟩
    ·try dsimp only
     have hY16:(DL Y4 Y14 64).length=64:=by rw [Lt Y4 Y14 _];try omega
     generalize DL Y4 Y14 64=Y16 at*
     refine Ab ?_;refine Lr ?_;refine AZ ?_;refine jm ?_;refine OQ ?_;refine Ar ?_;rw [hP.out]
     exact jK
@[simp] theorem ADz(key:AA 8)(counter:BitVec 32)(nonce:AA 8)(_hkey:key.length=32)(_hnonce:nonce.length=12):(Cp key counter nonce).length=64:=by
 unfold Cp
 (simp [Lt, *];done)
attribute [irreducible] Cp
def RB(key:AA 8)(counter:BitVec 32)(nonce:AA 8)(j3:Nat)(X3:AA 8)(j7:Nat):AA 8:=put X3 ((64*j3)+j7) ((nth X3 ((64*j3)+j7))^^^(nth (Cp key (counter+(BitVec.ofNat 32 ((64*j3)/64))) nonce) (((64*j3)+j7)-(64*j3))))
def GY(key:AA 8)(counter:BitVec 32)(nonce X1:AA 8)(j3:Nat):Nat→AA 8
 |0=>X1
 |j7+1=>RB key counter nonce j3 (GY key counter nonce X1 j3 j7) j7
@[simp] theorem MS(key:AA 8)(counter:BitVec 32)(nonce X1:AA 8)(j3 j7:Nat):(GY key counter nonce X1 j3 j7).length=X1.length:=by
 induction j7 with
 |zero=>(simp [GY, *];done)
 |succ j7 ih=>rw [GY.eq_2,RB];(simp [ih];done)
def P2(key:AA 8)(counter:BitVec 32)(nonce t X1:AA 8)(j3:Nat):AA 8:=(GY key counter nonce X1 j3 (min (64*j3+64) t.length-64*j3))
def GR(key:AA 8)(counter:BitVec 32)(nonce t:AA 8):Nat→AA 8
 |0=>t
 |j3+1=>P2 key counter nonce t (GR key counter nonce t j3) j3
theorem Jy(key:AA 8)(counter:BitVec 32)(nonce t:AA 8)(_hkey:key.length=32)(_hnonce:nonce.length=12)(j3:Nat):(GR key counter nonce t j3).length=t.length:=by
 induction j3 with
 |zero=>(simp [GR, *];done)
 |succ j3 ih=>rw [GR.eq_2,P2];(simp [ih];done)
def G0(key:AA 8)(counter:BitVec 32)(nonce t:AA 8):AA 8:=(GR key counter nonce t ((t.length+63)/64))
theorem Ae{A B:Prop}(a:A)(b:B)(k:r)(h:A→B→Hid r→g:=by intro a b h;refine CQ (Ah (bs:=[]) a b K_ K_ rfl B4) AT rfl ?_;exact h.out):g:=h a b ⟨k⟩
theorem Wy(k:r)(h:Hid r→g:=by intro h;refine Ap (yx rfl rfl rfl underlying23 underlying23 KM Wg O_ AM) AT rfl ?_;exact h.out):g:=h ⟨k⟩
theorem Hc(k:r)(h:Hid r→g:=by intro h;refine AB (Oc rfl underlying23) rfl ?_;refine AB (A8 rfl rfl) rfl ?_;exact h.out):g:=h ⟨k⟩
theorem Bg(k:r)(h:Hid r→g:=by intro h;refine S_ ?_;refine A2 ?_;refine AB (A9 rfl rfl QH Pg B7 D_) rfl ?_;exact h.out):g:=h ⟨k⟩
theorem gF(k:r)(h:Hid r→g:=by intro h;refine AB (VD (b:=64) rfl rfl O_ O_) rfl ?_;exact h.out):g:=h ⟨k⟩
theorem RK(k:r)(h:Hid r→g:=by intro h;refine AB (VY rfl rfl) rfl ?_;exact h.out):g:=h ⟨k⟩
theorem QW(k:r)(h:Hid r→g:=by intro h;refine AB (A9 rfl rfl xF ADU B7 D_) rfl ?_;exact h.out):g:=h ⟨k⟩
theorem XW(k:r)(h:Hid r→g:=by intro h;refine AB (B8 (b:=64) rfl rfl O_) rfl ?_;exact h.out):g:=h ⟨k⟩
theorem Of(k:r)(h:Hid r→g:=by intro h;refine AH (F1 rfl rfl underlying23 Bt O_) rfl ?_;exact h.out):g:=h ⟨k⟩
theorem EK(k:r)(h:Hid r→g:=by intro h;refine AH (ZF rfl rfl UR EO) rfl ?_;exact h.out):g:=h ⟨k⟩
theorem Cc(k:r)(h:Hid r→g:=by intro h;refine AR ?_;refine S_ ?_;refine A2 ?_;refine AB (Ao rfl) rfl ?_;refine AB (B8 (b:=1) rfl rfl O_) rfl ?_;refine AB (A6 rfl) rfl ?_;refine AR ?_;exact h.out):g:=h ⟨k⟩
theorem lB(key:AA 8)(counter:BitVec 32)(nonce b:AA 8)(o n cap:Nat)(hkey:key.length=32)(hnonce:nonce.length=12)(hb:o+n≤b.length)(hn:n≤1099511627776):Ev prog (.call 76 [BM (key),.c (.val (EQ counter)),BM (nonce),.c (.sl 0 o n cap 1)] [A0 (b)]) (.val (.c (.sl 1 0 n n 1)) [A0 (b),BP (G0 key counter nonce (cut b o n))]):=by
 have hP:=Hid.mk (G0.eq_1 key counter nonce (cut b o n))
 have ht:(cut b o n).length=n:=by rw [BV];omega
 try simp only [ht] at hP
 refine AI func76 rfl ntmps76 rfl AM ?_;refine BO ?_;refine Ai ?_;refine UF ?_;refine AX ?_;refine Wy ?_;refine Ai ?_;refine Al ?_;refine AK [1,4,6,9,10] (fun (zz:Nat×AA 8)=>⟨52,AU [1,4,6,9,10] [.c (.val (EQ (counter))),AY 1,AY 2,.c (.sl 3 0 n n 1),At (((64*zz.1:Nat):Int))],[A0 (b),BP (key),BP (nonce),BP (zz.2)]⟩) (fun j3=>(j3,GR key counter nonce (cut b o n) j3)) ((n+63)/64) K_ ?_ ?_
 ·intro j3 hj3
  try dsimp only
  have hX1:(GR key counter nonce (cut b o n) j3).length=n:=by rw [Jy key counter nonce (cut b o n) hkey hnonce _];try omega
  rw [GR.eq_2,P2]
  try simp only [ht]
  generalize GR key counter nonce (cut b o n) j3=X1 at*
  refine CK ?_;refine Hc ?_;refine AR ?_;have hQ2:(Cp key (counter+(BitVec.ofNat 32 ((64*j3)/64))) nonce).length=64:=AP
  refine Bg ?_;refine LU ?_;refine gF ?_;refine AB (F9 rfl underlying3 underlying106 (AKE _)) rfl ?_;refine RK ?_;refine QW ?_;refine Ae (bG key (counter+(BitVec.ofNat 32 ((64*j3)/64))) nonce AD AD) AAt ?_;refine F6 ?_;refine OQ ?_;refine Eg ?_;refine AK [1,4,6,9,10,11,12] (fun (zz:Nat×AA 8)=>⟨52,AU [1,4,6,9,10,11,12] [.c (.val (EQ (counter))),AY 1,AY 2,.c (.sl 3 0 n n 1),At (((64*j3:Nat):Int)),AY 4,At ((((64*j3)+zz.1:Nat):Int))],[A0 (b),BP (key),BP (nonce),BP (zz.2),BP (Cp key (counter+(BitVec.ofNat 32 ((64*j3)/64))) nonce)]⟩) (fun j7=>(j7,GY key counter nonce X1 j3 j7)) (min (64*j3+64) n-64*j3) K_ ?_ ?_
  ·intro j7 hj7
   try dsimp only
   have hX3:(GY key counter nonce X1 j3 j7).length=n:=by rw [MS key counter nonce X1 j3 _];try omega
   rw [GY.eq_2,RB]
   try simp only [ht,hX1]
   generalize GY key counter nonce X1 j3 j7=X3 at*
   refine CK ?_;refine XW ?_;refine AX ?_;refine D7 ?_;refine AB (aI rfl rfl) rfl ?_;refine OE ?_;refine Ar ?_;refine B5 11 mixed K_ rfl rfl rfl ?_;refine Ca ?_;refine Of ?_;refine EK ?_;refine Ca ?_;refine AH (E4 rfl rfl O_ O_) rfl ?_;refine gV ?_;refine EK ?_;refine AH (OW rfl rfl) rfl ?_;refine Of ?_;refine BJ ?_;refine Ct ?_;refine Cc ?_;exact ⟨(j7+1,_),K_,rfl⟩
  ·try dsimp only
   have hY4:(GY key counter nonce X1 j3 (min (64*j3+64) n-64*j3)).length=n:=by rw [MS key counter nonce X1 j3 _];try omega
   generalize GY key counter nonce X1 j3 (min (64*j3+64) n-64*j3)=Y4 at*
   refine CK ?_;refine XW ?_;refine AX ?_;refine D7 ?_;refine AB (aI rfl rfl) rfl ?_;refine OE ?_;refine Ak ?_;refine XW ?_;refine BZ ?_;exact ⟨(j3+1,_),K_,rfl⟩
 ·try dsimp only
  have hY5:(GR key counter nonce (cut b o n) ((n+63)/64)).length=n:=by rw [Jy key counter nonce (cut b o n) hkey hnonce _];try omega
  generalize GR key counter nonce (cut b o n) ((n+63)/64)=Y5 at*
  refine CK ?_;refine Hc ?_;refine Eg ?_;rw [hP.out]
  exact CF
theorem vO(key:AA 8)(counter:BitVec 32)(nonce b:AA 8)(n cap:Nat)(hkey:key.length=32)(hnonce:nonce.length=12)(hb:b.length=n)(hn:n≤1099511627776):Ev prog (.call 76 [BM (key),.c (.val (EQ counter)),BM (nonce),.c (.sl 0 0 n cap 1)] [A0 (b)]) (.val (.c (.sl 1 0 n n 1)) [A0 (b),BP (G0 key counter nonce b)]):=by
 have h_:=lB key counter nonce b 0 n cap hkey hnonce O_ hn
 rw [IE hb] at h_
 exact h_
@[simp] theorem JB(key:AA 8)(counter:BitVec 32)(nonce t:AA 8)(hkey:key.length=32)(hnonce:nonce.length=12):(G0 key counter nonce t).length=t.length:=by
 unfold G0
 (simp [Jy, *];done)
attribute [irreducible] G0
def IY(r:AA 8)(o:Nat):Nat→BitVec 64
 |0=>0#64
 |k+1=>IY r o k ||| ((nth r (o+k)).setWidth 64<<<(8*k))
theorem qG(r:AA 8)(o n cap:Nat)(hl:o+n≤r.length)(hn:n≤65536):Ev prog (.call 196 [.c (.sl 0 o n cap 1)] [A0 r]) (.val (.c (.val (Bp (IY r o n)))) [A0 r]):=by
 refine AI func196 rfl ntmps196 rfl AM ?_;refine P3 ?_;refine BF ?_;refine D7 ?_;refine V5 ?_;refine ZK [2,3,6,7,8] rfl ?_;refine od [2,3,6,7,8] (fun (x:Nat×BitVec 64)=>⟨22,AU [2,3,6,7,8] [.c (.val (.int .u64 0)),.c (.val (Bp x.2)),.c (.sl 0 o n cap 1),.c (.val (.int .i64 n)),.c (.val (.int .i64 x.1))],[.row false (.a8 r)]⟩) (fun j=>(j,IY r o j)) n rfl ?r ?e
 case r=>
  intro j hj
  simp only [IY]
  refine Vx ?_;refine Ak ?_;refine oS ?_;refine GA ?_;refine S5 ?_;refine Be ?_;refine qY ?_;refine AX ?_;refine KN ?_;refine AB (CM rfl rfl) rfl ?_;refine Ld ?_;refine Ai ?_;refine Nl ?_;exact ⟨_,K_,rfl⟩
 case e=>
  dsimp only
  refine Vx ?_;refine Ar ?_;refine A1 ?_;refine Al ?_;exact CF
def C7(r:AA 8)(i:Nat):BitVec 64:=(IY r (i/8) (min (i/8+5) r.length-i/8)>>>(i%8))&&&67108863#64
theorem Oo(k:r)(h:Hid r→g:=by intro h;refine AB (VD (b:=8) rfl rfl O_ O_) rfl ?_;exact h.out):g:=h ⟨k⟩
theorem Qi(k:r)(h:Hid r→g:=by intro h;refine AB (OU (b:=8) rfl rfl O_ O_) rfl ?_;exact h.out):g:=h ⟨k⟩
theorem fE(r:AA 8)(n cap i:Nat)(hl:r.length=n)(hn:n≤65536)(hi:i/8≤n):Ev prog (.call 184 [.c (.sl 0 0 n cap 1),At i] [A0 r]) (.val (.c (.val (Bp (C7 r i)))) [A0 r]):=by
 subst hl
 refine AI func184 rfl ntmps184 rfl AM ?_;refine Ab ?_;refine Be ?_;refine Oo ?_;refine AX ?_;refine Oo ?_;refine AB (B8 (b:=5) rfl rfl O_) rfl ?_;refine AX ?_;refine D7 ?_;refine AB (aI rfl rfl) rfl ?_;refine AB (iA rfl underlying23 Bt rfl rfl O_ O_) rfl ?_;refine CQ (Ah (qG r _ _ _ O_ O_) nY rfl rfl rfl B4) AT rfl ?_;refine AX ?_;refine Qi ?_;refine YR ?_;refine AB (Gk (b:=67108863#64) rfl rfl) rfl ?_;refine Al ?_;exact CF
def Bc(l:AA 64):Nat→AA 64×BitVec 64
 |0=>(l,0#64)
 |k+1=>(put (Bc l k).1 k ((nth (Bc l k).1 k+(Bc l k).2)&&&67108863#64),(nth (Bc l k).1 k+(Bc l k).2)>>>26)
theorem jS(l:AA 64)(k:Nat):Bc l (k+1)=(put (Bc l k).1 k ((nth (Bc l k).1 k+(Bc l k).2)&&&67108863#64),(nth (Bc l k).1 k+(Bc l k).2)>>>26):=rfl
theorem Ge(l:AA 64)(k:Nat):(Bc l k).1.length=l.length:=by
 induction k with
 |zero=>rfl
 |succ k ih=>simp [Bc,ih]
def Av(l:AA 64):AA 64:=put (Bc l 5).1 0 (nth (Bc l 5).1 0+5#64*(Bc l 5).2)
abbrev Aw(x:List (BitVec 64)):AV:= .agg (.a64 x)
theorem BA(k:r)(h:Hid r→g:=by intro h;refine S_ ?_;refine A2 ?_;refine Ap (Sw yp AM) AT rfl ?_;exact h.out):g:=h ⟨k⟩
theorem Xn(k:r)(h:Hid r→g:=by intro h;refine Ap (Ay AE3 AM) AT rfl ?_;exact h.out):g:=h ⟨k⟩
theorem Gy(k:r)(h:Hid r→g:=by intro h;refine S_ ?_;refine A2 ?_;refine AB (A8 (b:=5) rfl rfl) rfl ?_;exact h.out):g:=h ⟨k⟩
theorem IN(k:r)(h:Hid r→g:=by intro h;refine AB (AN rfl rfl underlying213 Am O_) rfl ?_;exact h.out):g:=h ⟨k⟩
theorem Ed(k:r)(h:Hid r→g:=by intro h;refine AB (GS rfl rfl KK EO) rfl ?_;refine AB (Ao rfl) rfl ?_;exact h.out):g:=h ⟨k⟩
theorem EW(k:r)(h:Hid r→g:=by intro h;refine AB (Tv rfl rfl) rfl ?_;exact h.out):g:=h ⟨k⟩
theorem D4(k:r)(h:Hid r→g:=by intro h;refine fB rfl rfl rfl Am EO AT ?_;exact h.out):g:=h ⟨k⟩
theorem A3(k:r)(h:Hid r→g:=by intro h;refine AB (GS rfl rfl KK EO) rfl ?_;exact h.out):g:=h ⟨k⟩
theorem Zx(k:r)(h:Hid r→g:=by intro h;refine AB (AN (j:=0) rfl rfl underlying213 Am O_) rfl ?_;exact h.out):g:=h ⟨k⟩
theorem Ri(k:r)(h:Hid r→g:=by intro h;refine AB (A9 rfl rfl iI iX B7 D_) rfl ?_;exact h.out):g:=h ⟨k⟩
theorem YD(k:r)(h:Hid r→g:=by intro h;refine Bs rfl rfl rfl rfl iX B7 B7 AT ?_;exact h.out):g:=h ⟨k⟩
theorem NG(l:AA 64)(hl:l.length=5):Ev prog (.call 197 [Aw l] []) (.val (Aw (Av l)) []):=by
 refine AI func197 rfl ntmps197 rfl AM ?_;refine BA ?_;refine Xn ?_;refine AZ ?_;refine BF ?_;refine AR ?_;refine ZK [5,3,1,2] rfl ?_;refine S_ ?_;refine od [5,3,1,2] (fun (x:Nat×BitVec 64×AA 64)=>⟨31,AU [5,3,1,2] [.c (.val (.int .i64 x.1)),.c (.val (Bp x.2.1)),.c (.ptr 0 0),.c (.ptr 1 0)],[.row true (.a64 x.2.2),.row true (.a64 (AC 5))]⟩) (fun j=>(j,(Bc l j).2,(Bc l j).1)) 5 rfl ?r ?e
 case r=>
  intro j hj
  have h1:(Bc l j).1.length=5:=by rw [Ge,hl]
  generalize hS:(Bc l j).1=S at*
  generalize hC:(Bc l j).2=C at*
  dsimp only
  refine Gy ?_;refine Ak ?_;refine BF ?_;refine IN ?_;refine Ed ?_;refine EW ?_;refine IN ?_;refine D4 ?_;refine Ak ?_;refine IN ?_;refine A3 ?_;refine AB (CW (j:=26) rfl rfl) rfl ?_;refine BF ?_;refine IN ?_;refine A3 ?_;refine AB (Gk (b:=67108863#64) rfl rfl) rfl ?_;refine IN ?_;refine D4 ?_;refine Cj ?_;refine ⟨(_,_,_),rfl,?_⟩
  simp only [Bc,hS,hC,sm,XL,CD _ _ _ _ (show j<S.length by omega),if_true]
 case e=>
  have h1:(Bc l 5).1.length=5:=by rw [Ge,hl]
  have hE:Av l=put (Bc l 5).1 0 (nth (Bc l 5).1 0+5#64*(Bc l 5).2):=rfl
  generalize hS:(Bc l 5).1=S at*
  generalize hC:(Bc l 5).2=C at*
  rw [hE]
  dsimp only
  refine Gy ?_;refine Ar ?_;refine Ab ?_;refine Zx ?_;refine Ed ?_;refine AB (Gx (a:=5#64) rfl rfl) rfl ?_;refine EW ?_;refine Zx ?_;refine D4 ?_;refine AZ ?_;refine Ri ?_;refine YD ?_;refine Ar ?_;exact kG (Hu rfl rfl iI iX B7 D_) (by (kernel_rfl))
theorem mb(l:AA 64):Av l=put (Bc l 5).1 0 (nth (Bc l 5).1 0+5#64*(Bc l 5).2):=rfl
@[simp] theorem EY(l:AA 64):(Av l).length=l.length:=by simp [Av,Ge]
attribute [irreducible] Av
def jF(a b s:AA 64)(i j:Nat):AA 64:=
 put s ((i+j)%5) (nth s ((i+j)%5)+if 5≤i+j then nth a i*nth b j*5#64 else nth a i*nth b j)
def RF(a b s:AA 64)(i:Nat):Nat→AA 64
 |0=>s
 |j+1=>jF a b (RF a b s i j) i j
def Iy(a b:AA 64):Nat→AA 64
 |0=>AC 5
 |i+1=>RF a b (Iy a b i) i 5
theorem K9(a b s:AA 64)(i:Nat):∀j,(RF a b s i j).length=s.length
 |0=>rfl
 |j+1=>by simp [RF,jF,K9 a b s i j]
theorem IW(a b:AA 64):∀i,(Iy a b i).length=5
 |0=>rfl
 |i+1=>by rw [Iy,K9,IW a b i]
def Sn(a b:AA 64):AA 64:=Av (Av (Iy a b 5))
theorem ei(a b:AA 64):Sn a b=Av (Av (Iy a b 5)):=rfl
@[simp] theorem dj(a b:AA 64):(Sn a b).length=5:=by rw [Sn,EY,EY,IW]
attribute [irreducible] Sn
abbrev Bb(x:List (BitVec 64)):Row:= .row true (.a64 x)
theorem SG(k:r)(h:Hid r→g:=by intro h;refine B5 8 mixed K_ rfl rfl rfl ?_;exact h.out):g:=h ⟨k⟩
theorem AW(k:r)(h:Hid r→g:=by intro h;refine AH (Ao rfl) rfl ?_;exact h.out):g:=h ⟨k⟩
theorem ov(k:r)(h:Hid r→g:=by intro h;refine AH (AN rfl rfl underlying213 Am O_) rfl ?_;exact h.out):g:=h ⟨k⟩
theorem Fm(k:r)(h:Hid r→g:=by intro h;refine AH (GS rfl rfl KK EO) rfl ?_;refine AH (Ao rfl) rfl ?_;exact h.out):g:=h ⟨k⟩
theorem DT(k:r)(h:Hid r→g:=by intro h;refine AH (GS rfl rfl KK EO) rfl ?_;exact h.out):g:=h ⟨k⟩
theorem Ft(k:r)(h:Hid r→g:=by intro h;refine AH (A6 rfl) rfl ?_;refine BJ ?_;exact h.out):g:=h ⟨k⟩
theorem po(k:r)(h:Hid r→g:=by intro h;refine AB (OU (b:=5) rfl rfl O_ O_) rfl ?_;exact h.out):g:=h ⟨k⟩
theorem yR(a b:AA 64)(ha:a.length=5)(hb:b.length=5):Ev prog (.call 185 [Aw a,Aw b] []) (.val (Aw (Sn a b)) []):=by
 refine AI func185 rfl ntmps185 rfl AM ?_;refine BO ?_;refine Xn ?_;refine AZ ?_;refine Xn ?_;refine FA ?_;refine AK [2,3,5,9,4] (fun (x:Nat×AA 64)=>⟨42,AU [2,3,5,9,4] [AY 0,AY 1,AY 2,At (x.1),AY 3],[Bb (a),Bb (b),Bb (x.2),Bb (AC 5)]⟩) (fun j=>(j,Iy a b j)) (5) K_ ?_ ?_
 ·intro i hi
  have h1:(Iy a b i).length=5:=IW a b i
  simp only [Iy]
  generalize Iy a b i=S at*
  refine Gy ?_;refine Ak ?_;refine BF ?_;refine Ar ?_;refine AK [2,3,5,9,4,6,12] (fun (x:Nat×AA 64)=>⟨42,AU [2,3,5,9,4,6,12] [AY 0,AY 1,AY 2,At (i),AY 3,At (i),At (x.1)],[Bb (a),Bb (b),Bb (x.2),Bb (AC 5)]⟩) (fun j=>(j,RF a b S i j)) (5) K_ ?_ ?_
  ·intro j hj
   have h2:(RF a b S i j).length=5:=by rw [K9,h1]
   simp only [RF]
   generalize RF a b S i j=U at*
   unfold jF
   refine Gy ?_;refine Eg ?_;refine SG ?_;refine AW ?_;refine ov ?_;refine Fm ?_;refine ov ?_;refine DT ?_;refine AH (Gx rfl rfl) rfl ?_;refine Ft ?_;refine GW ?_;refine Rb ?_;refine AB (XH (b:=5) rfl rfl) rfl ?_;refine AR ?_;by_cases h5:5≤i+j
   ·rw [if_pos h5]
    refine A1 ?_;refine AB (Gx (b:=5#64) rfl rfl) rfl ?_;refine Be ?_;refine Rb ?_;refine po ?_;refine IN ?_;refine Ed ?_;refine EW ?_;refine IN ?_;refine D4 ?_;refine Cj ?_;exact ⟨_,K_,rfl⟩
   ·rw [if_neg h5]
    refine CK ?_;refine Rb ?_;refine po ?_;refine IN ?_;refine Ed ?_;refine EW ?_;refine IN ?_;refine D4 ?_;refine Cj ?_;exact ⟨_,K_,rfl⟩
  ·dsimp only
   have h3:(RF a b S i 5).length=5:=by rw [K9,h1]
   refine Gy ?_;refine Cj ?_;exact ⟨_,K_,rfl⟩
 ·dsimp only
  have h1:(Iy a b 5).length=5:=IW a b 5
  rw [ei]
  generalize Iy a b 5=S at*
  refine Gy ?_;refine AZ ?_;refine Ri ?_;refine CQ (Ah (NG _ h1) aP rfl rfl rfl B4) AT rfl ?_;refine CQ (Ah (NG _ (by rw [EY];exact h1)) aP rfl rfl rfl B4) AT rfl ?_
  refine YD ?_;refine Ar ?_;exact kG (Hu rfl rfl iI iX B7 D_) (by (kernel_rfl))
theorem wP(x y c:BitVec 64)(h:c.toNat≤1):(Cm x y c).toNat≤1:=by
 unfold Cm
 rw [BitVec.toNat_ofNat]
 have:=x.isLt
 have:=y.isLt
 omega
def Lf(h:AA 64):AA 64:=
 if 0<(Bc (put (Av (Av (Av h))) 0 (nth (Av (Av (Av h))) 0+5#64)) 5).2.toNat
 then (Bc (put (Av (Av (Av h))) 0 (nth (Av (Av (Av h))) 0+5#64)) 5).1 else Av (Av (Av h))
def loL(h:AA 64):BitVec 64:=(nth h 0 ||| (nth h 1<<<26)) ||| (nth h 2<<<52)
def hiL(h:AA 64):BitVec 64:=((nth h 2>>>12) ||| (nth h 3<<<14)) ||| (nth h 4<<<40)
def Hz(lo hi:BitVec 64):Nat→AA 8
 |0=>Ac 16
 |k+1=>put (put (Hz lo hi k) k ((lo>>>(8*k)).setWidth 8)) (8+k) ((hi>>>(8*k)).setWidth 8)
theorem Mv(lo hi:BitVec 64)(k:Nat):(Hz lo hi k).length=16:=by
 induction k with
 |zero=>rfl
 |succ k ih=>simp [Hz,ih]
def VI(h:AA 64)(key:AA 8):AA 8:=
 Hz (loL (Lf h)+IY key 16 8+0#64) (hiL (Lf h)+IY key 24 8+Cm (loL (Lf h)) (IY key 16 8) 0#64) 8
theorem Xr(h:AA 64)(key:AA 8):VI h key=Hz (loL (Lf h)+IY key 16 8+0#64) (hiL (Lf h)+IY key 24 8+Cm (loL (Lf h)) (IY key 16 8) 0#64) 8:=rfl
@[simp] theorem UN(h:AA 64)(key:AA 8):(VI h key).length=16:=by rw [Xr,Mv]
theorem fZ(h S:AA 64)(e:Av (Av (Av h))=S):Lf h=if 0<(Bc (put S 0 (nth S 0+5#64)) 5).2.toNat then (Bc (put S 0 (nth S 0+5#64)) 5).1 else S:=by subst e;rfl
theorem kr(h:AA 64):(Lf h).length=h.length:=by
 unfold Lf
 split<;>simp [Ge]
attribute [irreducible] VI loL hiL Lf
attribute [local irreducible] IY
theorem O4(k:r)(h:Hid r→g:=by intro h;refine Ap (Ay dQ AM) AT rfl ?_;exact h.out):g:=h ⟨k⟩
theorem Jw(k:r)(h:Hid r→g:=by intro h;refine Bs rfl rfl rfl rfl Qs B7 B7 AT ?_;exact h.out):g:=h ⟨k⟩
theorem ao(h:g:=by exact kG (Hu rfl rfl OA Qs B7 D_) (by (kernel_rfl))):g:=h
theorem AFK(h:AA 64)(key:AA 8)(hh:h.length=5)(hk:key.length=32):Ev prog (.call 186 [Aw h,BM key] []) (.val (BM (VI h key)) []):=by
 have hS:(Av (Av (Av h))).length=5:=by simp [hh]
 have hM:=fZ h _ rfl
 have hE:=Xr h key
 refine AI func186 rfl ntmps186 rfl AM ?_;refine BO ?_;refine O4 ?_;refine AZ ?_;refine Ri ?_;refine CQ (Ah (NG _ hh) aP rfl rfl rfl B4) AT rfl ?_;refine CQ (Ah (NG _ (by simp [hh])) aP rfl rfl rfl B4) AT rfl ?_
 refine CQ (Ah (NG _ (by simp [hh])) aP rfl rfl rfl B4) AT rfl ?_
 refine YD ?_;refine AR ?_;generalize Av (Av (Av h))=S at*
 refine Ab ?_;refine Ri ?_;refine Xn ?_;refine YD ?_;refine AZ ?_;refine Zx ?_;refine A3 ?_;refine AB (Tv (b:=5#64) rfl rfl) rfl ?_;refine Zx ?_;refine D4 ?_;refine AZ ?_;refine BF ?_;refine Ar ?_;refine AK [2,3,4,5,6,21] (fun (x:Nat×AA 64×BitVec 64)=>⟨99,AU [2,3,4,5,6,21] [AY 0,AY 1,AY 2,AY 3,.c (.val (Bp (x.2.2))),At (x.1)],[Bb (S),BP (key),BP (Ac 16),Bb (x.2.1)]⟩) (fun j=>(j,Bc (put S 0 (nth S 0+5#64)) j)) (5) K_ ?_ ?_
 ·intro j hj
  have h1:(Bc (put S 0 (nth S 0+5#64)) j).1.length=5:=by rw [Ge,BW,hS]
  rw [jS]
  generalize Bc (put S 0 (nth S 0+5#64)) j=U at*
  obtain ⟨U,C⟩:=U
  dsimp only at h1 ⊢
  refine Gy ?_;refine Ak ?_;refine BF ?_;refine IN ?_;refine Ed ?_;refine EW ?_;refine IN ?_;refine D4 ?_;refine Ak ?_;refine IN ?_;refine A3 ?_;refine AB (CW (j:=26) rfl rfl) rfl ?_;refine BF ?_;refine IN ?_;refine A3 ?_;refine AB (Gk (b:=67108863#64) rfl rfl) rfl ?_;refine IN ?_;refine D4 ?_;refine Cj ?_;refine ⟨(_,_,_),rfl,?_⟩
  simp only [sm,XL,CD _ _ _ _ (show j<U.length by omega),if_true]
 ·have h1:(Bc (put S 0 (nth S 0+5#64)) 5).1.length=5:=by rw [Ge,BW,hS]
  generalize Bc (put S 0 (nth S 0+5#64)) 5=U at*
  obtain ⟨U,C⟩:=U
  dsimp only at h1 hM ⊢
  refine Gy ?_;refine Ak ?_;refine AB (rQ (b:=0#64) rfl rfl) rfl ?_;refine EA ?_;refine Eb [2,3,4] (fun (x:AA 64)=>⟨99,AU [2,3,4] [AY 0,AY 1,AY 2],[Bb (x),BP (key),BP (Ac 16)]⟩) (Lf h) rfl (fun hb=>?_) (fun hb=>?_) ?_
  ·refine S_ ?_
   refine Ab ?_;refine Ri ?_;refine YD ?_;refine AR ?_;refine ⟨_,rfl,?_⟩
   rw [hM,if_pos (show 0<C.toNat from of_decide_eq_true hb)]
  ·refine S_ ?_
   refine ⟨_,rfl,?_⟩
   rw [hM,if_neg (show ¬0<C.toNat from of_decide_eq_false hb)]
  have hL:(Lf h).length=5:=by rw [kr,hh]
  have hlo:loL (Lf h)=(nth (Lf h) 0 ||| (nth (Lf h) 1<<<26)) ||| (nth (Lf h) 2<<<52):=by with_unfolding_all rfl
  have hhi:hiL (Lf h)=((nth (Lf h) 2>>>12) ||| (nth (Lf h) 3<<<14)) ||| (nth (Lf h) 4<<<40):=by with_unfolding_all rfl
  rw [hlo,hhi] at hE
  clear hM hlo hhi
  generalize Lf h=U at*
  refine Ab ?_;refine Zx ?_;refine A3 ?_;refine AB (AN (j:=1) rfl rfl underlying213 Am O_) rfl ?_;refine A3 ?_;refine AB (CM (j:=26) rfl rfl) rfl ?_;refine Ld ?_;refine AB (AN (j:=2) rfl rfl underlying213 Am O_) rfl ?_;refine A3 ?_;refine AB (CM (j:=52) rfl rfl) rfl ?_;refine Ld ?_;refine Ai ?_;refine AB (AN (j:=2) rfl rfl underlying213 Am O_) rfl ?_;refine A3 ?_;refine AB (CW (j:=12) rfl rfl) rfl ?_;refine AB (AN (j:=3) rfl rfl underlying213 Am O_) rfl ?_;refine A3 ?_;refine AB (CM (j:=14) rfl rfl) rfl ?_;refine Ld ?_;refine AB (AN (j:=4) rfl rfl underlying213 Am O_) rfl ?_;refine A3 ?_;refine AB (CM (j:=40) rfl rfl) rfl ?_;refine Ld ?_;refine BF ?_;refine AB (IH (l:=16) (h:=24) (len:=8) (cp:=16) rfl underlying37 Bt rfl rfl rfl O_ O_ T6 rfl rfl) rfl ?_;refine CQ (Ah (qG key _ 8 _ O_ O_) nY rfl rfl rfl B4) AT rfl ?_;refine CQ (qt ZR rfl rfl rfl (c:=0#64) rfl D_) AT rfl ?_;refine Ch ?_;refine FB ?_;refine AB (IH (l:=24) (h:=32) (len:=8) (cp:=8) rfl underlying37 Bt rfl rfl rfl O_ O_ T6 rfl rfl) rfl ?_;refine CQ (Ah (qG key _ 8 _ O_ O_) nY rfl rfl rfl B4) AT rfl ?_;refine AX ?_;refine CQ (qt ZR rfl rfl rfl rfl (wP _ _ _ D_)) AT rfl ?_;refine Ch ?_;refine Ai ?_;refine O4 ?_;refine Ak ?_;refine AR ?_;rw [hE]
  generalize (nth U 0 ||| nth U 1<<<26 ||| nth U 2<<<52)+IY key 16 8+0#64=lo
  generalize (nth U 2>>>12 ||| nth U 3<<<14 ||| nth U 4<<<40)+IY key 24 8+Cm (nth U 0 ||| nth U 1<<<26 ||| nth U 2<<<52) (IY key 16 8) 0#64=hi
  refine S_ ?_;refine AK [4,8,9,10,79] (fun (x:Nat×AA 8)=>⟨99,AU [4,8,9,10,79] [AY 0,.c (.val (Bp (lo))),.c (.val (Bp (hi))),AY 1,At (x.1)],[BP (Ac 16),BP (x.2)]⟩) (fun j=>(j,Hz lo hi j)) (8) K_ ?_ ?_
  ·intro j hj
   have h2:(Hz lo hi j).length=16:=Mv lo hi j
   simp only [Hz]
   generalize Hz lo hi j=V at*
   refine Ab ?_;refine Rc ?_;refine Eg ?_;refine ABQ mixed K_ ?_;refine NN (Ao rfl) rfl ?_;refine NN (Ao rfl) rfl ?_;refine NN (B8 (a:=8) rfl rfl O_) rfl ?_;refine NN (Ao rfl) rfl ?_;refine NN (Ao rfl) rfl ?_;refine NN (S8 (a:=8) rfl rfl O_) rfl ?_;refine NN (CW rfl rfl) rfl ?_;refine NN (F9 rfl underlying70 underlying5 (ABP _)) rfl ?_;refine NN (Ao rfl) rfl ?_;refine NN (Ao rfl) rfl ?_;refine NN (S8 (a:=8) rfl rfl O_) rfl ?_;refine NN (CW rfl rfl) rfl ?_;refine NN (F9 rfl underlying70 underlying5 (ABP _)) rfl ?_;refine NN (AN rfl rfl underlying121 Bt O_) rfl ?_;refine lW rfl rfl rfl Bt EO AT ?_;refine NN (AN rfl rfl underlying121 Bt O_) rfl ?_;refine lW rfl rfl rfl Bt EO AT ?_;refine AJv ?_;refine Ab ?_;refine Nl ?_;exact ⟨_,K_,rfl⟩
  ·dsimp only
   have h2:(Hz lo hi 8).length=16:=Mv lo hi 8
   generalize Hz lo hi 8=V at*
   refine Ab ?_;refine Rc ?_;refine AZ ?_;refine AB (A9 rfl rfl OA Qs B7 D_) rfl ?_;refine Jw ?_;refine Ar ?_;exact ao
def KF(l:AA 8):Nat→AA 8
 |0=>l
 |k+1=>put (KF l k) (4*k+3) (nth (KF l k) (4*k+3)&&&15#8)
def Jr(l:AA 8):Nat→AA 8
 |0=>l
 |k+1=>put (Jr l k) (4*k+4) (nth (Jr l k) (4*k+4)&&&252#8)
theorem LC(l:AA 8)(k:Nat):(KF l k).length=l.length:=by
 induction k with
 |zero=>rfl
 |succ k ih=>simp [KF,ih]
theorem Kz(l:AA 8)(k:Nat):(Jr l k).length=l.length:=by
 induction k with
 |zero=>rfl
 |succ k ih=>simp [Jr,ih]
def NU(key:AA 8):AA 8:=Jr (KF (cut key 0 16) 4) 3++[0#8]
def JT(b:AA 8):Nat→AA 64
 |0=>AC 5
 |k+1=>put (JT b k) k (C7 b (26*k))
theorem OK(b:AA 8)(k:Nat):(JT b k).length=5:=by
 induction k with
 |zero=>rfl
 |succ k ih=>simp [JT,ih]
def Vm(p:AA 8)(h:AA 64):Nat→AA 64
 |0=>h
 |k+1=>put (Vm p h k) k (nth (Vm p h k) k+C7 p (26*k))
theorem Si(p:AA 8)(h:AA 64)(k:Nat):(Vm p h k).length=h.length:=by
 induction k with
 |zero=>rfl
 |succ k ih=>simp [Vm,ih]
def V7(l:AA 8):Nat→AA 8
 |0=>l
 |k+1=>V7 l k++[0#8]
theorem Sx(l:AA 8)(k:Nat):(V7 l k).length=l.length+k:=by
 induction k with
 |zero=>rfl
 |succ k ih=>simp [V7,ih];omega
def piece(t:AA 8)(i:Nat):AA 8:=cut t i (min (i+16) t.length-i)++[1#8]
def L5(r:AA 64)(t:AA 8):Nat→AA 64
 |0=>AC 5
 |q+1=>Sn (Vm (V7 (piece t (16*q)) (17-(piece t (16*q)).length)) (L5 r t q) 5) r
theorem Jj(r:AA 64)(t:AA 8)(q:Nat):(L5 r t q).length=5:=by
 cases q with
 |zero=>rfl
 |succ q=>rw [L5,dj]
def KB(key t:AA 8):AA 8:=VI (L5 (JT (NU key) 5) t ((t.length+15)/16)) key
theorem AHa{j:Nat}(h:j<4):ntn [3,7,11,15] j=4*j+3:=by
 match j,h with
 |0,_=>rfl
 |1,_=>rfl
 |2,_=>rfl
 |3,_=>rfl
theorem AJ0{j:Nat}(h:j<3):ntn [4,8,12] j=4*j+4:=by
 match j,h with
 |0,_=>rfl
 |1,_=>rfl
 |2,_=>rfl
attribute [local irreducible] C7
theorem Ju(k:r)(h:Hid r→g:=by intro h;refine AB (F1 rfl rfl underlying23 Bt O_) rfl ?_;exact h.out):g:=h ⟨k⟩
theorem Rr(k:r)(h:Hid r→g:=by intro h;refine AB (B8 (b:=16) rfl rfl O_) rfl ?_;exact h.out):g:=h ⟨k⟩
theorem Mq(k:r)(h:Hid r→g:=by intro h;refine AH (Tv rfl rfl) rfl ?_;exact h.out):g:=h ⟨k⟩
theorem GM(k:r)(h:Hid r→g:=by intro h;refine AB (A9 rfl rfl QH Pg B7 D_) rfl ?_;exact h.out):g:=h ⟨k⟩
theorem oI(key t:AA 8)(n cap:Nat)(hk:key.length=32)(ht:t.length=n)(hn:n≤1099511627776):Ev prog (.call 147 [BM key,.c (.sl 0 0 n cap 1)] [A0 t]) (.val (BM (KB key t)) [A0 t]):=by
 have hP:KB key t=VI (L5 (JT (Jr (KF (cut key 0 16) 4) 3++[0#8]) 5) t ((n+15)/16)) key:=by rw [←ht];rfl
 have hcut:(cut key 0 16).length=16:=by rw [BV];omega
 refine AI func147 rfl ntmps147 rfl AM ?_;refine BA ?_;refine O4 ?_;refine AZ ?_;refine UF ?_;refine AB (IH (l:=0) (h:=16) (len:=16) (cp:=32) rfl underlying37 Bt rfl rfl rfl O_ O_ T6 rfl rfl) rfl ?_;refine Wy ?_;refine Ai ?_;refine Ap (fX (l:=ZA [3,7,11,15]) underlying41 oV rfl rfl D_ D_ AM) AT rfl ?_;refine pT ?_;refine fV ?_;generalize cut key 0 16=K at*
 refine S_ ?_;refine AK [2,4,5,19,20,21,1] (fun (x:Nat×AA 8)=>⟨101,AU [2,4,5,19,20,21,1] [AY 1,AY 2,.c (.sl 3 0 16 16 1),.c (.sl 4 0 4 4 1),At (((4:Nat):Int)),At (x.1),.c (.sl 0 0 n cap 1)],[A0 (t),BP (key),BP (Ac 16),BP (x.2),.row true (.ai (ZA [3,7,11,15]))]⟩) (fun j=>(j,KF K j)) (4) K_ ?_ ?_
 ·intro j hj
  have h1:(KF K j).length=16:=by rw [LC,hcut]
  simp only [KF]
  generalize KF K j=U at*
  refine U7 ?_;refine ACI ?_;refine AB (Qc rfl rfl E3 EO) rfl ?_;refine BZ ?_;rw [AHa hj]
  refine CK ?_;refine Ju ?_;refine GA ?_;refine AB (OH (b:=15#8) rfl rfl) rfl ?_;refine Ju ?_;refine Ct ?_;refine Cj ?_;exact ⟨_,K_,rfl⟩
 ·have h1:(KF K 4).length=16:=by rw [LC,hcut]
  generalize KF K 4=U at*
  dsimp only
  refine U7 ?_;refine Ap (fX (l:=ZA [4,8,12]) underlying41 oV rfl rfl D_ D_ AM) AT rfl ?_;refine pT ?_;refine V5 ?_;refine AK [2,4,5,32,33,34,1] (fun (x:Nat×AA 8)=>⟨101,AU [2,4,5,32,33,34,1] [AY 1,AY 2,.c (.sl 3 0 16 16 1),.c (.sl 4 0 3 3 1),At (((3:Nat):Int)),At (x.1),.c (.sl 0 0 n cap 1)],[A0 (t),BP (key),BP (Ac 16),BP (x.2),.row true (.ai (ZA [4,8,12]))]⟩) (fun j=>(j,Jr U j)) (3) K_ ?_ ?_
  ·intro j hj
   have h2:(Jr U j).length=16:=by rw [Kz,h1]
   simp only [Jr]
   generalize Jr U j=V at*
   refine U7 ?_;refine ACI ?_;refine AB (Qc rfl rfl E3 EO) rfl ?_;refine BZ ?_;rw [AJ0 hj]
   refine CK ?_;refine Ju ?_;refine GA ?_;refine AB (OH (b:=252#8) rfl rfl) rfl ?_;refine Ju ?_;refine Ct ?_;refine Cj ?_;exact ⟨_,K_,rfl⟩
  ·have h2:(Jr U 3).length=16:=by rw [Kz,h1]
   generalize Jr U 3=V at*
   dsimp only
   refine U7 ?_;refine Xn ?_;refine Xn ?_;refine Ak ?_;refine Wf ?_;refine DD ?_;refine BF ?_;refine AR ?_;have h3:(V++[0#8]).length=17:=by simp [h2]
   generalize V++[0#8]=W at*
   refine S_ ?_;refine AK [2,4,5,10,11,48,1] (fun (x:Nat×AA 64)=>⟨101,AU [2,4,5,10,11,48,1] [AY 1,AY 2,.c (.sl 3 0 17 17 1),AY 4,AY 5,At (x.1),.c (.sl 0 0 n cap 1)],[A0 (t),BP (key),BP (Ac 16),BP (W),Bb (x.2),Bb (AC 5)]⟩) (fun j=>(j,JT W j)) (5) K_ ?_ ?_
   ·intro j hj
    have h4:(JT W j).length=5:=OK W j
    simp only [JT]
    generalize JT W j=X at*
    refine Gy ?_;refine Ak ?_;refine Be ?_;refine AX ?_;refine AB (S8 (a:=26) rfl rfl O_) rfl ?_;refine CQ (Ah (fE W 17 _ _ h3 O_ O_) xq rfl rfl rfl B4) AT rfl ?_;refine IN ?_;refine D4 ?_;refine Cj ?_;exact ⟨_,K_,rfl⟩
   ·have h4:(JT W 5).length=5:=OK W 5
    generalize JT W 5=X at*
    dsimp only
    refine Gy ?_;refine B0 ?_;refine AK [2,4,10,11,13,1] (fun (x:Nat×AA 64)=>⟨101,AU [2,4,10,11,13,1] [AY 1,AY 2,AY 3,AY 4,At (x.1),.c (.sl 0 0 n cap 1)],[A0 (t),BP (key),BP (Ac 16),Bb (X),Bb (x.2)]⟩) (fun q=>(16*q,L5 X t q)) ((n+15)/16) K_ ?_ ?_
    ·intro q hq
     have h5:(L5 X t q).length=5:=Jj X t q
     have hp:piece t (16*q)=cut t (16*q) (min (16*q+16) n-16*q)++[1#8]:=by rw [←ht];rfl
     have hc:(cut t (16*q) (min (16*q+16) n-16*q)).length=min (16*q+16) n-16*q:=by rw [BV];omega
     have hz:(cut t (16*q) (min (16*q+16) n-16*q)++[1#8]).length=min (16*q+16) n-16*q+1:=by rw [List.length_append,hc];rfl
     rw [L5,hp,hz]
     generalize L5 X t q=H at*
     refine CK ?_;refine Hc ?_;refine AZ ?_;refine UF ?_;refine LU ?_;refine AX ?_;refine Rr ?_;refine AX ?_;refine D7 ?_;refine AB (aI rfl rfl) rfl ?_;refine AB (iA rfl underlying23 Bt rfl rfl O_ O_) rfl ?_;refine Wy ?_;refine Ap (fN (l:=[1#8]) underlying23 KM rfl rfl D_ D_ AM) AT rfl ?_;refine DD ?_;refine BZ ?_;clear hp hc
     have hz1:min (16*q+16) n-16*q+1≤17:=by omega
     generalize cut t (16*q) (min (16*q+16) n-16*q)++[1#8]=Z at*
     generalize min (16*q+16) n-16*q+1=z at*
     refine S_ ?_;refine AK [2,4,10,11,13,1,14] (fun (x:Nat×AA 8)=>⟨101,AU [2,4,10,11,13,1,14] [AY 1,AY 2,AY 3,AY 4,At (((16*q:Nat):Int)),.c (.sl 0 0 n cap 1),.c (.sl 5 0 (z+x.1) (z+x.1) 1)],[A0 (t),BP (key),BP (Ac 16),Bb (X),Bb (H),BP (x.2)]⟩) (fun k=>(k,V7 Z k)) (17-z) K_ ?_ ?_
     ·intro k hk
      have h6:(V7 Z k).length=z+k:=by rw [Sx,hz]
      simp only [V7]
      generalize V7 Z k=Y at*
      refine JI ?_;refine AB (A8 (b:=17) rfl rfl) rfl ?_;refine Ak ?_;refine Wf ?_;refine DD ?_;refine BZ ?_;exact ⟨_,K_,rfl⟩
     ·have h6:(V7 Z (17-z)).length=z+(17-z):=by rw [Sx,hz]
      have hy:z+(17-z)=17:=by omega
      dsimp only
      generalize V7 Z (17-z)=Y at*
      generalize z+(17-z)=y at*
      refine JI ?_;refine AB (A8 (b:=17) rfl rfl) rfl ?_;refine FA ?_;refine AK [2,4,10,11,13,1,14,82] (fun (x:Nat×AA 64)=>⟨101,AU [2,4,10,11,13,1,14,82] [AY 1,AY 2,AY 3,AY 4,At (((16*q:Nat):Int)),.c (.sl 0 0 n cap 1),.c (.sl 5 0 y y 1),At (x.1)],[A0 (t),BP (key),BP (Ac 16),Bb (X),Bb (x.2),BP (Y)]⟩) (fun i=>(i,Vm Y H i)) (5) K_ ?_ ?_
      ·intro i hi
       have h7:(Vm Y H i).length=5:=by rw [Si,h5]
       simp only [Vm]
       generalize Vm Y H i=G at*
       refine Gy ?_;refine Eg ?_;refine SG ?_;refine AW ?_;refine ov ?_;refine DT ?_;refine Ca ?_;refine AH (S8 (a:=26) rfl rfl O_) rfl ?_;refine Hw (Ah (fE Y y _ _ h6 O_ O_) xq rfl rfl rfl B4) AT rfl ?_;refine Mq ?_;refine BJ ?_;refine IN ?_;refine D4 ?_;refine Cj ?_;exact ⟨_,K_,rfl⟩
      ·have h7:(Vm Y H 5).length=5:=by rw [Si,h5]
       dsimp only
       generalize Vm Y H 5=G at*
       refine Gy ?_;refine AZ ?_;refine Ri ?_;refine Ri ?_;refine Li (yR G X h7 h4) AHP ?_;refine YD ?_;refine Ak ?_;refine Rr ?_;refine BZ ?_;exact ⟨(16*q+16,_),K_,by rw [Nat.mul_succ]⟩
    ·have h5:(L5 X t ((n+15)/16)).length=5:=Jj X t _
     rw [hP]
     dsimp only
     generalize L5 X t ((n+15)/16)=H at*
     refine CK ?_;refine Hc ?_;refine AZ ?_;refine Ri ?_;refine GM ?_;refine Li (AFK H key h5 hk) AHB ?_;refine Jw ?_;refine Ar ?_;exact ao
@[simp] theorem ADs(key t:AA 8):(KB key t).length=16:=by with_unfolding_all exact UN _ _
def VT(ad tx:AA 8)(j5:Nat)(X5:AA 8)(j8:Nat):AA 8:=X5++[((BitVec.ofNat 64 (ntn [ad.length,tx.length] j5))>>>(8*j8)).setWidth 8]
def GI(ad tx X4:AA 8)(j5:Nat):Nat→AA 8
 |0=>X4
 |j8+1=>VT ad tx j5 (GI ad tx X4 j5 j8) j8
@[simp] theorem Pi(ad tx X4:AA 8)(j5 j8:Nat):(GI ad tx X4 j5 j8).length=X4.length+j8:=by
 induction j8 with
 |zero=>(simp [GI, *];done)
 |succ j8 ih=>rw [GI.eq_2,VT];(simp [ih];omega)
def ND(ad tx X4:AA 8)(j5:Nat):AA 8:=(GI ad tx X4 j5 8)
def Fk(ad tx:AA 8):Nat→AA 8
 |0=>Ky ((Ky ad)++tx)
 |j5+1=>ND ad tx (Fk ad tx j5) j5
@[simp] theorem Pz(ad tx:AA 8)(j5:Nat):(Fk ad tx j5).length=(((ad.length+(16-ad.length%16)%16)+tx.length)+(16-((ad.length+(16-ad.length%16)%16)+tx.length)%16)%16)+8*j5:=by
 induction j5 with
 |zero=>(simp [Fk, *];done)
 |succ j5 ih=>rw [Fk.eq_2,ND];(simp [ih];omega)
def Mp(key nonce ad tx:AA 8):AA 8:=KB (cut (Cp key 0#32 nonce) 0 32) (Fk ad tx 2)
theorem lU(key nonce ad:AA 8)(an acap:Nat)(b:AA 8)(o n cap:Nat)(hkey:key.length=32)(hnonce:nonce.length=12)(had:ad.length=an)(han:an≤1099511627)(hb:o+n≤b.length)(hn:n≤1099511627):Ev prog (.call 108 [BM (key),BM (nonce),.c (.sl 0 0 an acap 1),.c (.sl 1 o n cap 1)] [A0 (ad),A0 (b)]) (.val (BM (Mp key nonce ad (cut b o n))) [A0 (ad),A0 (b)]):=by
 have hP:=Hid.mk (Mp.eq_1 key nonce ad (cut b o n))
 subst had
 have htx:(cut b o n).length=n:=by rw [BV];omega
 try simp only [htx] at hP
 refine AI func108 rfl ntmps108 rfl AM ?_;refine BO ?_;refine O4 ?_;refine AR ?_;have hQ1:(Cp key 0#32 nonce).length=64:=AP
 refine Bg ?_;refine QW ?_;refine Ae (bG key 0#32 nonce AD AD) AAt ?_;refine F6 ?_;refine OQ ?_;refine AR ?_;have hQ2:(Ky ad).length=ad.length+(16-ad.length%16)%16:=AP
 refine Ab ?_;refine UF ?_;refine AX ?_;refine Ap (sD rfl rfl rfl underlying23 underlying23 KM Iz O_ AM) AT rfl ?_;refine Hl (MB (bs:=[6]) (eH ad ad.length ad.length AD AD) AAn K_ rfl rfl B4 AT) rfl ?_;refine BZ ?_;have hQ3:(Ky ((Ky ad)++(cut b o n))).length=((ad.length+(16-ad.length%16)%16)+n)+(16-((ad.length+(16-ad.length%16)%16)+n)%16)%16:=AP
 refine CK ?_;refine AC2 rfl rfl rfl rfl underlying23 underlying23 KM Iz Wg O_ AM AT rfl ?_;refine Hl (MB (bs:=[8]) (eH ((Ky ad)++(cut b o n)) ((ad.length+(16-ad.length%16)%16)+n) ((ad.length+(16-ad.length%16)%16)+n) AD AD) AAn K_ rfl rfl B4 AT) rfl ?_;refine BF ?_;refine D7 ?_;refine AX ?_;refine D7 ?_;refine Ap (fX (l:=[_,_]) underlying41 oV rfl rfl D_ D_ AM) AT rfl ?_;refine pT ?_;refine V5 ?_;refine AK [8,9,10,29,30,31] (fun (zz:Nat×AA 8)=>⟨54,AU [8,9,10,29,30,31] [AY 2,AY 3,.c (.sl 4 0 ((((ad.length+(16-ad.length%16)%16)+n)+(16-((ad.length+(16-ad.length%16)%16)+n)%16)%16)+8*zz.1) ((((ad.length+(16-ad.length%16)%16)+n)+(16-((ad.length+(16-ad.length%16)%16)+n)%16)%16)+8*zz.1) 1),.c (.sl 5 0 2 2 1),At (((2:Nat):Int)),At (((zz.1:Nat):Int))],[A0 (ad),A0 (b),BP (Ac 16),BP (Cp key 0#32 nonce),BP (zz.2),.row true (.ai (ZA [ad.length,n]))]⟩) (fun j5=>(j5,Fk ad (cut b o n) j5)) (2) K_ ?_ ?_
 ·intro j5 hj5
  try dsimp only
  have hX4:(Fk ad (cut b o n) j5).length=(((ad.length+(16-ad.length%16)%16)+n)+(16-((ad.length+(16-ad.length%16)%16)+n)%16)%16)+8*j5:=by rw [Pz ad (cut b o n) _];try omega
  rw [Fk.eq_2,ND]
  try simp only [htx]
  generalize Fk ad (cut b o n) j5=X4 at*
  refine Ab ?_;refine AB (A8 (b:=2) rfl rfl) rfl ?_;refine AZ ?_;refine ACI ?_;refine AB (Qc rfl rfl E3 EO) rfl ?_;refine BF ?_;refine Ar ?_;refine AK [8,9,10,12,29,30,31,35] (fun (zz:Nat×AA 8)=>⟨54,AU [8,9,10,12,29,30,31,35] [AY 2,AY 3,.c (.sl 4 0 (((((ad.length+(16-ad.length%16)%16)+n)+(16-((ad.length+(16-ad.length%16)%16)+n)%16)%16)+8*j5)+zz.1) (((((ad.length+(16-ad.length%16)%16)+n)+(16-((ad.length+(16-ad.length%16)%16)+n)%16)%16)+8*j5)+zz.1) 1),At (((ntn [ad.length,n] j5:Nat):Int)),.c (.sl 5 0 2 2 1),At (((2:Nat):Int)),At (((j5:Nat):Int)),At (((zz.1:Nat):Int))],[A0 (ad),A0 (b),BP (Ac 16),BP (Cp key 0#32 nonce),BP (zz.2),.row true (.ai (ZA [ad.length,n]))]⟩) (fun j8=>(j8,GI ad (cut b o n) X4 j5 j8)) (8) K_ ?_ ?_
  ·intro j8 hj8
   try dsimp only
   have hX5:(GI ad (cut b o n) X4 j5 j8).length=((((ad.length+(16-ad.length%16)%16)+n)+(16-((ad.length+(16-ad.length%16)%16)+n)%16)%16)+8*j5)+j8:=by rw [Pi ad (cut b o n) X4 j5 _];try omega
   rw [GI.eq_2,VT]
   try simp only [htx]
   generalize GI ad (cut b o n) X4 j5 j8=X5 at*
   refine Ab ?_;refine Rc ?_;refine Ak ?_;refine Be ?_;refine Yr ?_;refine AX ?_;refine KN ?_;refine YR ?_;refine RS ?_;refine Yp ?_;refine DD ?_;refine Ai ?_;refine Nl ?_;exact ⟨(j8+1,_),K_,rfl⟩
  ·try dsimp only
   have hY6:(GI ad (cut b o n) X4 j5 8).length=((((ad.length+(16-ad.length%16)%16)+n)+(16-((ad.length+(16-ad.length%16)%16)+n)%16)%16)+8*j5)+8:=by rw [Pi ad (cut b o n) X4 j5 _];try omega
   generalize GI ad (cut b o n) X4 j5 8=Y6 at*
   refine Ab ?_;refine Ub ?_;refine Cj ?_;exact ⟨(j5+1,_),K_,rfl⟩
 ·try dsimp only
  have hY7:(Fk ad (cut b o n) 2).length=(((ad.length+(16-ad.length%16)%16)+n)+(16-((ad.length+(16-ad.length%16)%16)+n)%16)%16)+8*2:=by rw [Pz ad (cut b o n) _];try omega
  generalize Fk ad (cut b o n) 2=Y7 at*
  refine Ab ?_;refine AB (A8 (a:=2) (b:=2) rfl rfl) rfl ?_;refine AR ?_;have hQ8:(cut (Cp key 0#32 nonce) 0 32).length=32:=AP
  have hQ9:(KB (cut (Cp key 0#32 nonce) 0 32) Y7).length=16:=AP
  refine Ab ?_;refine AB (IH (l:=0) (h:=32) (len:=32) (cp:=64) rfl underlying105 Bt rfl rfl rfl O_ O_ T6 rfl rfl) rfl ?_;refine AB (fq rfl underlying37 O_ D_) rfl ?_;refine AB (V8 rfl rfl QH Pg Wg D_) rfl ?_;refine AX ?_;refine Li (oI (cut (Cp key 0#32 nonce) 0 32) Y7 ((((ad.length+(16-ad.length%16)%16)+n)+(16-((ad.length+(16-ad.length%16)%16)+n)%16)%16)+8*2) ((((ad.length+(16-ad.length%16)%16)+n)+(16-((ad.length+(16-ad.length%16)%16)+n)%16)%16)+8*2) AD AD AD) AGo ?_;refine Jw ?_;refine Ar ?_;rw [hP.out]
  exact ao
theorem uk(key nonce ad:AA 8)(an acap:Nat)(b:AA 8)(n cap:Nat)(hkey:key.length=32)(hnonce:nonce.length=12)(had:ad.length=an)(han:an≤1099511627)(hb:b.length=n)(hn:n≤1099511627):Ev prog (.call 108 [BM (key),BM (nonce),.c (.sl 0 0 an acap 1),.c (.sl 1 0 n cap 1)] [A0 (ad),A0 (b)]) (.val (BM (Mp key nonce ad b)) [A0 (ad),A0 (b)]):=by
 have h_:=lU key nonce ad an acap b 0 n cap hkey hnonce had han O_ hn
 rw [IE hb] at h_
 exact h_
@[simp] theorem AHh(key nonce ad tx:AA 8)(_hkey:key.length=32)(_hnonce:nonce.length=12):(Mp key nonce ad tx).length=16:=by
 unfold Mp
 (simp [*];done)
attribute [irreducible] Mp
def IR(key nonce text:AA 8):AA 8:=G0 key 1#32 nonce text
def Jl(key nonce ad text:AA 8):AA 8:=Mp key nonce ad (G0 key 1#32 nonce text)
theorem KI(k:r)(h:Hid r→g:=by intro h;refine B5 3 mixed K_ rfl rfl rfl ?_;exact h.out):g:=h ⟨k⟩
theorem gn(k:r)(h:Hid r→g:=by intro h;refine AH (A9 rfl rfl OA Qs B7 D_) rfl ?_;exact h.out):g:=h ⟨k⟩
theorem qP(key nonce ad:AA 8)(an acap:Nat)(text:AA 8)(tn tcap:Nat)(hkey:key.length=32)(hnonce:nonce.length=12)(had:ad.length=an)(han:an≤1099511627)(htext:text.length=tn)(htn:tn≤1099511627):Ev prog (.call 75 [At ((0:Nat):Int),BM (key),BM (nonce),.c (.sl 0 0 an acap 1),.c (.sl 1 0 tn tcap 1)] [A0 (ad),A0 (text)]) (.val (.tup [.c (.sl 2 0 tn tn 1),BM (Jl key nonce ad text)]) [A0 (ad),A0 (text),BP (IR key nonce text)]):=by
 have hP_adWork00:Hid (IR key nonce text=G0 key 1#32 nonce text):=⟨rfl⟩
 have hP_adWork01:Hid (Jl key nonce ad text=Mp key nonce ad (G0 key 1#32 nonce text)):=⟨rfl⟩
 subst had
 subst htext
 refine AI func75 rfl ntmps75 rfl AM ?_;refine BO ?_;refine S5 ?_;refine O4 ?_;refine Ak ?_;refine AZ ?_;refine AB (DC (a:=0) (b:=0) rfl rfl) rfl ?_;refine BZ ?_;have hQ1:(G0 key 1#32 nonce text).length=text.length:=AP
 refine Bg ?_;refine QW ?_;refine AX ?_;refine CQ (Ah (bs:=[1]) (vO key 1#32 nonce text text.length tcap AD AD AD AD) ADg K_ K_ rfl B4) AT rfl ?_;refine BZ ?_;have hQ2:(Mp key nonce ad (G0 key 1#32 nonce text)).length=16:=AP
 refine Bg ?_;refine QW ?_;refine LU ?_;refine CQ (Ah (bs:=[0,5]) (uk key nonce ad ad.length acap (G0 key 1#32 nonce text) text.length text.length AD AD AD AD AD AD) zj K_ K_ rfl B4) AT rfl ?_;refine Jw ?_;refine Ar ?_;refine KI ?_;refine AW ?_;refine gn ?_;refine Ft ?_;refine Jw ?_;refine Ar ?_;rw [hP_adWork00.out,hP_adWork01.out]
 exact k_2 (Iu rfl) (Hu rfl rfl OA Qs B7 D_) (by (kernel_rfl))
@[simp] theorem ACg(key nonce text:AA 8)(hkey:key.length=32)(hnonce:nonce.length=12):(IR key nonce text).length=text.length:=by
 unfold IR
 (simp [*];done)
attribute [irreducible] IR
@[simp] theorem ACA(key nonce ad text:AA 8)(hkey:key.length=32)(hnonce:nonce.length=12):(Jl key nonce ad text).length=16:=by
 unfold Jl
 (simp [*];done)
attribute [irreducible] Jl
def Cx(key nonce ad tx:AA 8):AA 8:=Mp key nonce ad tx
theorem cw(key nonce ad:AA 8)(an acap:Nat)(b:AA 8)(o n cap:Nat)(hkey:key.length=32)(hnonce:nonce.length=12)(had:ad.length=an)(han:an≤1099511627)(hb:o+n≤b.length)(hn:n≤1099511627):Ev prog (.call 75 [At ((1:Nat):Int),BM (key),BM (nonce),.c (.sl 0 0 an acap 1),.c (.sl 1 o n cap 1)] [A0 (ad),A0 (b)]) (.val (.tup [.c (.sl 1 o n cap 1),BM (Cx key nonce ad (cut b o n))]) [A0 (ad),A0 (b)]):=by
 have hP_adWork11:Hid (Cx key nonce ad (cut b o n)=Mp key nonce ad (cut b o n)):=⟨rfl⟩
 subst had
 have htx:(cut b o n).length=n:=by rw [BV];omega
 try simp only [htx] at hP_adWork11
 refine AI func75 rfl ntmps75 rfl AM ?_;refine BO ?_;refine S5 ?_;refine O4 ?_;refine Ak ?_;refine AZ ?_;refine AB (DC (a:=1) (b:=0) rfl rfl) rfl ?_;refine Ai ?_;refine AB (DC (a:=1) (b:=1) rfl rfl) rfl ?_;refine BZ ?_;have hQ1:(Mp key nonce ad (cut b o n)).length=16:=AP
 refine Bg ?_;refine QW ?_;refine LU ?_;refine CQ (Ah (bs:=[0,1]) (lU key nonce ad ad.length acap b o n cap AD AD AD AD AD AD) zj K_ K_ rfl B4) AT rfl ?_;refine Jw ?_;refine Ar ?_;refine KI ?_;refine AW ?_;refine gn ?_;refine Ft ?_;refine Jw ?_;refine Ar ?_;rw [hP_adWork11.out]
 exact k_2 (Iu rfl) (Hu rfl rfl OA Qs B7 D_) (by (kernel_rfl))
@[simp] theorem ACO(key nonce ad tx:AA 8)(hkey:key.length=32)(hnonce:nonce.length=12):(Cx key nonce ad tx).length=16:=by
 unfold Cx
 (simp [*];done)
attribute [irreducible] Cx
def Ej(key nonce ad text:AA 8):AA 8:=(IR key nonce text)++(Jl key nonce ad text)
theorem Ip(k:r)(h:Hid r→g:=by intro h;refine AB (Ao rfl) rfl ?_;refine Ee KL ?_;refine AB (Ao rfl) rfl ?_;refine Ee KL ?_;exact h.out):g:=h ⟨k⟩
theorem SJ(k:r)(h:Hid r→g:=by intro h;refine AB (gm rfl PK_ rfl) rfl ?_;refine AR ?_;exact h.out):g:=h ⟨k⟩
theorem uu(key nonce ad:AA 8)(an acap:Nat)(text:AA 8)(tn tcap:Nat)(hkey:key.length=32)(hnonce:nonce.length=12)(had:ad.length=an)(han:an≤1099511627)(htext:text.length=tn)(htn:tn≤1099511627)(hA:an≤65536)(hT:tn≤65536):Ev prog (.call 103 [BM (key),BM (nonce),.c (.sl 0 0 an acap 1),.c (.sl 1 0 tn tcap 1)] [A0 (ad),A0 (text)]) (.val (.tup [.c (.sl 2 0 (tn+16) (tn+16) 1),At ((0:Nat):Int)]) [A0 (ad),A0 (text),BP (Ej key nonce ad text)]):=by
 have hP_adSeal0:Hid (Ej key nonce ad text=(IR key nonce text)++(Jl key nonce ad text)):=⟨rfl⟩
 subst had
 subst htext
 refine AI func103 rfl ntmps103 rfl AM ?_;refine BO ?_;refine FB ?_;refine D7 ?_;refine JE ?_;refine Ip ?_;refine D7 ?_;refine Ee KL ?_;refine JE ?_;refine SJ ?_;have hQ1:(IR key nonce text).length=text.length:=AP
 have hQ2:(Jl key nonce ad text).length=16:=AP
 refine Bg ?_;refine QW ?_;refine LU ?_;refine CQ (Ah (bs:=[0,1]) (qP key nonce ad ad.length acap text text.length tcap AD AD AD AD AD AD) AAD K_ K_ rfl B4) AT rfl ?_;refine Ch ?_;refine O4 ?_;refine S5 ?_;refine Jw ?_;refine Ak ?_;refine AB (IH (l:=0) (h:=16) (len:=16) (cp:=16) rfl underlying121 Bt rfl rfl rfl O_ O_ T6 rfl rfl) rfl ?_;refine DD ?_;refine Ys ?_;rw [hP_adSeal0.out]
 exact UE
@[simp] theorem LP(key nonce ad text:AA 8)(hkey:key.length=32)(hnonce:nonce.length=12):(Ej key nonce ad text).length=text.length+16:=by
 unfold Ej
 (simp [*];done)
attribute [irreducible] Ej
def Dt(key nonce box:AA 8):AA 8:=G0 key 1#32 nonce (cut box 0 (box.length-16))
theorem rx{A B:Prop}(a:A)(b:B)(k:r)(h:A→B→Hid r→g:=by intro a b h;refine Hw (Ah (bs:=[0,1]) a b K_ K_ rfl B4) AT rfl ?_;exact h.out):g:=h a b ⟨k⟩
theorem gk(k:r)(h:Hid r→g:=by intro h;refine AI func53 rfl ntmps53 rfl AM ?_;exact h.out):g:=h ⟨k⟩
theorem cV(k:r)(h:Hid r→g:=by intro h;refine AB (E4 (b:=16) rfl rfl O_ O_) rfl ?_;exact h.out):g:=h ⟨k⟩
theorem Hk(k:r)(h:Hid r→g:=by intro h;refine B5 12 mixed K_ rfl rfl rfl ?_;exact h.out):g:=h ⟨k⟩
theorem Cn(k:r)(h:Hid r→g:=by intro h;refine AH (A9 rfl rfl QH Pg B7 D_) rfl ?_;exact h.out):g:=h ⟨k⟩
theorem ct(k:r)(h:Hid r→g:=by intro h;refine AH (A9 rfl rfl xF ADU B7 D_) rfl ?_;exact h.out):g:=h ⟨k⟩
theorem dI(k:r)(h:Hid r→g:=by intro h;refine AH (AAr rfl underlying23 Bt rfl O_) rfl ?_;exact h.out):g:=h ⟨k⟩
theorem Hd(k:r)(h:Hid r→g:=by intro h;refine AH (MW rfl) rfl ?_;refine AH (Bj rfl rfl) rfl ?_;refine AH (Bj rfl rfl) rfl ?_;exact h.out):g:=h ⟨k⟩
theorem Jd(k:r)(h:Hid r→g:=by intro h;refine S_ ?_;refine B5 7 mixed K_ rfl rfl rfl ?_;exact h.out):g:=h ⟨k⟩
theorem Fs(k:r)(h:Hid r→g:=by intro h;refine BJ ?_;refine AR ?_;refine Q_ ?_;exact h.out):g:=h ⟨k⟩
theorem uh(key nonce ad:AA 8)(an acap:Nat)(box:AA 8)(bn bcap:Nat)(hkey:key.length=32)(hnonce:nonce.length=12)(had:ad.length=an)(han:an≤1099511627)(hbox:box.length=bn)(hbn:bn≤1099511627)(hA:an≤65536)(h16:16≤bn)(hT:bn-16≤65536)(hE:Cx key nonce ad (cut box 0 (bn-16))=cut box (bn-16) 16):Ev prog (.call 53 [BM (key),BM (nonce),.c (.sl 0 0 an acap 1),.c (.sl 1 0 bn bcap 1)] [A0 (ad),A0 (box)]) (.val (.tup [.c (.sl 2 0 (bn-16) (bn-16) 1),At ((0:Nat):Int)]) [A0 (ad),A0 (box),BP (Dt key nonce box)]):=by
 have hP_adOpen0:Hid (Dt key nonce box=G0 key 1#32 nonce (cut box 0 (box.length-16))):=⟨rfl⟩
 subst had
 subst hbox
 refine gk ?_;refine BO ?_;refine FB ?_;refine D7 ?_;refine cV ?_;refine BF ?_;refine D7 ?_;refine JE ?_;refine Ip ?_;refine AB (A8 (b:=0) rfl rfl) rfl ?_;refine Dm ?_;refine Ip ?_;refine JE ?_;refine SJ ?_;have hQ1:(Cx key nonce ad (cut box 0 (box.length-16))).length=16:=AP
 refine S_ ?_;refine Hk ?_;refine Cn ?_;refine ct ?_;refine Ca ?_;refine AW ?_;refine dI ?_;refine rx (cw key nonce ad ad.length acap box 0 (box.length-16) bcap AD AD AD AD AD AD) AAD ?_;refine Hd ?_;refine Hn (Ay dQ AM) AT rfl ?_;refine Ft ?_;refine Jw ?_;refine AR ?_;have hQ2:(cut box (box.length-16) 16).length=16:=AP
 refine Jd ?_;refine gn ?_;refine Ca ?_;refine AH (iA rfl underlying23 Bt rfl rfl O_ O_) rfl ?_;refine AH (fq rfl underlying121 O_ D_) rfl ?_;refine AH (V8 rfl rfl OA Qs Wg D_) rfl ?_;refine AH (fu rfl rfl underlying121 underlying5 Bt B7 B7) rfl ?_;refine Fs ?_;refine Cg rfl (by simp [hE]) ?_
 have hQ3:(G0 key 1#32 nonce (cut box 0 (box.length-16))).length=box.length-16:=AP
 refine Bg ?_;refine QW ?_;refine AX ?_;refine CQ (Ah (bs:=[1]) (lB key 1#32 nonce box 0 (box.length-16) bcap AD AD AD AD) ADg K_ K_ rfl B4) AT rfl ?_;refine Ys ?_;rw [hP_adOpen0.out]
 exact UE
attribute [irreducible] Dt
theorem pv(key nonce ad:AA 8)(an acap:Nat)(box:AA 8)(bn bcap:Nat)(hkey:key.length=32)(hnonce:nonce.length=12)(had:ad.length=an)(han:an≤1099511627)(hbox:box.length=bn)(hbn:bn≤1099511627)(hA:an≤65536)(h16:16≤bn)(hT:bn-16≤65536)(hE:¬(Cx key nonce ad (cut box 0 (bn-16))=cut box (bn-16) 16)):Ev prog (.call 53 [BM (key),BM (nonce),.c (.sl 0 0 an acap 1),.c (.sl 1 0 bn bcap 1)] [A0 (ad),A0 (box)]) (.val (.tup [.c .nsl,At ((3:Nat):Int)]) [A0 (ad),A0 (box)]):=by
 subst had
 subst hbox
 refine gk ?_;refine BO ?_;refine FB ?_;refine D7 ?_;refine cV ?_;refine BF ?_;refine D7 ?_;refine JE ?_;refine Ip ?_;refine AB (A8 (b:=0) rfl rfl) rfl ?_;refine Dm ?_;refine Ip ?_;refine JE ?_;refine SJ ?_;have hQ1:(Cx key nonce ad (cut box 0 (box.length-16))).length=16:=AP
 refine S_ ?_;refine Hk ?_;refine Cn ?_;refine ct ?_;refine Ca ?_;refine AW ?_;refine dI ?_;refine rx (cw key nonce ad ad.length acap box 0 (box.length-16) bcap AD AD AD AD AD AD) AAD ?_;refine Hd ?_;refine Hn (Ay dQ AM) AT rfl ?_;refine Ft ?_;refine Jw ?_;refine AR ?_;have hQ2:(cut box (box.length-16) 16).length=16:=AP
 refine Jd ?_;refine gn ?_;refine Ca ?_;refine AH (iA rfl underlying23 Bt rfl rfl O_ O_) rfl ?_;refine AH (fq rfl underlying121 O_ D_) rfl ?_;refine AH (V8 rfl rfl OA Qs Wg D_) rfl ?_;refine AH (fu rfl rfl underlying121 underlying5 Bt B7 B7) rfl ?_;refine Fs ?_;refine FJ rfl (by simp [hE]) ?_
 refine Ab ?_;exact He
theorem oR(key nonce ad:AA 8)(an acap:Nat)(box:AA 8)(bn bcap:Nat)(_hkey:key.length=32)(_hnonce:nonce.length=12)(had:ad.length=an)(han:an≤1099511627)(hbox:box.length=bn)(hbn:bn≤1099511627)(hA:an≤65536)(h16:16≤bn)(hT:65536<bn-16):Ev prog (.call 53 [BM (key),BM (nonce),.c (.sl 0 0 an acap 1),.c (.sl 1 0 bn bcap 1)] [A0 (ad),A0 (box)]) (.val (.tup [.c .nsl,At ((2:Nat):Int)]) [A0 (ad),A0 (box)]):=by
 subst had
 subst hbox
 refine gk ?_;refine BO ?_;refine FB ?_;refine D7 ?_;refine cV ?_;refine BF ?_;refine D7 ?_;refine JE ?_;refine Ip ?_;refine AB (A8 (b:=0) rfl rfl) rfl ?_;refine Dm ?_;refine Ip ?_;refine JE ?_;refine Dm ?_;refine AZ ?_;exact He
theorem SZ(k:r)(h:Hid r→g:=by intro h;refine bB KL rfl ?_;refine bB KL rfl ?_;exact h.out):g:=h ⟨k⟩
theorem nj(key nonce ad:AA 8)(an acap:Nat)(box:AA 8)(bn bcap:Nat)(_hkey:key.length=32)(_hnonce:nonce.length=12)(had:ad.length=an)(han:an≤1099511627)(hbox:box.length=bn)(hbn:bn≤1099511627)(hA:an≤65536)(h16:bn<16):Ev prog (.call 53 [BM (key),BM (nonce),.c (.sl 0 0 an acap 1),.c (.sl 1 0 bn bcap 1)] [A0 (ad),A0 (box)]) (.val (.tup [.c .nsl,At ((2:Nat):Int)]) [A0 (ad),A0 (box)]):=by
 subst had
 subst hbox
 refine gk ?_;refine BO ?_;refine FB ?_;refine D7 ?_;refine AB (jf rfl rfl O_) rfl ?_;refine BF ?_;refine D7 ?_;refine JE ?_;refine Ip ?_;refine Yt ?_;refine Dm ?_;refine AX ?_;refine SZ ?_;refine HZ ?_;refine AZ ?_;exact He
def MN(b:AA 8)(o:Nat)(X1:BitVec 64)(j3:Nat):BitVec 64:=(X1<<<8) ||| ((nth b (o+j3)).setWidth 64)
def Ea(b:AA 8)(o:Nat):Nat→BitVec 64
 |0=>0#64
 |j3+1=>MN b o (Ea b o j3) j3
def MR(b:AA 8)(o n:Nat):BitVec 64:=(Ea b o n)
theorem dA(b:AA 8)(o n cap:Nat)(hb:o+n≤b.length)(hn:n≤8796093022208):Ev prog (.call 62 [.c (.sl 0 o n cap 1)] [A0 (b)]) (.val (.c (.val (Bp (MR b o n)))) [A0 (b)]):=by
 have hP:=Hid.mk (MR.eq_1 b o n)
 refine AI func62 rfl ntmps62 rfl AM ?_;refine P3 ?_;refine BF ?_;refine D7 ?_;refine V5 ?_;refine AK [3,6,7,8] (fun (zz:Nat×BitVec 64)=>⟨19,AU [3,6,7,8] [.c (.val (Bp (zz.2))),.c (.sl 0 o n cap 1),At (((n:Nat):Int)),At (((zz.1:Nat):Int))],[A0 (b)]⟩) (fun j3=>(j3,Ea b o j3)) (n) K_ ?_ ?_
 ·intro j3 hj3
  try dsimp only
  rw [Ea.eq_2,MN]
  generalize Ea b o j3=X1 at*
  refine U7 ?_;refine oS ?_;refine GA ?_;refine BF ?_;refine AB (CM (j:=8) rfl rfl) rfl ?_;refine AX ?_;refine qY ?_;refine Ld ?_;refine Ai ?_;refine Nl ?_;exact ⟨(j3+1,_),K_,rfl⟩
 ·try dsimp only
  generalize Ea b o n=Y2 at*
  refine Vx ?_;refine Eg ?_;rw [hP.out]
  exact CF
attribute [irreducible] MR
def F5(x:BitVec 64)(X1:AA 8)(j2:Nat):AA 8:=X1++[(x>>>(8*(7-j2))).setWidth 8]
def Bn(b:AA 8)(x:BitVec 64):Nat→AA 8
 |0=>b
 |j2+1=>F5 x (Bn b x j2) j2
@[simp] theorem Kb(b:AA 8)(x:BitVec 64)(j2:Nat):(Bn b x j2).length=b.length+j2:=by
 induction j2 with
 |zero=>(simp [Bn, *];done)
 |succ j2 ih=>rw [Bn.eq_2,F5];(simp [ih];omega)
def Cs(b:AA 8)(x:BitVec 64):AA 8:=(Bn b x 8)
theorem Io(k:r)(h:Hid r→g:=by intro h;refine AR ?_;refine S_ ?_;refine A2 ?_;refine AB (Ao rfl) rfl ?_;refine AB (Ao rfl) rfl ?_;refine AB (Ao rfl) rfl ?_;exact h.out):g:=h ⟨k⟩
theorem QV(b:AA 8)(n cap:Nat)(x:BitVec 64)(hb:b.length=n)(hn:n≤8796093022208):Ev prog (.call 101 [.c (.sl 0 0 n cap 1),.c (.val (Bp x))] [BP (b)]) (.val (.c (.sl 1 0 (n+8) (n+8) 1)) [.dead,BP (Cs b x)]):=by
 have hP:=Hid.mk (Cs.eq_1 b x)
 try simp only [hb] at hP
 refine AI func101 rfl ntmps101 rfl AM ?_;refine P3 ?_;refine Al ?_;refine xO 0 rfl rfl AM rfl ?_;refine S_ ?_;refine AK [0,1,5] (fun (zz:Nat×AA 8)=>⟨19,AU [0,1,5] [.c (.sl 1 0 (n+zz.1) (n+zz.1) 1),.c (.val (Bp (x))),At (((7:Nat):Int)-((zz.1:Nat):Int))],[.dead,BP (zz.2)]⟩) (fun j2=>(j2,Bn b x j2)) (8) K_ ?_ ?_
 ·intro j2 hj2
  try dsimp only
  have hX1:(Bn b x j2).length=n+j2:=by rw [Kb b x _];try omega
  rw [Bn.eq_2,F5]
  try simp only [hb]
  generalize Bn b x j2=X1 at*
  rw [show ((7:Nat):Int)-((j2:Nat):Int)=((7-j2:Nat):Int) from by omega]
  refine PH ?_;refine Io ?_;refine KN ?_;refine YR ?_;refine RS ?_;refine Yp ?_;refine DD ?_;refine BF ?_;refine PE ?_;refine ⟨(j2+1,_),(by
   dsimp only
   rw [show ((7:Nat):Int)-((j2+1:Nat):Int)=((7-j2:Nat):Int)-1 from by omega]
   kernel_rfl),rfl⟩
 ·try dsimp only
  have hY2:(Bn b x 8).length=n+8:=by rw [Kb b x _];try omega
  generalize Bn b x 8=Y2 at*
  refine RU ?_;refine Eg ?_;rw [hP.out]
  exact CF
@[simp] theorem ABV(b:AA 8)(x:BitVec 64):(Cs b x).length=b.length+8:=by
 unfold Cs
 (simp [Kb, *];done)
attribute [irreducible] Cs
def H1:AA 32:=[1116352408#32,1899447441#32,3049323471#32,3921009573#32,961987163#32,1508970993#32,2453635748#32,2870763221#32,3624381080#32,310598401#32,607225278#32,1426881987#32,1925078388#32,2162078206#32,2614888103#32,3248222580#32,3835390401#32,4022224774#32,264347078#32,604807628#32,770255983#32,1249150122#32,1555081692#32,1996064986#32,2554220882#32,2821834349#32,2952996808#32,3210313671#32,3336571891#32,3584528711#32,113926993#32,338241895#32,666307205#32,773529912#32,1294757372#32,1396182291#32,1695183700#32,1986661051#32,2177026350#32,2456956037#32,2730485921#32,2820302411#32,3259730800#32,3345764771#32,3516065817#32,3600352804#32,4094571909#32,275423344#32,430227734#32,506948616#32,659060556#32,883997877#32,958139571#32,1322822218#32,1537002063#32,1747873779#32,1955562222#32,2024104815#32,2227730452#32,2361852424#32,2428436474#32,2756734187#32,3204031479#32,3329325298#32]
theorem qN:Ev prog (.call 60 [] []) (.val (.c (.sl 0 0 64 64 1)) [Fz (H1)]):=by
 have hP:=Hid.mk (H1.eq_1)
 refine AI func60 rfl ntmps60 rfl AM ?_;refine P3 ?_;refine Ap (AFs (l:=[1116352408#32,1899447441#32,3049323471#32,3921009573#32,961987163#32,1508970993#32,2453635748#32,2870763221#32,3624381080#32,310598401#32,607225278#32,1426881987#32,1925078388#32,2162078206#32,2614888103#32,3248222580#32,3835390401#32,4022224774#32,264347078#32,604807628#32,770255983#32,1249150122#32,1555081692#32,1996064986#32,2554220882#32,2821834349#32,2952996808#32,3210313671#32,3336571891#32,3584528711#32,113926993#32,338241895#32,666307205#32,773529912#32,1294757372#32,1396182291#32,1695183700#32,1986661051#32,2177026350#32,2456956037#32,2730485921#32,2820302411#32,3259730800#32,3345764771#32,3516065817#32,3600352804#32,4094571909#32,275423344#32,430227734#32,506948616#32,659060556#32,883997877#32,958139571#32,1322822218#32,1537002063#32,1747873779#32,1955562222#32,2024104815#32,2227730452#32,2361852424#32,2428436474#32,2756734187#32,3204031479#32,3329325298#32]) underlying108 AGz rfl rfl D_ D_ AM) AT rfl ?_;refine Al ?_;rw [hP.out]
 exact CF
@[simp] theorem ADn:(H1).length=64:=by
 unfold H1
 (simp [*];done)
attribute [irreducible] H1
def H8:AA 64:=[4794697086780616226#64,8158064640168781261#64,13096744586834688815#64,16840607885511220156#64,4131703408338449720#64,6480981068601479193#64,10538285296894168987#64,12329834152419229976#64,15566598209576043074#64,1334009975649890238#64,2608012711638119052#64,6128411473006802146#64,8268148722764581231#64,9286055187155687089#64,11230858885718282805#64,13951009754708518548#64,16472876342353939154#64,17275323862435702243#64,1135362057144423861#64,2597628984639134821#64,3308224258029322869#64,5365058923640841347#64,6679025012923562964#64,8573033837759648693#64,10970295158949994411#64,12119686244451234320#64,12683024718118986047#64,13788192230050041572#64,14330467153632333762#64,15395433587784984357#64,489312712824947311#64,1452737877330783856#64,2861767655752347644#64,3322285676063803686#64,5560940570517711597#64,5996557281743188959#64,7280758554555802590#64,8532644243296465576#64,9350256976987008742#64,10552545826968843579#64,11727347734174303076#64,12113106623233404929#64,14000437183269869457#64,14369950271660146224#64,15101387698204529176#64,15463397548674623760#64,17586052441742319658#64,1182934255886127544#64,1847814050463011016#64,2177327727835720531#64,2830643537854262169#64,3796741975233480872#64,4115178125766777443#64,5681478168544905931#64,6601373596472566643#64,7507060721942968483#64,8399075790359081724#64,8693463985226723168#64,9568029438360202098#64,10144078919501101548#64,10430055236837252648#64,11840083180663258601#64,13761210420658862357#64,14299343276471374635#64,14566680578165727644#64,15097957966210449927#64,16922976911328602910#64,17689382322260857208#64,500013540394364858#64,748580250866718886#64,1242879168328830382#64,1977374033974150939#64,2944078676154940804#64,3659926193048069267#64,4368137639120453308#64,4836135668995329356#64,5532061633213252278#64,6448918945643986474#64,6902733635092675308#64,7801388544844847127#64]
theorem pM:Ev prog (.call 170 [] []) (.val (.c (.sl 0 0 80 80 1)) [Bb (H8)]):=by
 have hP:=Hid.mk (H8.eq_1)
 refine AI func170 rfl ntmps170 rfl AM ?_;refine P3 ?_;refine Ap (AFZ (l:=[4794697086780616226#64,8158064640168781261#64,13096744586834688815#64,16840607885511220156#64,4131703408338449720#64,6480981068601479193#64,10538285296894168987#64,12329834152419229976#64,15566598209576043074#64,1334009975649890238#64,2608012711638119052#64,6128411473006802146#64,8268148722764581231#64,9286055187155687089#64,11230858885718282805#64,13951009754708518548#64,16472876342353939154#64,17275323862435702243#64,1135362057144423861#64,2597628984639134821#64,3308224258029322869#64,5365058923640841347#64,6679025012923562964#64,8573033837759648693#64,10970295158949994411#64,12119686244451234320#64,12683024718118986047#64,13788192230050041572#64,14330467153632333762#64,15395433587784984357#64,489312712824947311#64,1452737877330783856#64,2861767655752347644#64,3322285676063803686#64,5560940570517711597#64,5996557281743188959#64,7280758554555802590#64,8532644243296465576#64,9350256976987008742#64,10552545826968843579#64,11727347734174303076#64,12113106623233404929#64,14000437183269869457#64,14369950271660146224#64,15101387698204529176#64,15463397548674623760#64,17586052441742319658#64,1182934255886127544#64,1847814050463011016#64,2177327727835720531#64,2830643537854262169#64,3796741975233480872#64,4115178125766777443#64,5681478168544905931#64,6601373596472566643#64,7507060721942968483#64,8399075790359081724#64,8693463985226723168#64,9568029438360202098#64,10144078919501101548#64,10430055236837252648#64,11840083180663258601#64,13761210420658862357#64,14299343276471374635#64,14566680578165727644#64,15097957966210449927#64,16922976911328602910#64,17689382322260857208#64,500013540394364858#64,748580250866718886#64,1242879168328830382#64,1977374033974150939#64,2944078676154940804#64,3659926193048069267#64,4368137639120453308#64,4836135668995329356#64,5532061633213252278#64,6448918945643986474#64,6902733635092675308#64,7801388544844847127#64]) underlying199 AKL rfl rfl D_ D_ AM) AT rfl ?_;refine Al ?_;rw [hP.out]
 exact CF
@[simp] theorem AEF:(H8).length=80:=by
 unfold H8
 (simp [*];done)
attribute [irreducible] H8
def Sv(X1:AA 8):AA 8:=X1++[0#8]
def Ey(tx:AA 8):Nat→AA 8
 |0=>tx++[128#8]
 |j3+1=>Sv (Ey tx j3)
@[simp] theorem OR(tx:AA 8)(j3:Nat):(Ey tx j3).length=(tx.length+1)+j3:=by
 induction j3 with
 |zero=>(simp [Ey, *];done)
 |succ j3 ih=>rw [Ey.eq_2,Sv];(simp [ih];omega)
def Hg(tx:AA 8):AA 8:=Cs (Ey tx ((120-(tx.length+1)%64)%64)) ((BitVec.ofNat 64 tx.length)<<<3)
theorem gQ(k:r)(h:Hid r→g:=by intro h;refine Ap (fN (l:=[128#8]) underlying23 KM rfl rfl D_ D_ AM) AT rfl ?_;exact h.out):g:=h ⟨k⟩
theorem U6(k:r)(h:Hid r→g:=by intro h;refine AB (OU (b:=64) rfl rfl O_ O_) rfl ?_;exact h.out):g:=h ⟨k⟩
theorem Jk(k:r)(h:Hid r→g:=by intro h;refine AR ?_;refine S_ ?_;refine A2 ?_;refine AB (Ao rfl) rfl ?_;refine AB (Oc rfl underlying23) rfl ?_;exact h.out):g:=h ⟨k⟩
theorem td(b:AA 8)(o n cap:Nat)(hb:o+n≤b.length)(hn:n≤4398046511104):Ev prog (.call 61 [.c (.sl 0 o n cap 1),At ((64:Nat):Int),At ((8:Nat):Int)] [A0 (b)]) (.val (.c (.sl 1 0 (((n+1)+(120-(n+1)%64)%64)+8) (((n+1)+(120-(n+1)%64)%64)+8) 1)) [A0 (b),BP (Hg (cut b o n))]):=by
 have hP:=Hid.mk (Hg.eq_1 (cut b o n))
 have htx:(cut b o n).length=n:=by rw [BV];omega
 try simp only [htx] at hP
 refine AI func61 rfl ntmps61 rfl AM ?_;refine P3 ?_;refine UF ?_;refine AX ?_;refine Wy ?_;refine BF ?_;refine gQ ?_;refine DD ?_;refine Al ?_;refine AK [0,1,2,7] (fun (zz:Nat×AA 8)=>⟨41,AU [0,1,2,7] [.c (.sl 0 o n cap 1),At (((64:Nat):Int)),At (((8:Nat):Int)),.c (.sl 1 0 ((n+1)+zz.1) ((n+1)+zz.1) 1)],[A0 (b),BP (zz.2)]⟩) (fun j3=>(j3,Ey (cut b o n) j3)) ((120-(n+1)%64)%64) K_ ?_ ?_
 ·intro j3 hj3
  try dsimp only
  have hX1:(Ey (cut b o n) j3).length=(n+1)+j3:=by rw [OR (cut b o n) _];try omega
  rw [Ey.eq_2,Sv]
  try simp only [htx]
  generalize Ey (cut b o n) j3=X1 at*
  refine JI ?_;refine AX ?_;refine U6 ?_;refine LU ?_;refine AB (E4 (a:=64) (b:=8) rfl rfl O_ O_) rfl ?_;refine AB (Ko (b:=56) rfl rfl) rfl ?_;refine Ak ?_;refine Wf ?_;refine DD ?_;refine BZ ?_;exact ⟨(j3+1,_),K_,rfl⟩
 ·try dsimp only
  have hY2:(Ey (cut b o n) ((120-(n+1)%64)%64)).length=(n+1)+(120-(n+1)%64)%64:=by rw [OR (cut b o n) _];try omega
  generalize Ey (cut b o n) ((120-(n+1)%64)%64)=Y2 at*
  refine JI ?_;refine AX ?_;refine U6 ?_;refine LU ?_;refine AB (E4 (a:=64) (b:=8) rfl rfl O_ O_) rfl ?_;refine AB (Ko (b:=56) rfl rfl) rfl ?_;refine Jk ?_;refine Yr ?_;refine BF ?_;refine AZ ?_;refine AB (DC (a:=8) (b:=16) rfl rfl) rfl ?_;refine BZ ?_;have hQ3:(Cs Y2 ((BitVec.ofNat 64 n)<<<3)).length=((n+1)+(120-(n+1)%64)%64)+8:=AP
  refine CK ?_;refine AB (CM (j:=3) rfl rfl) rfl ?_;refine Hl (MB (bs:=[1]) (QV Y2 ((n+1)+(120-(n+1)%64)%64) ((n+1)+(120-(n+1)%64)%64) ((BitVec.ofNat 64 n)<<<3) AD AD) pH K_ rfl rfl B4 AT) rfl ?_;refine BF ?_;refine Al ?_;rw [hP.out]
  exact CF
@[simp] theorem AFG(tx:AA 8):(Hg tx).length=((tx.length+1)+(120-(tx.length+1)%64)%64)+8:=by
 unfold Hg
 (simp [OR, *];done)
attribute [irreducible] Hg
def N8(tx:AA 8)(j4:Nat)(X4:AA 32)(j8:Nat):AA 32:=if j8<16 then put X4 j8 ((MR (Hg tx) ((64*j4)+(4*j8)) (((4*j8)+4)-(4*j8))).setWidth 32) else put X4 j8 ((((nth X4 (j8-16))+(((Ck (nth X4 (j8-15)) (-7))^^^(Ck (nth X4 (j8-15)) (-18)))^^^((nth X4 (j8-15))>>>3)))+(nth X4 (j8-7)))+(((Ck (nth X4 (j8-2)) (-17))^^^(Ck (nth X4 (j8-2)) (-19)))^^^((nth X4 (j8-2))>>>10)))
def Dy(tx:AA 8)(j4:Nat):Nat→AA 32
 |0=>DF 64
 |j8+1=>N8 tx j4 (Dy tx j4 j8) j8
@[simp] theorem Ic(tx:AA 8)(j4 j8:Nat):(Dy tx j4 j8).length=64:=by
 induction j8 with
 |zero=>(simp [Dy, *];done)
 |succ j8 ih=>rw [Dy.eq_2,N8];(split<;>first | (simp [ih];done) | (simp [ih];omega) | (simp [*];done))
def MK(Y5 X6:AA 32)(j19:Nat):AA 32:=[(((((nth X6 7)+(((Ck (nth X6 4) (-6))^^^(Ck (nth X6 4) (-11)))^^^(Ck (nth X6 4) (-25))))+(((nth X6 4)&&&(nth X6 5))^^^((~~~(nth X6 4))&&&(nth X6 6))))+(nth H1 j19))+(nth Y5 j19))+((((Ck (nth X6 0) (-2))^^^(Ck (nth X6 0) (-13)))^^^(Ck (nth X6 0) (-22)))+((((nth X6 0)&&&(nth X6 1))^^^((nth X6 0)&&&(nth X6 2)))^^^((nth X6 1)&&&(nth X6 2)))),nth X6 0,nth X6 1,nth X6 2,(nth X6 3)+(((((nth X6 7)+(((Ck (nth X6 4) (-6))^^^(Ck (nth X6 4) (-11)))^^^(Ck (nth X6 4) (-25))))+(((nth X6 4)&&&(nth X6 5))^^^((~~~(nth X6 4))&&&(nth X6 6))))+(nth H1 j19))+(nth Y5 j19)),nth X6 4,nth X6 5,nth X6 6]
def D5(X3 Y5:AA 32):Nat→AA 32
 |0=>X3
 |j19+1=>MK Y5 (D5 X3 Y5 j19) j19
theorem JZ(X3 Y5:AA 32)(hX3:X3.length=8)(_hY5:Y5.length=64)(j19:Nat):(D5 X3 Y5 j19).length=8:=by
 induction j19 with
 |zero=>(simp [D5, *];done)
 |succ j19 ih=>rw [D5.eq_2,MK];(simp;done)
def QD(Y7 X8:AA 32)(j29:Nat):AA 32:=put X8 j29 ((nth X8 j29)+(nth Y7 j29))
def D3(X3 Y7:AA 32):Nat→AA 32
 |0=>X3
 |j29+1=>QD Y7 (D3 X3 Y7 j29) j29
theorem Je(X3 Y7:AA 32)(hX3:X3.length=8)(j29:Nat):(D3 X3 Y7 j29).length=8:=by
 induction j29 with
 |zero=>(simp [D3, *];done)
 |succ j29 ih=>rw [D3.eq_2,QD];(simp [ih];done)
def N9(tx:AA 8)(X3:AA 32)(j4:Nat):AA 32:=(D3 X3 (D5 X3 (Dy tx j4 64) 64) 8)
def E0(tx:AA 8):Nat→AA 32
 |0=>[1779033703#32,3144134277#32,1013904242#32,2773480762#32,1359893119#32,2600822924#32,528734635#32,1541459225#32]
 |j4+1=>N9 tx (E0 tx j4) j4
@[simp] theorem Ov(tx:AA 8)(j4:Nat):(E0 tx j4).length=8:=by
 induction j4 with
 |zero=>(simp [E0, *];done)
 |succ j4 ih=>rw [E0.eq_2,N9];(simp [Je, *];done)
def MJ(Y11:AA 32)(X12:AA 8)(j35:Nat):AA 8:=put X12 j35 (((nth Y11 (j35/4))>>>(24-(8*(j35%4)))).setWidth 8)
def D1(Y11:AA 32):Nat→AA 8
 |0=>Ac 32
 |j35+1=>MJ Y11 (D1 Y11 j35) j35
@[simp] theorem NZ(Y11:AA 32)(j35:Nat):(D1 Y11 j35).length=32:=by
 induction j35 with
 |zero=>(simp [D1, *];done)
 |succ j35 ih=>rw [D1.eq_2,MJ];(simp [ih];done)
def BR(tx:AA 8):AA 8:=(D1 (E0 tx ((tx.length+72)/64)) 32)
theorem It(k:r)(h:Hid r→g:=by intro h;refine Ap (Ay YJ AM) AT rfl ?_;refine AR ?_;refine S_ ?_;refine A2 ?_;exact h.out):g:=h ⟨k⟩
theorem zL(k:r)(h:Hid r→g:=by intro h;refine AB (Zb (l:=[1779033703#32,3144134277#32,1013904242#32,2773480762#32,1359893119#32,2600822924#32,528734635#32,1541459225#32]) qA underlying107 Bi rfl rfl D_) rfl ?_;exact h.out):g:=h ⟨k⟩
theorem YG(k:r)(h:Hid r→g:=by intro h;refine Bs rfl rfl rfl rfl qg B7 B7 AT ?_;exact h.out):g:=h ⟨k⟩
theorem GF(k:r)(h:Hid r→g:=by intro h;refine AB (A8 (b:=16) rfl rfl) rfl ?_;exact h.out):g:=h ⟨k⟩
theorem ft(k:r)(h:Hid r→g:=by intro h;refine AH (E4 (b:=15) rfl rfl O_ O_) rfl ?_;exact h.out):g:=h ⟨k⟩
theorem I9(k:r)(h:Hid r→g:=by intro h;refine AH (AN rfl rfl underlying111 Bi O_) rfl ?_;exact h.out):g:=h ⟨k⟩
theorem fk(k:r)(h:Hid r→g:=by intro h;refine AH (E4 (b:=2) rfl rfl O_ O_) rfl ?_;exact h.out):g:=h ⟨k⟩
theorem I6(k:r)(h:Hid r→g:=by intro h;refine AH (A6 rfl) rfl ?_;exact h.out):g:=h ⟨k⟩
theorem O7(k:r)(h:Hid r→g:=by intro h;refine AB (rp rfl rfl) rfl ?_;exact h.out):g:=h ⟨k⟩
theorem gK(k:r)(h:Hid r→g:=by intro h;refine AH (E4 (b:=16) rfl rfl O_ O_) rfl ?_;exact h.out):g:=h ⟨k⟩
theorem jJ(k:r)(h:Hid r→g:=by intro h;refine AH (E4 (b:=7) rfl rfl O_ O_) rfl ?_;exact h.out):g:=h ⟨k⟩
theorem S6(k:r)(h:Hid r→g:=by intro h;refine BJ ?_;refine PK rfl rfl rfl Bi EO AT ?_;exact h.out):g:=h ⟨k⟩
theorem SU(k:r)(h:Hid r→g:=by intro h;refine B5 6 mixed K_ rfl rfl rfl ?_;exact h.out):g:=h ⟨k⟩
theorem iO(k:r)(h:Hid r→g:=by intro h;refine B5 25 mixed K_ rfl rfl rfl ?_;exact h.out):g:=h ⟨k⟩
theorem U5(k:r)(h:Hid r→g:=by intro h;refine AH (If rfl rfl) rfl ?_;exact h.out):g:=h ⟨k⟩
theorem jh(k:r)(h:Hid r→g:=by intro h;refine AB (AN (j:=1) rfl rfl underlying107 Bi O_) rfl ?_;exact h.out):g:=h ⟨k⟩
theorem Ds(k:r)(h:Hid r→g:=by intro h;refine AB (Vf rfl rfl Zs EO) rfl ?_;exact h.out):g:=h ⟨k⟩
theorem gu(k:r)(h:Hid r→g:=by intro h;refine AB (AN (j:=2) rfl rfl underlying107 Bi O_) rfl ?_;exact h.out):g:=h ⟨k⟩
theorem YE(k:r)(h:Hid r→g:=by intro h;refine AH (AN rfl rfl underlying107 Bi O_) rfl ?_;exact h.out):g:=h ⟨k⟩
theorem Dr(k:r)(h:Hid r→g:=by intro h;refine Ap (Ay YJ AM) AT rfl ?_;exact h.out):g:=h ⟨k⟩
theorem Oi(k:r)(h:Hid r→g:=by intro h;refine AB (A8 (b:=32) rfl rfl) rfl ?_;exact h.out):g:=h ⟨k⟩
theorem cY(k:r)(h:Hid r→g:=by intro h;refine AB (OU (b:=4) rfl rfl O_ O_) rfl ?_;exact h.out):g:=h ⟨k⟩
theorem qj(k:r)(h:Hid r→g:=by intro h;refine AB (F9 rfl underlying106 underlying5 (yY _)) rfl ?_;exact h.out):g:=h ⟨k⟩
theorem O2(k:r)(h:Hid r→g:=by intro h;refine AB (AN rfl rfl underlying37 Bt O_) rfl ?_;exact h.out):g:=h ⟨k⟩
theorem Pu(k:r)(h:Hid r→g:=by intro h;refine AB (A8 (a:=32) (b:=32) rfl rfl) rfl ?_;exact h.out):g:=h ⟨k⟩
theorem Fu(k:r)(h:Hid r→g:=by intro h;refine AR ?_;refine S_ ?_;refine A2 ?_;refine AB (A9 rfl rfl QH Pg B7 D_) rfl ?_;exact h.out):g:=h ⟨k⟩
theorem GH(k:r)(h:Hid r→g:=by intro h;refine Bs rfl rfl rfl rfl Pg B7 B7 AT ?_;refine AR ?_;refine S_ ?_;exact h.out):g:=h ⟨k⟩
theorem Ec(h:g:=by exact kG (Hu rfl rfl QH Pg B7 D_) (by (kernel_rfl))):g:=h
theorem wW(b:AA 8)(o n cap:Nat)(hb:o+n≤b.length)(hn:n≤2199023255552):Ev prog (.call 38 [.c (.sl 0 o n cap 1)] [A0 (b)]) (.val (BM (BR (cut b o n))) [A0 (b)]):=by
 have hP:=Hid.mk (BR.eq_1 (cut b o n))
 have htx:(cut b o n).length=n:=by rw [BV];omega
 try simp only [htx] at hP
 refine AI func38 rfl ntmps38 rfl AM ?_;refine Ab ?_;refine It ?_;refine zL ?_;refine Ap (Ay ge AM) AT rfl ?_;refine YG ?_;refine AR ?_;have hQ1:(H1).length=64:=AP
 refine Ab ?_;refine Ae (qN) AIT ?_;refine BZ ?_;have hQ2:(Hg (cut b o n)).length=((n+1)+(120-(n+1)%64)%64)+8:=AP
 refine A1 ?_;refine bM (td b o n cap AD AD) ADl ?_;refine Al ?_;refine AK [2,3,4,5] (fun (zz:Nat×AA 32)=>⟨201,AU [2,3,4,5] [AY 1,AY 2,.c (.sl 3 0 64 64 1),.c (.sl 4 (64*zz.1) ((((n+1)+(120-(n+1)%64)%64)+8)-64*zz.1) ((((n+1)+(120-(n+1)%64)%64)+8)-64*zz.1) 1)],[A0 (b),BP (Ac 32),Fz (zz.2),Fz (H1),BP (Hg (cut b o n))]⟩) (fun j4=>(j4,E0 (cut b o n) j4)) ((n+72)/64) K_ ?_ ?_
 ·intro j4 hj4
  try dsimp only
  have hX3:(E0 (cut b o n) j4).length=8:=by rw [Ov (cut b o n) _];try omega
  rw [E0.eq_2,N9]
  try simp only [htx]
  generalize E0 (cut b o n) j4=X3 at*
  refine JI ?_;refine YS ?_;refine AZ ?_;refine Ap (Ay jb AM) AT rfl ?_;refine FA ?_;refine AK [2,3,4,5,6,32] (fun (zz:Nat×AA 32)=>⟨201,AU [2,3,4,5,6,32] [AY 1,AY 2,.c (.sl 3 0 64 64 1),.c (.sl 4 (64*j4) ((((n+1)+(120-(n+1)%64)%64)+8)-64*j4) ((((n+1)+(120-(n+1)%64)%64)+8)-64*j4) 1),AY 5,At (((zz.1:Nat):Int))],[A0 (b),BP (Ac 32),Fz (X3),Fz (H1),BP (Hg (cut b o n)),Fz (zz.2)]⟩) (fun j8=>(j8,Dy (cut b o n) j4 j8)) (64) K_ ?_ ?_
  ·intro j8 hj8
   try dsimp only
   have hX4:(Dy (cut b o n) j4 j8).length=64:=by rw [Ic (cut b o n) j4 _];try omega
   rw [Dy.eq_2,N8]
   try simp only [htx]
   generalize Dy (cut b o n) j4 j8=X4 at*
   refine Ab ?_;refine HM ?_;refine Ak ?_;refine BF ?_;refine GF ?_;refine EA ?_;by_cases hc5:j8<16
   ·try simp only [if_pos hc5] at*
    refine FJ rfl (decide_eq_true hc5) ?_;refine CK ?_;refine AX ?_;refine TK ?_;refine AX ?_;refine TK ?_;refine Wq ?_;refine AB (gi rfl underlying23 Bt rfl rfl O_ O_) rfl ?_;refine CQ (Ah (bs:=[4]) (dA (Hg (cut b o n)) ((64*j4)+(4*j8)) (((4*j8)+4)-(4*j8)) (((((n+1)+(120-(n+1)%64)%64)+8)-64*j4)-(4*j8)) AD AD) AD2 K_ K_ rfl B4) AT rfl ?_;refine qX ?_;refine AB (AN rfl rfl underlying111 Bi O_) rfl ?_;refine Hq ?_;refine Cj ?_;exact ⟨(j8+1,_),K_,rfl⟩
   ·try simp only [if_neg hc5] at*
    refine Cg rfl (decide_eq_false hc5) ?_;refine S_ ?_;refine RZ ?_;refine ft ?_;refine I9 ?_;refine Il ?_;refine fk ?_;refine I9 ?_;refine Dk ?_;refine I6 ?_;refine Ft ?_;refine Ak ?_;refine Ae (Cf (nth X4 (j8-15)) (-7)) KG ?_;refine AX ?_;refine Ae (Cf (nth X4 (j8-15)) (-18)) KG ?_;refine O7 ?_;refine AX ?_;refine AB (Hp (j:=3) rfl rfl) rfl ?_;refine O7 ?_;refine BF ?_;refine Ae (Cf (nth X4 (j8-2)) (-17)) KG ?_;refine AX ?_;refine Ae (Cf (nth X4 (j8-2)) (-19)) KG ?_;refine O7 ?_;refine AX ?_;refine AB (Hp (j:=10) rfl rfl) rfl ?_;refine O7 ?_;refine Al ?_;refine B5 15 mixed K_ rfl rfl rfl ?_;refine Ca ?_;refine gK ?_;refine I9 ?_;refine Il ?_;refine Mu ?_;refine jJ ?_;refine I9 ?_;refine Dk ?_;refine Mu ?_;refine Ia ?_;refine I9 ?_;refine S6 ?_;refine Cj ?_;exact ⟨(j8+1,_),K_,rfl⟩
  ·try dsimp only
   have hY6:(Dy (cut b o n) j4 64).length=64:=by rw [Ic (cut b o n) j4 _];try omega
   generalize Dy (cut b o n) j4 64=Y6 at*
   refine Ab ?_;refine Lr ?_;refine AZ ?_;refine AB (A9 rfl rfl sT qg B7 D_) rfl ?_;refine Ap (Ay ge AM) AT rfl ?_;refine YG ?_;refine FA ?_;refine AK [2,3,4,5,6,12,89] (fun (zz:Nat×AA 32)=>⟨201,AU [2,3,4,5,6,12,89] [AY 1,AY 2,.c (.sl 3 0 64 64 1),.c (.sl 4 (64*j4) ((((n+1)+(120-(n+1)%64)%64)+8)-64*j4) ((((n+1)+(120-(n+1)%64)%64)+8)-64*j4) 1),AY 5,AY 6,At (((zz.1:Nat):Int))],[A0 (b),BP (Ac 32),Fz (X3),Fz (H1),BP (Hg (cut b o n)),Fz (Y6),Fz (zz.2)]⟩) (fun j19=>(j19,D5 X3 Y6 j19)) (64) K_ ?_ ?_
   ·intro j19 hj19
    try dsimp only
    have hX7:(D5 X3 Y6 j19).length=8:=by rw [JZ X3 Y6 hX3 hY6 _];try omega
    rw [D5.eq_2,MK]
    try simp only [htx]
    generalize D5 X3 Y6 j19=X7 at*
    refine Ab ?_;refine HM ?_;refine Eg ?_;refine SU ?_;refine AH (AN (j:=4) rfl rfl underlying107 Bi O_) rfl ?_;refine Dk ?_;refine AH (AN (j:=0) rfl rfl underlying107 Bi O_) rfl ?_;refine Dk ?_;refine I6 ?_;refine Ft ?_;refine Ak ?_;refine Ae (Cf (nth X7 4) (-6)) KG ?_;refine AX ?_;refine Ae (Cf (nth X7 4) (-11)) KG ?_;refine O7 ?_;refine AX ?_;refine Ae (Cf (nth X7 4) (-25)) KG ?_;refine O7 ?_;refine Al ?_;refine iO ?_;refine AH (AN (j:=7) rfl rfl underlying107 Bi O_) rfl ?_;refine Il ?_;refine Mu ?_;refine AH (AN (j:=5) rfl rfl underlying107 Bi O_) rfl ?_;refine Dk ?_;refine U5 ?_;refine AW ?_;refine AH (eu rfl) rfl ?_;refine AH (AN (j:=6) rfl rfl underlying107 Bi O_) rfl ?_;refine Dk ?_;refine U5 ?_;refine GK ?_;refine Ia ?_;refine Ca ?_;refine AH (F1 rfl rfl underlying108 Bi O_) rfl ?_;refine Dk ?_;refine Mu ?_;refine I9 ?_;refine Dk ?_;refine Ia ?_;refine Ft ?_;refine Ak ?_;refine Ae (Cf (nth X7 0) (-2)) KG ?_;refine AX ?_;refine Ae (Cf (nth X7 0) (-13)) KG ?_;refine O7 ?_;refine AX ?_;refine Ae (Cf (nth X7 0) (-22)) KG ?_;refine O7 ?_;refine Be ?_;refine jh ?_;refine Ds ?_;refine AB (If rfl rfl) rfl ?_;refine AX ?_;refine gu ?_;refine Ds ?_;refine AB (If rfl rfl) rfl ?_;refine O7 ?_;refine jh ?_;refine Ds ?_;refine gu ?_;refine Ds ?_;refine AB (If rfl rfl) rfl ?_;refine O7 ?_;refine RK ?_;refine Be ?_;refine RK ?_;refine AX ?_;refine jh ?_;refine Ds ?_;refine gu ?_;refine Ds ?_;refine AB (AN (j:=3) rfl rfl underlying107 Bi O_) rfl ?_;refine Ds ?_;refine AX ?_;refine RK ?_;refine AX ?_;refine AB (AN (j:=5) rfl rfl underlying107 Bi O_) rfl ?_;refine Ds ?_;refine AB (AN (j:=6) rfl rfl underlying107 Bi O_) rfl ?_;refine Ds ?_;refine AB (Zb (l:=[_,_,_,_,_,_,_,_]) qA underlying107 Bi rfl rfl D_) rfl ?_;refine YG ?_;refine Cj ?_;exact ⟨(j19+1,_),K_,rfl⟩
   ·try dsimp only
    have hY8:(D5 X3 Y6 64).length=8:=by rw [JZ X3 Y6 hX3 hY6 _];try omega
    generalize D5 X3 Y6 64=Y8 at*
    refine Ab ?_;refine Lr ?_;refine FA ?_;refine AK [2,3,4,5,12,172] (fun (zz:Nat×AA 32)=>⟨201,AU [2,3,4,5,12,172] [AY 1,AY 2,.c (.sl 3 0 64 64 1),.c (.sl 4 (64*j4) ((((n+1)+(120-(n+1)%64)%64)+8)-64*j4) ((((n+1)+(120-(n+1)%64)%64)+8)-64*j4) 1),AY 5,At (((zz.1:Nat):Int))],[A0 (b),BP (Ac 32),Fz (zz.2),Fz (H1),BP (Hg (cut b o n)),Fz (Y8)]⟩) (fun j29=>(j29,D3 X3 Y8 j29)) (8) K_ ?_ ?_
    ·intro j29 hj29
     try dsimp only
     have hX9:(D3 X3 Y8 j29).length=8:=by rw [Je X3 Y8 hX3 _];try omega
     rw [D3.eq_2,QD]
     try simp only [htx]
     generalize D3 X3 Y8 j29=X9 at*
     refine Ab ?_;refine Rc ?_;refine Eg ?_;refine SG ?_;refine AW ?_;refine YE ?_;refine Il ?_;refine YE ?_;refine Dk ?_;refine Ia ?_;refine YE ?_;refine S6 ?_;refine Cj ?_;exact ⟨(j29+1,_),K_,rfl⟩
    ·try dsimp only
     have hY10:(D3 X3 Y8 8).length=8:=by rw [Je X3 Y8 hX3 _];try omega
     generalize D3 X3 Y8 8=Y10 at*
     refine Ab ?_;refine Ub ?_;refine Ak ?_;refine AB (gi (l:=64) rfl underlying23 Bt rfl rfl O_ O_) rfl ?_;refine BZ ?_;exact ⟨(j4+1,_),K_,rfl⟩
 ·try dsimp only
  have hY11:(E0 (cut b o n) ((n+72)/64)).length=8:=by rw [Ov (cut b o n) _];try omega
  generalize E0 (cut b o n) ((n+72)/64)=Y11 at*
  refine JI ?_;refine YS ?_;refine AZ ?_;refine Dr ?_;refine FA ?_;refine AK [2,3,21,184] (fun (zz:Nat×AA 8)=>⟨201,AU [2,3,21,184] [AY 1,AY 2,AY 3,At (((zz.1:Nat):Int))],[A0 (b),BP (Ac 32),Fz (Y11),BP (zz.2)]⟩) (fun j35=>(j35,D1 Y11 j35)) (32) K_ ?_ ?_
  ·intro j35 hj35
   try dsimp only
   have hX12:(D1 Y11 j35).length=32:=by rw [NZ Y11 _];try omega
   rw [D1.eq_2,MJ]
   try simp only [htx]
   generalize D1 Y11 j35=X12 at*
   refine Ab ?_;refine Oi ?_;refine Ak ?_;refine Be ?_;refine AB (VD (b:=4) rfl rfl O_ O_) rfl ?_;refine AB (AN rfl rfl underlying107 Bi O_) rfl ?_;refine Ds ?_;refine AX ?_;refine cY ?_;refine KN ?_;refine AB (E4 (a:=24) rfl rfl O_ O_) rfl ?_;refine AB (Hp rfl rfl) rfl ?_;refine qj ?_;refine O2 ?_;refine Ct ?_;refine Cj ?_;exact ⟨(j35+1,_),K_,rfl⟩
  ·try dsimp only
   have hY13:(D1 Y11 32).length=32:=by rw [NZ Y11 _];try omega
   generalize D1 Y11 32=Y13 at*
   refine Ab ?_;refine Pu ?_;refine Fu ?_;refine GH ?_;rw [hP.out]
   exact Ec
theorem Ks(b:AA 8)(n cap:Nat)(hb:b.length=n)(hn:n≤2199023255552):Ev prog (.call 38 [.c (.sl 0 0 n cap 1)] [A0 (b)]) (.val (BM (BR b)) [A0 (b)]):=by
 have h_:=wW b 0 n cap O_ hn
 rw [IE hb] at h_
 exact h_
@[simp] theorem CI(tx:AA 8):(BR tx).length=32:=by
 unfold BR
 (simp [NZ, *];done)
attribute [irreducible] BR
end Go.Proofs.YtmbepikkgkcgkaaGreatDoor
