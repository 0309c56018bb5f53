/- Merged and shortened by a program: part 8. -/
import Derived.Test.YtmbepikkgkcgkaaGreatDoorUR7
set_option maxRecDepth 100000
set_option maxHeartbeats 8000000
namespace Go.Proofs.YtmbepikkgkcgkaaGreatDoor
open Go.RowKit
variable {g r : Prop}
open Go.Proofs.Tryz
theorem AJu{b:AA 8}{l:List (AA 8)}(h:gH b=some l):jn l=b∧jl l=b.length:=by
 have:=AJi b.length b l (Nat.le_refl _) h
 exact ⟨this,by rw [←Xw,this]⟩
theorem ADy(x t:AA 8)(m:Nat)(h:x.length=m):cut (x++t) 0 m=x:=by subst h;simp [cut]
theorem AJR(x t:AA 8)(m k:Nat)(h:x.length=m)(hk:t.length=k):cut (x++t) m k=t:=by subst h hk;simp [cut]
theorem ABT(key nonce t:AA 8)(c:BitVec 32)(hkey:key.length=32)(hnonce:nonce.length=12):G0 key c nonce (G0 key c nonce t)=t:=by
 have hl:=JB key c nonce t hkey hnonce
 refine XC (by rw [JB _ _ _ _ hkey hnonce,hl]) fun i hi=>?_
 rw [JB _ _ _ _ hkey hnonce,hl] at hi
 rw [Xg _ _ _ _ hkey hnonce _ O_,Xg _ _ _ _ hkey hnonce _ hi,BitVec.xor_assoc,BitVec.xor_self,BitVec.xor_zero]
theorem AEl(key nonce text:AA 8)(hkey:key.length=32)(hnonce:nonce.length=12):
  Cx key nonce [] (cut (Ej key nonce [] text) 0 ((Ej key nonce [] text).length-16))=cut (Ej key nonce [] text) ((Ej key nonce [] text).length-16) 16:=by
 have hx:=JB key 1#32 nonce text hkey hnonce
 have hl:=LP key nonce [] text hkey hnonce
 rw [hl,Nat.add_sub_cancel]
 unfold Ej at hl ⊢
 rw [List.length_append] at hl
 unfold IR at hl ⊢
 rw [hx] at hl
 rw [ADy _ _ _ hx,AJR _ _ _ _ hx O_]
 unfold Cx Jl
 rfl
theorem yo(key nonce text:AA 8)(hkey:key.length=32)(hnonce:nonce.length=12):Dt key nonce (Ej key nonce [] text)=text:=by
 have hx:=JB key 1#32 nonce text hkey hnonce
 have hl:=LP key nonce [] text hkey hnonce
 unfold Dt
 rw [hl,Nat.add_sub_cancel]
 unfold Ej IR
 rw [ADy _ _ _ hx,ABT _ _ _ _ hkey hnonce]
theorem qf(key box:AA 8)(hkey:key.length=32)(hbn:box.length≤1099511627)(h16:16≤box.length)(hT:box.length-16≤65536)(hE:Cx key (Ac 12) [] (cut box 0 (box.length-16))=cut box (box.length-16) 16):
  Ev prog (.call 53 [.agg (.a8 key),.agg (.a8 (Ac 12)),.c .nsl,.c (.bs box)] []) (.val (.tup [.c (.sl 0 0 (box.length-16) (box.length-16) 1),.c (.val (.int .i64 ((0:Nat):Int)))]) [.row true (.a8 (Dt key (Ac 12) box))]):=
 Ev.partsB (m:=[]) (m':=[.row false (.a8 []),.row false (.a8 box)]) (N:=[.row true (.a8 (Dt key (Ac 12) box))]) (N':=[.row true (.a8 (Dt key (Ac 12) box))]) [none,none] [1] (.no (.no .nil)) (.agg rfl (.agg rfl (.c .nil (.c (.same rfl) .nil)))) (.same (.same (.same (.bs rfl rfl .nil)))) rfl rfl (uh key (Ac 12) [] 0 0 box box.length box.length hkey (Bo 12) rfl D_ rfl hbn D_ h16 hT hE) rfl rfl
def TM(key box:AA 8):Nat:=if box.length<16∨65536<box.length-16 then 2 else if Cx key (Ac 12) [] (cut box 0 (box.length-16))=cut box (box.length-16) 16 then 0 else 3
theorem uB(key box:AA 8)(hkey:key.length=32)(hbn:box.length≤1099511627)(he:¬TM key box=0):
  Ev prog (.call 53 [.agg (.a8 key),.agg (.a8 (Ac 12)),.c .nsl,.c (.bs box)] []) (.val (.tup [.c .nsl,.c (.val (.int .i64 ((TM key box:Nat):Int)))]) []):=by
 have go:∀e:Nat,Ev prog (.call 53 [.agg (.a8 key),.agg (.a8 (Ac 12)),.c (.sl 0 0 0 0 1),.c (.sl 1 0 box.length box.length 1)] [.row false (.a8 []),.row false (.a8 box)]) (.val (.tup [.c .nsl,.c (.val (.int .i64 ((e:Nat):Int)))]) [.row false (.a8 []),.row false (.a8 box)])→Ev prog (.call 53 [.agg (.a8 key),.agg (.a8 (Ac 12)),.c .nsl,.c (.bs box)] []) (.val (.tup [.c .nsl,.c (.val (.int .i64 ((e:Nat):Int)))]) []):=fun e h=>
  Ev.partsB (m:=[]) (m':=[.row false (.a8 []),.row false (.a8 box)]) (N:=[]) (N':=[]) [none,none] [1] (.no (.no .nil)) (.agg rfl (.agg rfl (.c .nil (.c (.same rfl) .nil)))) (.same (.same (.same (.bs rfl rfl .nil)))) rfl rfl h rfl rfl
 unfold TM at he ⊢
 by_cases h1:box.length<16
 ·rw [if_pos (.inl h1)]
  exact go _ (nj key (Ac 12) [] 0 0 box box.length box.length hkey (Bo 12) rfl D_ rfl hbn D_ h1)
 by_cases h2:65536<box.length-16
 ·rw [if_pos (.inr h2)]
  exact go _ (oR key (Ac 12) [] 0 0 box box.length box.length hkey (Bo 12) rfl D_ rfl hbn D_ O_ h2)
 rw [if_neg O_] at he ⊢
 by_cases h3:Cx key (Ac 12) [] (cut box 0 (box.length-16))=cut box (box.length-16) 16
 ·rw [if_pos h3] at he
  exact absurd rfl he
 ·rw [if_neg h3]
  exact go _ (pv key (Ac 12) [] 0 0 box box.length box.length hkey (Bo 12) rfl D_ rfl hbn D_ O_ O_ h3)
def kJ(key box:AA 8):List (AA 8)×Nat:=if TM key box=0 then bd (Dt key (Ac 12) box) else ([],TM key box)
theorem YA(key box:AA 8)(hkey:key.length=32)(hbn:box.length≤1099511627):Ev prog (.call 26 [BM key,.c (.bs box)] []) (.val (.tup [.c (.sl 0 0 (kJ key box).1.length (kJ key box).1.length 1),At (((kJ key box).2:Nat):Int)]) [.row true (.ab (kJ key box).1)]):=by
 unfold kJ
 by_cases he:TM key box=0
 ·rw [if_pos he]
  have h1:16≤box.length∧box.length-16≤65536∧Cx key (Ac 12) [] (cut box 0 (box.length-16))=cut box (box.length-16) 16:=by
   unfold TM at he
   split at he
   ·cases he
   ·split at he
    ·rename_i h1 h2
     exact ⟨by omega,by omega,h2⟩
    ·cases he
  have hO:=qf key box hkey hbn h1.1 h1.2.1 h1.2.2
  have hl:(Dt key (Ac 12) box).length=box.length-16:=by
   unfold Dt
   rw [JB _ _ _ _ hkey (Bo 12),BV]
   omega
  have h65:=h1.2.1
  generalize Dt key (Ac 12) box=t at*
  generalize box.length-16=m at*
  have hS:=cA t O_
  generalize bd t=q at*
  refine AI func26 rfl ntmps26 rfl AM ?_;refine BA ?_;refine MA ?_;refine GM ?_;refine bV ?_;refine AX ?_;refine Li (hO) AEH ?_;refine Ch ?_;refine Ys ?_;refine Mh 6 rfl rfl hl AT ?_;refine A1 ?_;refine Jm ?_;refine Ak ?_;refine Li (hS) AEX ?_;refine RX ?_;refine RX ?_;exact He
 ·rw [if_neg he]
  have hO:=uB key box hkey hbn he
  generalize TM key box=e at*
  refine AI func26 rfl ntmps26 rfl AM ?_;refine BA ?_;refine MA ?_;refine GM ?_;refine bV ?_;refine AX ?_;refine Li (hO) AEH ?_;refine Ch ?_;refine FB ?_;refine Jm ?_;refine Ak ?_;refine Np ?_;refine EU 4 1 (.ab []) rfl rfl AM rfl ?_;exact En
theorem AEv{P:Program}{e:Operand→AV}{M:Az}{t t2:TypeId}{x y:Operand}{b o:Nat}(hu:P.underlying t=some (.pointer (P.pointee t)))(hx:e x= .c (.ptr b o))(hy:e y= .c (.val (.pointer none))):Ev P (.op (.binOp .eql t x y t2) e M) (.val (.c (.val (.bool false))) M):=
 Ev.sem fun O ι w ρ hO hR hρ=>by
  obtain ⟨dst,op,ty,pos,af,gd⟩:=O
  subst hO
  have h1:=hρ x (by simp [Op.operands])
  have h2:=hρ y (by simp [Op.operands])
  rw [hx] at h1;rw [hy] at h2
  obtain ⟨l,hl,hv⟩:=h1
  have h2:ρ y= .pointer none:=h2
  refine .inl ⟨.bool false,w,ι,.inl ?_,rfl,Step.refl hR (Nat.le_refl _)⟩
  simp [execOp,hv,h2,eqGuard,run_eql_pointer_nil _ t _ hu]
theorem AI0:prog.underlying 42=some (.pointer (prog.pointee 42)):=by kernel_rfl
theorem sM(L:List Nd)(N:Nat)(k n:Int)(a:List Int)(hA:Oq L)(hN:L.length=N)(hNl:N<1000000)(hml:a.length≤1000)(hr:∀x∈k::n::a,-9223372036854775808≤x∧x≤9223372036854775807)(he:UM N k n a=0)(hf:YH L ⟨k,n,a⟩=none):
  Ev prog (.call 21 [.c (.ptr 0 0),.c (.val (.int .i64 k)),.c (.val (.int .i64 n)),.c (.is a)] [.row true (.ac [.sl 1 0 N N 3,.mp 2]),.row true (.an L),.row true (.mp (IZ L))])
   (.val (.tup [.c (.val (.int .i64 ((N:Nat):Int))),.c (.val (.int .i64 ((0:Nat):Int)))]) [.row true (.ac [.sl 3 0 (N+1) (N+1) 3,.mp 2]),.dead,.row true (.mp (IZ (L++[⟨k,n,a⟩]))),.row true (.an (L++[⟨k,n,a⟩]))]):=by
 have h1:=AEx L N k n a a.length a.length hA hN O_ rfl hml hr he hf
 have h2:Ev prog (.call 21 [.c (.ptr 0 0),.c (.val (.int .i64 k)),.c (.val (.int .i64 n)),.c (.sl 3 0 a.length a.length 1)] [.row true (.ac [.sl 1 0 N N 3,.mp 2]),.row true (.an L),.row true (.mp (IZ L)),.row false (.ai a)])
   (.val (.tup [.c (.val (.int .i64 ((N:Nat):Int))),.c (.val (.int .i64 ((0:Nat):Int)))]) [.row true (.ac [.sl 4 0 (N+1) (N+1) 3,.mp 2]),.dead,.row true (.mp (IZ (L++[⟨k,n,a⟩]))),.row false (.ai a),.row true (.an (L++[⟨k,n,a⟩]))]):=
  Ev.relink [0,3,1,2] K_ K_ K_ h1 K_ K_
 exact Ev.isRow (a:=a) (args':=[.c (.ptr 0 0),.c (.val (.int .i64 k)),.c (.val (.int .i64 n)),.c (.sl 3 0 a.length a.length 1)]) 3 [4] rfl rfl rfl (fun j hj=>by match j with | 0=>rfl | 1=>rfl | 2=>rfl | 3=>exact absurd rfl hj | j+4=>rfl) h2 K_ K_ K_ K_
theorem sh(L:List Nd)(N:Nat)(k n:Int)(hA:Oq L)(hN:L.length=N)(hNl:N<1000000)(hr:∀x∈[k,n],-9223372036854775808≤x∧x≤9223372036854775807)(he:UM N k n []=0)(hf:YH L ⟨k,n,[]⟩=none):
  Ev prog (.call 21 [.c (.ptr 0 0),.c (.val (.int .i64 k)),.c (.val (.int .i64 n)),.c .nsl] [.row true (.ac [.sl 1 0 N N 3,.mp 2]),.row true (.an L),.row true (.mp (IZ L))])
   (.val (.tup [.c (.val (.int .i64 ((N:Nat):Int))),.c (.val (.int .i64 ((0:Nat):Int)))]) [.row true (.ac [.sl 3 0 (N+1) (N+1) 3,.mp 2]),.dead,.row true (.mp (IZ (L++[⟨k,n,[]⟩]))),.row true (.an (L++[⟨k,n,[]⟩]))]):=
 Ev.weakA (.same (.same (.same (.nilZ .nil)))) (sM L N k n [] hA hN hNl D_ hr he hf)
def wL1:List Nd:=[⟨1,1,[]⟩]
def wL2:List Nd:=[⟨1,1,[]⟩,⟨2,2,[]⟩]
def iu:List Nd:=[⟨1,1,[]⟩,⟨2,2,[]⟩,⟨6,0,[0,1]⟩]
theorem wA1:Oq wL1:=Oq.snoc .nil D_ D_ rfl
theorem wA2:Oq wL2:=Oq.snoc (L:=wL1) wA1 D_ D_ D_
theorem wA3:Oq iu:=Oq.snoc (L:=wL2) wA2 D_ D_ D_
def noX:Nd→(Int→AA 8)→AA 8×Nat:=fun _ _=>([],0)
theorem wH(i:Nat)(hi:i<3):¬gj iu (DY iu i):=by
 match i,hi with
 |0,_=>unfold gj;decide
 |1,_=>unfold gj;decide
 |2,_=>unfold gj;decide
def wK:AA 8:=BR (zR++HL 1)
def wM:AA 8:=BR (AAL++HL 2)
def wS:AA 8:=Ej (BR wK) (Ac 12) [] (jn [wM])
theorem ij:wM.length=32:=CI _
theorem AFh:wK.length=32:=CI _
theorem w0:kc noX iu 0=(wK,0):=rfl
theorem w1:kc noX iu 1=(wM,0):=rfl
theorem wJ:Wz [wM]=(jn [wM],0):=by
 unfold Wz
 rw [if_pos (by rw [WA,ij];decide)]
theorem AKa:Sd noX iu (EC iu 2) []=Sd noX iu [2] [(0,wK),(1,wM)]:=rfl
theorem AH6:Zl noX iu (Dl [(0,wK),(1,wM)]) (DY iu (2:Int).toNat)=M9 (BR wK) (Wz [wM]):=rfl
theorem w2s:M9 (BR wK) (Wz [wM])=(wS,0):=by rw [wJ];rfl
theorem w2:kc noX iu 2=(wS,0):=by
 unfold kc
 rw [AKa,Sd.eq_2,AH6,w2s,if_pos rfl]
 rfl
theorem yQ:wS.length=52:=by
 unfold wS
 rw [LP _ _ _ _ (CI _) (Bo 12),Xw,WA,ij]
 rfl
theorem wO:kJ (BR wK) wS=([wM],0):=by
 have hj:jl [wM]=36:=by rw [WA,ij];rfl
 have e:Cx (BR wK) (Ac 12) [] (cut wS 0 (wS.length-16))=cut wS (wS.length-16) 16:=AEl (BR wK) (Ac 12) (jn [wM]) (CI _) (Bo 12)
 have he:TM (BR wK) wS=0:=by
  unfold TM
  rw [if_neg (by rw [yQ];decide),if_pos e]
 unfold kJ
 rw [if_pos he,show Dt (BR wK) (Ac 12) wS=jn [wM] from yo (BR wK) (Ac 12) (jn [wM]) (CI _) (Bo 12)]
 exact bL (by rw [Xw,hj];decide) (AIs _ (by rw [hj];decide))
theorem wB(i:Nat)(hi:i<3)(v:AA 8)(h:kc noX iu i=(v,0)):Ev prog (.call 22 [AY 0,At (i:Int)] [.row false (.ac [.sl 1 0 3 3 3,.mp 2]),.row false (.an iu),.row false (.mp (IZ iu))]) (.val (.tup [.c (.bs v),At ((0:Nat):Int)]) [.row false (.ac [.sl 1 0 3 3 3,.mp 2]),.row false (.an iu),.row false (.mp (IZ iu))]):=by
 have:=qq noX iu (IZ iu) 3 i rfl D_ hi wA3 (fun D k hk _ _ hh=>absurd hh (wH k (by have:=(bZ iu i _ hk).2;omega)))
 rw [h] at this
 exact this
attribute [irreducible] wK wM wS
theorem cn(k:r)(h:Hid r→g:=by intro h;refine AB (F1 (j:=0) rfl rfl underlying22 WE O_) rfl ?_;exact h.out):g:=h ⟨k⟩
theorem Kf(k:r)(h:Hid r→g:=by intro h;refine AB (cK rfl underlying23 rfl) rfl ?_;refine Ee FR ?_;exact h.out):g:=h ⟨k⟩
theorem AA3:Ev prog (.call 19 [] []) (.val (.c (.val (.bool true))) []):=by
 have m1:=sh [] 0 1 1 .nil rfl D_ D_ D_ rfl
 have m2:=sh wL1 1 2 2 wA1 rfl D_ D_ D_ D_
 have m3:=sM wL2 2 6 0 [0,1] wA2 rfl D_ D_ D_ D_ D_
 have b0:=wB 0 D_ wK w0
 have b1:=wB 1 D_ wM w1
 have b2:=wB 2 D_ wS w2
 have hO:=YA (BR wK) wS (CI _) (by rw [yQ];decide)
 rw [wO] at hO
 dsimp only [List.length] at hO
 have hMl:=ij
 have hKl:=AFh
 refine AI func19 rfl ntmps19 rfl AM ?_;refine P3 ?_;refine Li (AHb) AIR ?_;refine BF ?_;refine Hl (AEv AI0 rfl rfl) rfl ?_;refine Ak ?_;refine Hl (MB (bs:=[0,1,2]) (m1) AAy K_ rfl rfl B4 AT) rfl ?_;refine Ch ?_;refine FB ?_;refine Hl (MB (bs:=[0,3,2]) (m2) AAy K_ rfl rfl B4 AT) rfl ?_;refine Ir ?_;refine Be ?_;refine AX ?_;refine Hl (wo (Ev.mem (fX (l:=[_,_]) underlying41 oV rfl rfl D_ D_ AM)) AM AP rfl) rfl ?_;refine Hl (MB (bs:=[0,4,2]) (m3) AAy K_ rfl rfl B4 AT) rfl ?_;refine Ir ?_;refine Be ?_;refine CQ (Ah (bs:=[0,5,2]) (b0) zk K_ K_ rfl B4) AT rfl ?_;refine Ir ?_;refine Be ?_;refine CQ (Ah (bs:=[0,5,2]) (b2) zk K_ K_ rfl B4) AT rfl ?_;refine Ir ?_;refine Be ?_;refine CQ (Ah (bs:=[0,5,2]) (b1) zk K_ K_ rfl B4) AT rfl ?_;refine Ch ?_;refine FB ?_;refine Li (sF wK (by rw [hKl];decide)) ADu ?_
 refine AX ?_;refine Li (hO) zv ?_;refine Ch ?_;refine FB ?_;refine AB (DC (b:=0) rfl rfl) rfl ?_;refine E9 ?_;refine AB (DC (b:=0) rfl rfl) rfl ?_;refine HZ ?_;refine E9 ?_;refine AB (DC (b:=0) rfl rfl) rfl ?_;refine HZ ?_;refine E9 ?_;refine AB (DC (b:=0) rfl rfl) rfl ?_;refine HZ ?_;refine E9 ?_;refine Yj ?_;refine Ee FR ?_;refine AB (DC (b:=1) rfl rfl) rfl ?_;refine HZ ?_;refine E9 ?_;refine cn ?_;refine Ee FR ?_;refine lD ?_;refine Ee FR ?_;refine YN ?_;refine Li (kq wM (by rw [hMl];decide)) ADW ?_
 refine HZ ?_;refine E9 ?_;refine Kf ?_;refine AB (DC (b:=32) rfl rfl) rfl ?_;refine HZ ?_;refine Al ?_;exact CF
theorem zM{P:Program}{M:Az}{t t' ty:TypeId}{el b n cap:Nat}{x l:AA 8}(hu:P.underlying t=some (.slice el))(hsz:EM P el=some 1)(hm:M[b]?=some (.row true (.a8 x)))(hx:x.length=n)(hl:l.length=n)(h0:0<n)
  {ι:Emb} {w:World} (hR:R ι M w) {p q:Value} (hd:(AV.c (.sl b 0 n cap 1)).rel ι p) (hs:(AV.c (.bs l)).rel ι q):UL P ι M w (.c (.val (.int .i64 ((n:Nat):Int)))) (M.set b (.row true (.a8 l))) (Builtin.copy_ #[t,t'] ty #[p,q]):=by
 obtain ⟨pp,cap',rfl,h1,h2,h3⟩:=hd
 obtain ⟨pq,cq,l',rfl,_,hsh⟩:=LR (M:=M) (sz:=1) (x:= .c (.bs l)) (y:= .a8 l) (n:=l.length) rfl D_ hR hs
 have hf:=hsh.first P cq w rfl
 rw [hl] at hf
 have hll:l'.length=n:=by have:=hsh.len;omega
 have hsize:(Arr.a8 l).size=n:=hl
 have hz:(Arr.a8 x).putW 0 (.a8 l)=some (.a8 (over x 0 l)):=rfl
 rw [km _ _ O_] at hz
 obtain ⟨s1,s2⟩:=Arr.putW_spec hz (by rw [hsize];show 0+n≤x.length;omega)
 have hcell:∀j,j<l'.toArray.size→ ∃v,l'.toArray[j]?=some v∧((Arr.a8 l).get j).rel ι v:=by
  intro j hj
  have hj':j<n:=by rw [←hll];simpa using hj
  obtain ⟨v',hv',hr⟩:=hsh.rel j (by rw [hsize];exact hj')
  exact ⟨v',by simpa using hv',hr⟩
 have hl1:∀u∈l',u.oneCell'=true:=by
  intro u hu
  obtain ⟨j,hj,rfl⟩:=List.mem_iff_getElem.1 hu
  obtain ⟨v',hv',hr⟩:=hsh.rel j (by rw [hsize];omega)
  rw [List.getElem?_eq_getElem hj] at hv'
  cases hv'
  exact Cell.rel_one hr (Arr.get_one (x:= .a8 l) rfl (by rw [hsize];omega))
 rcases h3 with h3 | ⟨loc,hb,rfl,hfit⟩
 ·omega
 ·obtain ⟨cs,tt,fr,k1,k2,k3,k4⟩:=hR.cells hb hm rfl
  obtain ⟨rfl,k5⟩:=k4 rfl
  have k2':n≤loc.n:=by rw [←hx];exact k2
  have hst:=run_storeCells_at P loc.c (loc.off+0) tt l' 0 cs w k1 O_ hl1
  simp only [Nat.add_zero] at hst
  have hsize2:(cs.toList.take loc.off++l'++cs.toList.drop (loc.off+l'.length)).toArray.size=cs.size:=by simp;omega
  have hrel:=Vd (g:=(Arr.a8 l).get) (vs:=l'.toArray) k3 s1 (o:=0) (by simp;show _≤x.length;omega) (by
   intro j hj
   have:=s2 j hj
   rw [hsize] at this
   simp only [List.size_toArray,hll]
   exact this) hcell
  have hst2:=QS (y:= .a8 l) hR hb hm k1 hsize2 (by rw [hsize];exact k2') (by simpa using hrel) rfl
  refine ⟨.int .i64 (n:Nat),_,ι,?_,rfl,hst2⟩
  have hn:Nat.min n n=n:=Nat.min_self n
  simp [Builtin.copy_,run_underlying hu,Builtin.lenOf,Cd hsz,hl,hn,hf,hst,goInt]
section
variable {P:Program} {k:Nat} {ops:Array Oper} {l:List Oper} {N d:Nat} {T:Nat→AV} {M M':Az} {K:St→Prop} {ty t t':TypeId} {pos:String} {af:Array Edge}
theorem ABc{s x:Operand}{el b n cap:Nat}{u y:AA 8}(hs:AF T s= .c (.sl b 0 n cap 1))(hx:AF T x= .c (.bs y))(hm:M[b]?=some (.row true (.a8 u)))(hu:P.underlying t=some (.slice el))(hz:EM P el=some 1)
  (hlu:u.length=n) (hl:y.length=n) (h0:0<n) (hM:M.set b (.row true (.a8 y))=M'):Ev P (.op (.call { callee:= .builtin .copy,args:= #[s,x],argTypes:= #[t,t'] }) (AF T) M) (.val (.c (.val (.int .i64 ((n:Nat):Int)))) M'):=by
 subst hM
 refine Ev.sem fun O ι w ρ hO hR hρ=> .inl ?_
 obtain ⟨dst,op,type,pos,after,guard⟩:=O
 simp only at hO
 subst hO
 have r1:=hρ s (by simp [Op.operands,Call.operands])
 have r2:=hρ x (by simp [Op.operands,Call.operands])
 rw [hs] at r1
 rw [hx] at r2
 obtain ⟨v,w',ι',hr,hv,hst⟩:=zM (t':=t') (ty:=type) hu hz hm hlu hl h0 hR r1 r2
 exact ⟨v,w',ι',.inl (by simp [execOp,resolve,invoke,builtin,hr]),hv,hst⟩
theorem pi{x:Operand}{n el:Nat}{y:AA 8}(hx:AF T x= .c (.bs y))(hu:P.underlying t=some (.array n el))(h1:n≤y.length)(h0:0<n):AS P (AF T) M (.sliceToArrayPointer t x)=some (.c (.qb y 0)):=by
 show PI P t (AF T x)=_
 rw [hx];simp [PI,hu,h1,h0]
theorem AA0{a:Operand}{o n:Nat}{y:AA 8}(ha:AF T a= .c (.qb y o))(hr:BX P t=some true)(hs:EM P t=some n)(h:o+n≤y.length)(h0:0<n):AS P (AF T) M (.load t a)=some (.agg (.a8 (cut y o n))):=by
 have hh:o+n≤(Arr.a8 y).size:=h
 simp [AS,ha,G4,hr,hs,hh,h0,ADx]
theorem bf{a:Operand}{n:Nat}{y:AA 8}(ha:AF T a= .c (.qb y 0))(hr:BX P t=some true)(hs:EM P t=some n)(h:y.length=n)(h0:0<n):AS P (AF T) M (.load t a)=some (.agg (.a8 y)):=by
 have:=AA0 (P:=P) (M:=M) ha hr hs O_ h0
 rwa [IE h] at this
end
def Fw(x y:BitVec 64):BitVec 64:=(((x>>>32)*(y>>>32))+((((x>>>32)*(y&&&4294967295#64))+(((x&&&4294967295#64)*(y&&&4294967295#64))>>>32))>>>32))+((((((x>>>32)*(y&&&4294967295#64))+(((x&&&4294967295#64)*(y&&&4294967295#64))>>>32))&&&4294967295#64)+((x&&&4294967295#64)*(y>>>32)))>>>32)
def Bh(x y:BitVec 64):BitVec 64:=x*y
theorem cm(k:r)(h:Hid r→g:=by intro h;refine AB (CW (j:=32) rfl rfl) rfl ?_;exact h.out):g:=h ⟨k⟩
theorem cI(x y:BitVec 64):Ev prog (.call 163 [.c (.val (Bp x)),.c (.val (Bp y))] []) (.val (.tup [.c (.val (Bp (Fw x y))),.c (.val (Bp (Bh x y)))]) []):=by
 have hP_mul640:Hid (Fw x y=(((x>>>32)*(y>>>32))+((((x>>>32)*(y&&&4294967295#64))+(((x&&&4294967295#64)*(y&&&4294967295#64))>>>32))>>>32))+((((((x>>>32)*(y&&&4294967295#64))+(((x&&&4294967295#64)*(y&&&4294967295#64))>>>32))&&&4294967295#64)+((x&&&4294967295#64)*(y>>>32)))>>>32)):=⟨rfl⟩
 have hP_mul641:Hid (Bh x y=x*y):=⟨rfl⟩
 refine AI func163 rfl ntmps163 rfl AM ?_;refine Jh ?_;refine AB (Gk (b:=4294967295#64) rfl rfl) rfl ?_;refine BF ?_;refine cm ?_;refine BF ?_;refine AB (Gk (b:=4294967295#64) rfl rfl) rfl ?_;refine BF ?_;refine cm ?_;refine Be ?_;refine AB (Gx rfl rfl) rfl ?_;refine Be ?_;refine AB (Gx rfl rfl) rfl ?_;refine AX ?_;refine cm ?_;refine EW ?_;refine BF ?_;refine AB (Gk (b:=4294967295#64) rfl rfl) rfl ?_;refine BF ?_;refine cm ?_;refine Be ?_;refine AX ?_;refine AB (Gx rfl rfl) rfl ?_;refine EW ?_;refine Be ?_;refine AB (Gx rfl rfl) rfl ?_;refine AX ?_;refine EW ?_;refine AX ?_;refine cm ?_;refine EW ?_;refine Be ?_;refine AB (Gx rfl rfl) rfl ?_;refine Al ?_;rw [hP_mul640.out,hP_mul641.out]
 exact UE
attribute [irreducible] Fw
attribute [irreducible] Bh
theorem WW(x y c:BitVec 64)(h:c.toNat≤1):(Cm x y c).toNat≤1:=by
 have:=x.isLt;have:=y.isLt
 unfold Cm
 rw [BitVec.toNat_ofNat]
 omega
theorem iZ(x y c:BitVec 64):(Kj x y c).toNat≤1:=by
 unfold Kj
 split<;>decide
def Us(X1:BitVec 64)(X2:AA 64)(j3:Nat):BitVec 64×AA 64:=((nth (put X2 j3 ((nth X2 j3)+X1)) j3)>>>51,put (put X2 j3 ((nth X2 j3)+X1)) j3 ((nth (put X2 j3 ((nth X2 j3)+X1)) j3)&&&2251799813685247#64))
def EG(a:AA 64):Nat→BitVec 64×AA 64
 |0=>(0#64,a)
 |j3+1=>Us (EG a j3).1 (EG a j3).2 j3
theorem Oz(a:AA 64)(ha:a.length=5)(j3:Nat):(EG a j3).2.length=5:=by
 induction j3 with
 |zero=>(simp [EG, *];done)
 |succ j3 ih=>rw [EG.eq_2,Us];(simp [ih];done)
def Ba(a:AA 64):AA 64:=put ((EG a 5).2) 0 ((nth ((EG a 5).2) 0)+(19#64*((EG a 5).1)))
theorem EH(k:r)(h:Hid r→g:=by intro h;refine Ap (Ay TC AM) AT rfl ?_;exact h.out):g:=h ⟨k⟩
theorem KY(k:r)(h:Hid r→g:=by intro h;refine AB (AN rfl rfl underlying160 Am O_) rfl ?_;exact h.out):g:=h ⟨k⟩
theorem bS(k:r)(h:Hid r→g:=by intro h;refine AB (CW (j:=51) rfl rfl) rfl ?_;exact h.out):g:=h ⟨k⟩
theorem Qd(k:r)(h:Hid r→g:=by intro h;refine AB (Gk (b:=2251799813685247#64) rfl rfl) rfl ?_;exact h.out):g:=h ⟨k⟩
theorem Uu(k:r)(h:Hid r→g:=by intro h;refine AB (A8 (a:=5) (b:=5) rfl rfl) rfl ?_;exact h.out):g:=h ⟨k⟩
theorem Qu(k:r)(h:Hid r→g:=by intro h;refine AB (AN (j:=0) rfl rfl underlying160 Am O_) rfl ?_;exact h.out):g:=h ⟨k⟩
theorem IOq(k:r)(h:Hid r→g:=by intro h;refine AB (A9 rfl rfl H7 HF B7 D_) rfl ?_;exact h.out):g:=h ⟨k⟩
theorem OY(k:r)(h:Hid r→g:=by intro h;refine Bs rfl rfl rfl rfl HF B7 B7 AT ?_;refine AR ?_;refine S_ ?_;exact h.out):g:=h ⟨k⟩
theorem Pv(h:g:=by exact kG (Hu rfl rfl H7 HF B7 D_) (by (kernel_rfl))):g:=h
theorem Pd(a:AA 64)(ha:a.length=5):Ev prog (.call 187 [Aw (a)] []) (.val (Aw (Ba a)) []):=by
 have hP:=Hid.mk (Ba.eq_1 a)
 refine AI func187 rfl ntmps187 rfl AM ?_;refine BA ?_;refine EH ?_;refine AZ ?_;refine BF ?_;refine Ar ?_;refine AK [1,2,3,5] (fun (zz:Nat×BitVec 64×AA 64)=>⟨31,AU [1,2,3,5] [AY 0,AY 1,.c (.val (Bp (zz.2.1))),At (((zz.1:Nat):Int))],[Bb (zz.2.2),Bb (AC 5)]⟩) (fun j3=>(j3,EG a j3)) (5) K_ ?_ ?_
 ·intro j3 hj3
  try dsimp only
  have hX2:(EG a j3).2.length=5:=by rw [Oz a ha _];try omega
  rw [EG.eq_2,Us]
  generalize EG a j3=Z3 at*
  obtain ⟨X1,X2⟩:=Z3
  try dsimp only at*
  refine Gy ?_;refine Ak ?_;refine BF ?_;refine KY ?_;refine Ed ?_;refine EW ?_;refine KY ?_;refine D4 ?_;refine Ak ?_;refine KY ?_;refine A3 ?_;refine bS ?_;refine BF ?_;refine KY ?_;refine A3 ?_;refine Qd ?_;refine KY ?_;refine D4 ?_;refine Cj ?_;exact ⟨(j3+1,_),K_,rfl⟩
 ·try dsimp only
  have hY5:(EG a 5).2.length=5:=by rw [Oz a ha _];try omega
  generalize EG a 5=Z6 at*
  obtain ⟨Y4,Y5⟩:=Z6
  try dsimp only at*
  refine Ab ?_;refine Uu ?_;refine AZ ?_;refine Qu ?_;refine Ed ?_;refine AB (Gx (a:=19#64) rfl rfl) rfl ?_;refine EW ?_;refine Qu ?_;refine D4 ?_;refine AZ ?_;refine IOq ?_;refine OY ?_;rw [hP.out]
  exact Pv
@[simp] theorem AHw(a:AA 64)(ha:a.length=5):(Ba a).length=5:=by
 unfold Ba
 (simp [Oz, *];done)
attribute [irreducible] Ba
def RJ(a b:AA 64)(j3:Nat)(X3 X4:AA 64)(j6:Nat):AA 64×AA 64:=(put X3 ((j3+j6)%5) ((nth X3 ((j3+j6)%5))+((Fw (nth a j3) (if 5≤j3+j6 then (nth b j6)*19#64 else nth b j6))+(Cm (nth X4 ((j3+j6)%5)) (Bh (nth a j3) (if 5≤j3+j6 then (nth b j6)*19#64 else nth b j6)) 0#64))),put X4 ((j3+j6)%5) ((nth X4 ((j3+j6)%5))+(Bh (nth a j3) (if 5≤j3+j6 then (nth b j6)*19#64 else nth b j6))+0#64))
def Cu(a b X1 X2:AA 64)(j3:Nat):Nat→AA 64×AA 64
 |0=>(X1,X2)
 |j6+1=>RJ a b j3 (Cu a b X1 X2 j3 j6).1 (Cu a b X1 X2 j3 j6).2 j6
theorem Ox(a b X1 X2:AA 64)(j3:Nat)(_ha:a.length=5)(_hb:b.length=5)(hX1:X1.length=5)(hX2:X2.length=5)(j6:Nat):(Cu a b X1 X2 j3 j6).1.length=5∧(Cu a b X1 X2 j3 j6).2.length=5:=by
 induction j6 with
 |zero=>refine ⟨?_,?_⟩<;>(simp (maxDischargeDepth:=9) [Cu, *];done)
 |succ j6 ih=>
  obtain ⟨ih0,ih1⟩:=ih
  rw [Cu.eq_2,RJ]
  refine ⟨?_,?_⟩<;>(simp (maxDischargeDepth:=9) [*];done)
theorem K3(a b X1 X2:AA 64)(j3:Nat)(ha:a.length=5)(hb:b.length=5)(hX1:X1.length=5)(hX2:X2.length=5)(j6:Nat):(Cu a b X1 X2 j3 j6).1.length=5:=(Ox a b X1 X2 j3 ha hb hX1 hX2 j6).1
theorem LO(a b X1 X2:AA 64)(j3:Nat)(ha:a.length=5)(hb:b.length=5)(hX1:X1.length=5)(hX2:X2.length=5)(j6:Nat):(Cu a b X1 X2 j3 j6).2.length=5:=(Ox a b X1 X2 j3 ha hb hX1 hX2 j6).2
def Qw(a b X1 X2:AA 64)(j3:Nat):AA 64×AA 64:=(((Cu a b X1 X2 j3 5).1),((Cu a b X1 X2 j3 5).2))
def BB(a b:AA 64):Nat→AA 64×AA 64
 |0=>(AC 5,AC 5)
 |j3+1=>Qw a b (BB a b j3).1 (BB a b j3).2 j3
theorem LN(a b:AA 64)(ha:a.length=5)(hb:b.length=5)(j3:Nat):(BB a b j3).1.length=5∧(BB a b j3).2.length=5:=by
 induction j3 with
 |zero=>refine ⟨?_,?_⟩<;>(simp (maxDischargeDepth:=9) [BB, *];done)
 |succ j3 ih=>
  obtain ⟨ih0,ih1⟩:=ih
  rw [BB.eq_2,Qw]
  refine ⟨?_,?_⟩<;>(simp (maxDischargeDepth:=9) [K3,LO, *];done)
theorem OG(a b:AA 64)(ha:a.length=5)(hb:b.length=5)(j3:Nat):(BB a b j3).1.length=5:=(LN a b ha hb j3).1
theorem OJ(a b:AA 64)(ha:a.length=5)(hb:b.length=5)(j3:Nat):(BB a b j3).2.length=5:=(LN a b ha hb j3).2
def Rw(Y11 Y12:AA 64)(X14:BitVec 64)(X15:AA 64)(j21:Nat):BitVec 64×AA 64:=((((nth Y11 j21)+(Cm (nth Y12 j21) X14 0#64))<<<13) ||| (((nth Y12 j21)+X14+0#64)>>>51),put X15 j21 (((nth Y12 j21)+X14+0#64)&&&2251799813685247#64))
def Bz(Y11 Y12:AA 64):Nat→BitVec 64×AA 64
 |0=>(0#64,AC 5)
 |j21+1=>Rw Y11 Y12 (Bz Y11 Y12 j21).1 (Bz Y11 Y12 j21).2 j21
theorem NM(Y11 Y12:AA 64)(_hY11:Y11.length=5)(_hY12:Y12.length=5)(j21:Nat):(Bz Y11 Y12 j21).2.length=5:=by
 induction j21 with
 |zero=>(simp (maxDischargeDepth:=9) [Bz, *];done)
 |succ j21 ih=>rw [Bz.eq_2,Rw];(simp (maxDischargeDepth:=9) [ih];done)
def AL(a b:AA 64):AA 64:=Ba (put (put ((Bz ((BB a b 5).1) ((BB a b 5).2) 5).2) 0 (((Bh ((Bz ((BB a b 5).1) ((BB a b 5).2) 5).1) 19#64)+(nth ((Bz ((BB a b 5).1) ((BB a b 5).2) 5).2) 0)+0#64)&&&2251799813685247#64)) 1 ((nth (put ((Bz ((BB a b 5).1) ((BB a b 5).2) 5).2) 0 (((Bh ((Bz ((BB a b 5).1) ((BB a b 5).2) 5).1) 19#64)+(nth ((Bz ((BB a b 5).1) ((BB a b 5).2) 5).2) 0)+0#64)&&&2251799813685247#64)) 1)+((((Fw ((Bz ((BB a b 5).1) ((BB a b 5).2) 5).1) 19#64)+(Cm (Bh ((Bz ((BB a b 5).1) ((BB a b 5).2) 5).1) 19#64) (nth ((Bz ((BB a b 5).1) ((BB a b 5).2) 5).2) 0) 0#64))<<<13) ||| (((Bh ((Bz ((BB a b 5).1) ((BB a b 5).2) 5).1) 19#64)+(nth ((Bz ((BB a b 5).1) ((BB a b 5).2) 5).2) 0)+0#64)>>>51))))
theorem Wi(k:r)(h:Hid r→g:=by intro h;refine AB (AN rfl rfl underlying159 Am O_) rfl ?_;exact h.out):g:=h ⟨k⟩
theorem aN(k:r)(h:Hid r→g:=by intro h;refine CQ (qt ZR rfl rfl rfl (rfl:_=Bp (0#64)) D_) AT rfl ?_;exact h.out):g:=h ⟨k⟩
theorem fm(k:r)(h:Hid r→g:=by intro h;refine AB (AN (j:=1) rfl rfl underlying160 Am O_) rfl ?_;exact h.out):g:=h ⟨k⟩
theorem Lg(k:r)(h:Hid r→g:=by intro h;refine S_ ?_;refine A2 ?_;refine AB (A9 rfl rfl H7 HF B7 D_) rfl ?_;exact h.out):g:=h ⟨k⟩
theorem CB(a b:AA 64)(ha:a.length=5)(hb:b.length=5):Ev prog (.call 158 [Aw (a),Aw (b)] []) (.val (Aw (AL a b)) []):=by
 have hP:=Hid.mk (AL.eq_1 a b)
 refine AI func158 rfl ntmps158 rfl AM ?_;refine BO ?_;refine EH ?_;refine AZ ?_;refine Ap (Ay ABD AM) AT rfl ?_;refine Ap (Ay ABD AM) AT rfl ?_;refine FA ?_;refine AK [2,3,4,5,6,22] (fun (zz:Nat×AA 64×AA 64)=>⟨122,AU [2,3,4,5,6,22] [AY 0,AY 1,AY 2,AY 3,AY 4,At (((zz.1:Nat):Int))],[Bb (a),Bb (b),Bb (AC 5),Bb (zz.2.1),Bb (zz.2.2)]⟩) (fun j3=>(j3,BB a b j3)) (5) K_ ?_ ?_
 ·intro j3 hj3
  try dsimp only
  have hX1:(BB a b j3).1.length=5:=by rw [OG a b ha hb _];try omega
  have hX2:(BB a b j3).2.length=5:=by rw [OJ a b ha hb _];try omega
  rw [BB.eq_2,Qw]
  generalize BB a b j3=Z3 at*
  obtain ⟨X1,X2⟩:=Z3
  try dsimp only at*
  refine Gy ?_;refine Ak ?_;refine BF ?_;refine Ar ?_;refine AK [2,3,4,5,6,7,22,25] (fun (zz:Nat×AA 64×AA 64)=>⟨122,AU [2,3,4,5,6,7,22,25] [AY 0,AY 1,AY 2,AY 3,AY 4,At (((j3:Nat):Int)),At (((j3:Nat):Int)),At (((zz.1:Nat):Int))],[Bb (a),Bb (b),Bb (AC 5),Bb (zz.2.1),Bb (zz.2.2)]⟩) (fun j6=>(j6,Cu a b X1 X2 j3 j6)) (5) K_ ?_ ?_
  ·intro j6 hj6
   try dsimp only
   have hX4:(Cu a b X1 X2 j3 j6).1.length=5:=by rw [K3 a b X1 X2 j3 ha hb hX1 hX2 _];try omega
   have hX5:(Cu a b X1 X2 j3 j6).2.length=5:=by rw [LO a b X1 X2 j3 ha hb hX1 hX2 _];try omega
   rw [Cu.eq_2,RJ]
   generalize Cu a b X1 X2 j3 j6=Z6 at*
   obtain ⟨X4,X5⟩:=Z6
   try dsimp only at*
   refine Gy ?_;refine Ak ?_;refine BF ?_;refine KY ?_;refine A3 ?_;refine Be ?_;refine Rb ?_;refine AB (XH (b:=5) rfl rfl) rfl ?_;refine EA ?_;refine Eb [2,3,4,5,6,7,8,9,22,25] (fun (zz:BitVec 64)=>⟨122,AU [2,3,4,5,6,7,8,9,22,25] [AY 0,AY 1,AY 2,AY 3,AY 4,At (((j3:Nat):Int)),At (((j6:Nat):Int)),.c (.val (Bp (zz))),At (((j3:Nat):Int)),At (((j6:Nat):Int))],[Bb (a),Bb (b),Bb (AC 5),Bb (X4),Bb (X5)]⟩) (if 5≤j3+j6 then (nth b j6)*19#64 else nth b j6) rfl (fun hb=>?_) (fun hb=>?_) ?_
   ·have hb_:=of_decide_eq_true hb
    refine A1 ?_;refine AB (Gx (b:=19#64) rfl rfl) rfl ?_;refine Al ?_;refine ⟨((nth b j6)*19#64),K_,?_⟩
    rw [if_pos (of_decide_eq_true hb)]
   ·have hb_:=of_decide_eq_false hb
    refine S_ ?_;refine ⟨(nth b j6),K_,?_⟩
    rw [if_neg (of_decide_eq_false hb)]
   generalize (if 5≤j3+j6 then (nth b j6)*19#64 else nth b j6)=J7 at*
   refine A1 ?_;refine KY ?_;refine Ed ?_;refine Ae (cI (nth a j3) J7) np ?_;refine Ir ?_;refine Be ?_;refine Rb ?_;refine po ?_;refine Ai ?_;refine Be ?_;refine Wi ?_;refine Ed ?_;refine aN ?_;refine Ch ?_;refine Wi ?_;refine D4 ?_;refine BF ?_;refine Wi ?_;refine Ed ?_;refine AX ?_;refine EW ?_;refine EW ?_;refine Wi ?_;refine D4 ?_;refine Cj ?_;exact ⟨(j6+1,_),K_,rfl⟩
  ·try dsimp only
   have hY8:(Cu a b X1 X2 j3 5).1.length=5:=by rw [K3 a b X1 X2 j3 ha hb hX1 hX2 _];try omega
   have hY9:(Cu a b X1 X2 j3 5).2.length=5:=by rw [LO a b X1 X2 j3 ha hb hX1 hX2 _];try omega
   generalize Cu a b X1 X2 j3 5=Z10 at*
   obtain ⟨Y8,Y9⟩:=Z10
   try dsimp only at*
   refine Ab ?_;refine Uu ?_;refine Cj ?_;exact ⟨(j3+1,_),K_,rfl⟩
 ·try dsimp only
  have hY11:(BB a b 5).1.length=5:=by rw [OG a b ha hb _];try omega
  have hY12:(BB a b 5).2.length=5:=by rw [OJ a b ha hb _];try omega
  generalize BB a b 5=Z13 at*
  obtain ⟨Y11,Y12⟩:=Z13
  try dsimp only at*
  refine Ab ?_;refine Uu ?_;refine AZ ?_;refine EH ?_;refine AZ ?_;refine BF ?_;refine Ar ?_;refine AK [4,5,6,14,15,69] (fun (zz:Nat×BitVec 64×AA 64)=>⟨122,AU [4,5,6,14,15,69] [AY 0,AY 1,AY 2,AY 3,.c (.val (Bp (zz.2.1))),At (((zz.1:Nat):Int))],[Bb (AC 5),Bb (Y11),Bb (Y12),Bb (zz.2.2)]⟩) (fun j21=>(j21,Bz Y11 Y12 j21)) (5) K_ ?_ ?_
  ·intro j21 hj21
   try dsimp only
   have hX15:(Bz Y11 Y12 j21).2.length=5:=by rw [NM Y11 Y12 hY11 hY12 _];try omega
   rw [Bz.eq_2,Rw]
   generalize Bz Y11 Y12 j21=Z16 at*
   obtain ⟨X14,X15⟩:=Z16
   try dsimp only at*
   refine Gy ?_;refine Ak ?_;refine BF ?_;refine Wi ?_;refine Ed ?_;refine aN ?_;refine Ir ?_;refine Be ?_;refine Qd ?_;refine KY ?_;refine D4 ?_;refine Ak ?_;refine Wi ?_;refine Ed ?_;refine EW ?_;refine AB (CM (j:=13) rfl rfl) rfl ?_;refine AX ?_;refine bS ?_;refine Ld ?_;refine Ai ?_;refine Nl ?_;exact ⟨(j21+1,_),K_,rfl⟩
  ·try dsimp only
   have hY18:(Bz Y11 Y12 5).2.length=5:=by rw [NM Y11 Y12 hY11 hY12 _];try omega
   generalize Bz Y11 Y12 5=Z19 at*
   obtain ⟨Y17,Y18⟩:=Z19
   try dsimp only at*
   refine Ab ?_;refine Uu ?_;refine Ak ?_;refine Ae (cI Y17 19#64) np ?_;refine Ch ?_;refine FB ?_;refine Qu ?_;refine A3 ?_;refine aN ?_;refine Ch ?_;refine FB ?_;refine Qd ?_;refine Qu ?_;refine D4 ?_;refine AZ ?_;refine fm ?_;refine Ed ?_;refine AX ?_;refine EW ?_;refine AB (CM (j:=13) rfl rfl) rfl ?_;refine AX ?_;refine bS ?_;refine Ld ?_;refine EW ?_;refine fm ?_;refine D4 ?_;refine AR ?_;have hQ20:(Ba (put (put Y18 0 (((Bh Y17 19#64)+(nth Y18 0)+0#64)&&&2251799813685247#64)) 1 ((nth (put Y18 0 (((Bh Y17 19#64)+(nth Y18 0)+0#64)&&&2251799813685247#64)) 1)+((((Fw Y17 19#64)+(Cm (Bh Y17 19#64) (nth Y18 0) 0#64))<<<13) ||| (((Bh Y17 19#64)+(nth Y18 0)+0#64)>>>51))))).length=5:=AP
   refine Lg ?_;refine Ae (Pd (put (put Y18 0 (((Bh Y17 19#64)+(nth Y18 0)+0#64)&&&2251799813685247#64)) 1 ((nth (put Y18 0 (((Bh Y17 19#64)+(nth Y18 0)+0#64)&&&2251799813685247#64)) 1)+((((Fw Y17 19#64)+(Cm (Bh Y17 19#64) (nth Y18 0) 0#64))<<<13) ||| (((Bh Y17 19#64)+(nth Y18 0)+0#64)>>>51)))) AD) XT ?_
   refine OY ?_;rw [hP.out]
   exact Pv
@[simp] theorem AHq(a b:AA 64)(ha:a.length=5)(hb:b.length=5):(AL a b).length=5:=by
 unfold AL
 (simp (maxDischargeDepth:=9) [OG,OJ,NM, *];done)
attribute [irreducible] AL
def AQ(x:BitVec 64):AA 64:=put (AC 5) 0 x
theorem EX(x:BitVec 64):Ev prog (.call 155 [.c (.val (Bp x))] []) (.val (Aw (AQ x)) []):=by
 have hP:=Hid.mk (AQ.eq_1 x)
 refine AI func155 rfl ntmps155 rfl AM ?_;refine Ab ?_;refine EH ?_;refine Ak ?_;refine AB (tG AFv underlying160 Am rfl rfl rfl) rfl ?_;refine OY ?_;rw [hP.out]
 exact Pv
@[simp] theorem AEc(x:BitVec 64):(AQ x).length=5:=by
 unfold AQ
 (simp [*];done)
attribute [irreducible] AQ
def Ue(b X1:AA 64)(j2:Nat):AA 64:=put X1 j2 ((nth X1 j2)+(nth b j2))
def G2(a b:AA 64):Nat→AA 64
 |0=>a
 |j2+1=>Ue b (G2 a b j2) j2
theorem Pj(a b:AA 64)(ha:a.length=5)(j2:Nat):(G2 a b j2).length=5:=by
 induction j2 with
 |zero=>(simp [G2, *];done)
 |succ j2 ih=>rw [G2.eq_2,Ue];(simp [ih];done)
def Ag(a b:AA 64):AA 64:=Ba (G2 a b 5)
theorem VF(k:r)(h:Hid r→g:=by intro h;refine AH (AN rfl rfl underlying160 Am O_) rfl ?_;exact h.out):g:=h ⟨k⟩
theorem Kn(k:r)(h:Hid r→g:=by intro h;refine BJ ?_;refine fB rfl rfl rfl Am EO AT ?_;exact h.out):g:=h ⟨k⟩
theorem G3(a b:AA 64)(ha:a.length=5)(hb:b.length=5):Ev prog (.call 156 [Aw (a),Aw (b)] []) (.val (Aw (Ag a b)) []):=by
 have hP:=Hid.mk (Ag.eq_1 a b)
 refine AI func156 rfl ntmps156 rfl AM ?_;refine BO ?_;refine EH ?_;refine FA ?_;refine AK [2,3,4,6] (fun (zz:Nat×AA 64)=>⟨20,AU [2,3,4,6] [AY 0,AY 1,AY 2,At (((zz.1:Nat):Int))],[Bb (zz.2),Bb (b),Bb (AC 5)]⟩) (fun j2=>(j2,G2 a b j2)) (5) K_ ?_ ?_
 ·intro j2 hj2
  try dsimp only
  have hX1:(G2 a b j2).length=5:=by rw [Pj a b ha _];try omega
  rw [G2.eq_2,Ue]
  generalize G2 a b j2=X1 at*
  refine Gy ?_;refine Eg ?_;refine SG ?_;refine AW ?_;refine VF ?_;refine Fm ?_;refine VF ?_;refine DT ?_;refine Mq ?_;refine VF ?_;refine Kn ?_;refine Cj ?_;exact ⟨(j2+1,_),K_,rfl⟩
 ·try dsimp only
  have hY2:(G2 a b 5).length=5:=by rw [Pj a b ha _];try omega
  generalize G2 a b 5=Y2 at*
  refine Ab ?_;refine Uu ?_;refine AR ?_;have hQ3:(Ba Y2).length=5:=AP
  refine Lg ?_;refine Ae (Pd Y2 AD) XT ?_;refine OY ?_;rw [hP.out]
  exact Pv
@[simp] theorem AH2(a b:AA 64)(ha:a.length=5)(_hb:b.length=5):(Ag a b).length=5:=by
 unfold Ag
 (simp [Pj, *];done)
attribute [irreducible] Ag
def VS(b X1:AA 64)(j3:Nat):AA 64:=put X1 j3 ((nth X1 j3)+((nth [9007199254740916#64,9007199254740988#64,9007199254740988#64,9007199254740988#64,9007199254740988#64] j3)-(nth b j3)))
def G6(a b:AA 64):Nat→AA 64
 |0=>a
 |j3+1=>VS b (G6 a b j3) j3
theorem Qg(a b:AA 64)(ha:a.length=5)(j3:Nat):(G6 a b j3).length=5:=by
 induction j3 with
 |zero=>(simp [G6, *];done)
 |succ j3 ih=>rw [G6.eq_2,VS];(simp [ih];done)
def A4(a b:AA 64):AA 64:=Ba (G6 a b 5)
theorem JL(k:r)(h:Hid r→g:=by intro h;refine Bs rfl rfl rfl rfl HF B7 B7 AT ?_;exact h.out):g:=h ⟨k⟩
theorem Ht(a b:AA 64)(ha:a.length=5)(hb:b.length=5):Ev prog (.call 157 [Aw (a),Aw (b)] []) (.val (Aw (A4 a b)) []):=by
 have hP:=Hid.mk (A4.eq_1 a b)
 refine AI func157 rfl ntmps157 rfl AM ?_;refine BO ?_;refine EH ?_;refine AZ ?_;refine AB (JX (l:=[9007199254740916#64,9007199254740988#64,9007199254740988#64,9007199254740988#64,9007199254740988#64]) wn underlying160 Am rfl rfl D_) rfl ?_;refine EH ?_;refine JL ?_;refine FA ?_;refine AK [2,3,4,5,8] (fun (zz:Nat×AA 64)=>⟨26,AU [2,3,4,5,8] [AY 0,AY 1,AY 2,AY 3,At (((zz.1:Nat):Int))],[Bb (zz.2),Bb (b),Bb (AC 5),Bb ([9007199254740916#64,9007199254740988#64,9007199254740988#64,9007199254740988#64,9007199254740988#64])]⟩) (fun j3=>(j3,G6 a b j3)) (5) K_ ?_ ?_
 ·intro j3 hj3
  try dsimp only
  have hX1:(G6 a b j3).length=5:=by rw [Qg a b ha _];try omega
  rw [G6.eq_2,VS]
  generalize G6 a b j3=X1 at*
  refine Gy ?_;refine Eg ?_;refine Hk ?_;refine AW ?_;refine VF ?_;refine Fm ?_;refine VF ?_;refine Fm ?_;refine VF ?_;refine DT ?_;refine AH (jH rfl rfl) rfl ?_;refine Mq ?_;refine VF ?_;refine Kn ?_;refine Cj ?_;exact ⟨(j3+1,_),K_,rfl⟩
 ·try dsimp only
  have hY2:(G6 a b 5).length=5:=by rw [Qg a b ha _];try omega
  generalize G6 a b 5=Y2 at*
  refine Ab ?_;refine Uu ?_;refine AR ?_;have hQ3:(Ba Y2).length=5:=AP
  refine Lg ?_;refine Ae (Pd Y2 AD) XT ?_;refine OY ?_;rw [hP.out]
  exact Pv
@[simp] theorem AHn(a b:AA 64)(ha:a.length=5)(_hb:b.length=5):(A4 a b).length=5:=by
 unfold A4
 (simp [Qg, *];done)
attribute [irreducible] A4
def P5(a:AA 64)(e:AA 8)(X2:AA 64)(j3:Nat):AA 64:=(if ((((nth e ((255-j3)/8))>>>((255-j3)%8))&&&1#8)==1#8)=true then AL (AL X2 X2) a else AL X2 X2)
def EJ(a:AA 64)(e:AA 8):Nat→AA 64
 |0=>AQ 1#64
 |j3+1=>P5 a e (EJ a e j3) j3
theorem Px(a:AA 64)(e:AA 8)(ha:a.length=5)(_he:e.length=32)(j3:Nat):(EJ a e j3).length=5:=by
 induction j3 with
 |zero=>(simp [EJ, *];done)
 |succ j3 ih=>rw [EJ.eq_2,P5];(split<;>first | (simp [ih];done) | (simp [ih];omega) | (simp [*];done))
def BY(a:AA 64)(e:AA 8):AA 64:=(EJ a e 256)
theorem Xt(k:r)(h:Hid r→g:=by intro h;refine AB (iw (b:=1#8) rfl rfl) rfl ?_;exact h.out):g:=h ⟨k⟩
theorem bq(a:AA 64)(e:AA 8)(ha:a.length=5)(he:e.length=32):Ev prog (.call 188 [Aw (a),BM (e)] []) (.val (Aw (BY a e)) []):=by
 have hP:=Hid.mk (BY.eq_1 a e)
 refine AI func188 rfl ntmps188 rfl AM ?_;refine BO ?_;refine EH ?_;refine AR ?_;have hQ1:(AQ 1#64).length=5:=AP
 refine Ab ?_;refine Ae (EX 1#64) JW ?_;refine EH ?_;refine JL ?_;refine B0 ?_;refine AK [2,3,4,5,6] (fun (zz:Nat×AA 64)=>⟨28,AU [2,3,4,5,6] [AY 0,AY 1,AY 2,AY 3,At (((255:Nat):Int)-((zz.1:Nat):Int))],[Bb (a),BP (e),Bb (AC 5),Bb (zz.2)]⟩) (fun j3=>(j3,EJ a e j3)) (256) K_ ?_ ?_
 ·intro j3 hj3
  try dsimp only
  have hX2:(EJ a e j3).length=5:=by rw [Px a e ha he _];try omega
  rw [EJ.eq_2,P5]
  generalize EJ a e j3=X2 at*
  rw [show ((255:Nat):Int)-((j3:Nat):Int)=((255-j3:Nat):Int) from by omega]
  refine PH ?_;refine AR ?_;have hQ3:(AL X2 X2).length=5:=AP
  refine Lg ?_;refine IOq ?_;refine Ae (CB X2 X2 AD AD) By ?_;refine JL ?_;refine Ak ?_;refine Oo ?_;refine O2 ?_;refine GA ?_;refine AX ?_;refine Qi ?_;refine AB (Vu rfl rfl) rfl ?_;refine AB (OH (b:=1#8) rfl rfl) rfl ?_;refine Xt ?_;refine EA ?_;refine Eb [2,3,4,5,6] (fun (zz:AA 64)=>⟨28,AU [2,3,4,5,6] [AY 0,AY 1,AY 2,AY 3,At (((255-j3:Nat):Int))],[Bb (a),BP (e),Bb (AC 5),Bb (zz)]⟩) (if ((((nth e ((255-j3)/8))>>>((255-j3)%8))&&&1#8)==1#8)=true then AL (AL X2 X2) a else AL X2 X2) rfl (fun hb=>?_) (fun hb=>?_) ?_
  ·have hQ5:(AL (AL X2 X2) a).length=5:=AP
   refine Lg ?_;refine IOq ?_;refine Ae (CB (AL X2 X2) a AD AD) By ?_;refine OY ?_;refine ⟨(AL (AL X2 X2) a),K_,?_⟩
   rw [if_pos (hb)]
  ·refine S_ ?_
   refine ⟨(AL X2 X2),K_,?_⟩
   rw [if_neg (by (rw [hb];decide))]
  have hJ4:(if ((((nth e ((255-j3)/8))>>>((255-j3)%8))&&&1#8)==1#8)=true then AL (AL X2 X2) a else AL X2 X2).length=5:=by split<;>simp [*]
  generalize (if ((((nth e ((255-j3)/8))>>>((255-j3)%8))&&&1#8)==1#8)=true then AL (AL X2 X2) a else AL X2 X2)=J4 at*
  refine A1 ?_;refine PE ?_;refine ⟨(j3+1,_),(by
   dsimp only
   rw [show ((255:Nat):Int)-((j3+1:Nat):Int)=((255-j3:Nat):Int)-1 from by omega]
   kernel_rfl),rfl⟩
 ·try dsimp only
  have hY6:(EJ a e 256).length=5:=by rw [Px a e ha he _];try omega
  generalize EJ a e 256=Y6 at*
  refine RU ?_;refine AZ ?_;refine IOq ?_;refine OY ?_;rw [hP.out]
  exact Pv
@[simp] theorem AHp(a:AA 64)(e:AA 8)(ha:a.length=5)(he:e.length=32):(BY a e).length=5:=by
 unfold BY
 (simp [Px, *];done)
attribute [irreducible] BY
def TH(X1:AA 8)(j3:Nat):AA 8:=put X1 (j3/8) ((nth X1 (j3/8)) ||| (1#8<<<(j3%8)))
def FV:Nat→AA 8
 |0=>Ac 32
 |j3+1=>TH (FV j3) j3
@[simp] theorem Ol  (j3:Nat):(FV j3).length=32:=by
 induction j3 with
 |zero=>(simp [FV, *];done)
 |succ j3 ih=>rw [FV.eq_2,TH];(simp [ih];done)
def NK(k:BitVec 8):AA 8:=put (FV 255) 0 ((nth (FV 255) 0)-(k-1#8))
theorem R8(k:r)(h:Hid r→g:=by intro h;refine AH (VD (b:=8) rfl rfl O_ O_) rfl ?_;exact h.out):g:=h ⟨k⟩
theorem OS(k:r)(h:Hid r→g:=by intro h;refine AH (AN rfl rfl underlying37 Bt O_) rfl ?_;exact h.out):g:=h ⟨k⟩
theorem Sy(k:r)(h:Hid r→g:=by intro h;refine AH (OU (b:=8) rfl rfl O_ O_) rfl ?_;exact h.out):g:=h ⟨k⟩
theorem O0(k:r)(h:Hid r→g:=by intro h;refine AB (AN (j:=0) rfl rfl underlying37 Bt O_) rfl ?_;exact h.out):g:=h ⟨k⟩
theorem tv(k:BitVec 8):Ev prog (.call 189 [At ((255:Nat):Int),.c (.val (U8 k))] []) (.val (BM (NK k)) []):=by
 have hP:=Hid.mk (NK.eq_1 k)
 refine AI func189 rfl ntmps189 rfl AM ?_;refine Ab ?_;refine It ?_;refine Dr ?_;refine GW ?_;refine Ar ?_;refine AK [1,4,5,7,8] (fun (zz:Nat×AA 8)=>⟨28,AU [1,4,5,7,8] [.c (.val (U8 (k))),AY 0,AY 1,At (((255:Nat):Int)),At (((zz.1:Nat):Int))],[BP (Ac 32),BP (zz.2)]⟩) (fun j3=>(j3,FV j3)) (255) K_ ?_ ?_
 ·intro j3 hj3
  try dsimp only
  have hX1:(FV j3).length=32:=by rw [Ol _];try omega
  rw [FV.eq_2,TH]
  generalize FV j3=X1 at*
  refine Ab ?_;refine AB (A8 (b:=255) rfl rfl) rfl ?_;refine Eg ?_;refine Q9 ?_;refine AW ?_;refine R8 ?_;refine OS ?_;refine EK ?_;refine AW ?_;refine Sy ?_;refine AH (jO (a:=1#8) rfl rfl) rfl ?_;refine AH (cG rfl rfl) rfl ?_;refine OS ?_;refine BJ ?_;refine Ct ?_;refine Cj ?_;exact ⟨(j3+1,_),K_,rfl⟩
 ·try dsimp only
  have hY2:(FV 255).length=32:=by rw [Ol _];try omega
  generalize FV 255=Y2 at*
  refine Ab ?_;refine AB (A8 (a:=255) (b:=255) rfl rfl) rfl ?_;refine AZ ?_;refine O0 ?_;refine GA ?_;refine AX ?_;refine AB (Xy (b:=1#8) rfl rfl) rfl ?_;refine AB (Xy rfl rfl) rfl ?_;refine O0 ?_;refine Ct ?_;refine Fu ?_;refine GH ?_;rw [hP.out]
  exact Ec
@[simp] theorem AHK(k:BitVec 8):(NK k).length=32:=by
 unfold NK
 (simp [Ol, *];done)
attribute [irreducible] NK
def R4(X1:AA 8)(j3:Nat):AA 8:=put X1 (j3/8) ((nth X1 (j3/8)) ||| (1#8<<<(j3%8)))
def FU:Nat→AA 8
 |0=>Ac 32
 |j3+1=>R4 (FU j3) j3
@[simp] theorem OM  (j3:Nat):(FU j3).length=32:=by
 induction j3 with
 |zero=>(simp [FU, *];done)
 |succ j3 ih=>rw [FU.eq_2,R4];(simp [ih];done)
def BN(k:BitVec 8):AA 8:=put (FU 252) 0 ((nth (FU 252) 0)-(k-1#8))
theorem wL(k:BitVec 8):Ev prog (.call 189 [At ((252:Nat):Int),.c (.val (U8 k))] []) (.val (BM (BN k)) []):=by
 have hP:=Hid.mk (BN.eq_1 k)
 refine AI func189 rfl ntmps189 rfl AM ?_;refine Ab ?_;refine It ?_;refine Dr ?_;refine GW ?_;refine Ar ?_;refine AK [1,4,5,7,8] (fun (zz:Nat×AA 8)=>⟨28,AU [1,4,5,7,8] [.c (.val (U8 (k))),AY 0,AY 1,At (((252:Nat):Int)),At (((zz.1:Nat):Int))],[BP (Ac 32),BP (zz.2)]⟩) (fun j3=>(j3,FU j3)) (252) K_ ?_ ?_
 ·intro j3 hj3
  try dsimp only
  have hX1:(FU j3).length=32:=by rw [OM _];try omega
  rw [FU.eq_2,R4]
  generalize FU j3=X1 at*
  refine Ab ?_;refine AB (A8 (b:=252) rfl rfl) rfl ?_;refine Eg ?_;refine Q9 ?_;refine AW ?_;refine R8 ?_;refine OS ?_;refine EK ?_;refine AW ?_;refine Sy ?_;refine AH (jO (a:=1#8) rfl rfl) rfl ?_;refine AH (cG rfl rfl) rfl ?_;refine OS ?_;refine BJ ?_;refine Ct ?_;refine Cj ?_;exact ⟨(j3+1,_),K_,rfl⟩
 ·try dsimp only
  have hY2:(FU 252).length=32:=by rw [OM _];try omega
  generalize FU 252=Y2 at*
  refine Ab ?_;refine AB (A8 (a:=252) (b:=252) rfl rfl) rfl ?_;refine AZ ?_;refine O0 ?_;refine GA ?_;refine AX ?_;refine AB (Xy (b:=1#8) rfl rfl) rfl ?_;refine AB (Xy rfl rfl) rfl ?_;refine O0 ?_;refine Ct ?_;refine Fu ?_;refine GH ?_;rw [hP.out]
  exact Ec
@[simp] theorem AGD(k:BitVec 8):(BN k).length=32:=by
 unfold BN
 (simp [OM, *];done)
attribute [irreducible] BN
def Sf(X1:AA 8)(j3:Nat):AA 8:=put X1 (j3/8) ((nth X1 (j3/8)) ||| (1#8<<<(j3%8)))
def FW:Nat→AA 8
 |0=>Ac 32
 |j3+1=>Sf (FW j3) j3
@[simp] theorem Og  (j3:Nat):(FW j3).length=32:=by
 induction j3 with
 |zero=>(simp [FW, *];done)
 |succ j3 ih=>rw [FW.eq_2,Sf];(simp [ih];done)
def FT(k:BitVec 8):AA 8:=put (FW 253) 0 ((nth (FW 253) 0)-(k-1#8))
theorem uX(k:BitVec 8):Ev prog (.call 189 [At ((253:Nat):Int),.c (.val (U8 k))] []) (.val (BM (FT k)) []):=by
 have hP:=Hid.mk (FT.eq_1 k)
 refine AI func189 rfl ntmps189 rfl AM ?_;refine Ab ?_;refine It ?_;refine Dr ?_;refine GW ?_;refine Ar ?_;refine AK [1,4,5,7,8] (fun (zz:Nat×AA 8)=>⟨28,AU [1,4,5,7,8] [.c (.val (U8 (k))),AY 0,AY 1,At (((253:Nat):Int)),At (((zz.1:Nat):Int))],[BP (Ac 32),BP (zz.2)]⟩) (fun j3=>(j3,FW j3)) (253) K_ ?_ ?_
 ·intro j3 hj3
  try dsimp only
  have hX1:(FW j3).length=32:=by rw [Og _];try omega
  rw [FW.eq_2,Sf]
  generalize FW j3=X1 at*
  refine Ab ?_;refine AB (A8 (b:=253) rfl rfl) rfl ?_;refine Eg ?_;refine Q9 ?_;refine AW ?_;refine R8 ?_;refine OS ?_;refine EK ?_;refine AW ?_;refine Sy ?_;refine AH (jO (a:=1#8) rfl rfl) rfl ?_;refine AH (cG rfl rfl) rfl ?_;refine OS ?_;refine BJ ?_;refine Ct ?_;refine Cj ?_;exact ⟨(j3+1,_),K_,rfl⟩
 ·try dsimp only
  have hY2:(FW 253).length=32:=by rw [Og _];try omega
  generalize FW 253=Y2 at*
  refine Ab ?_;refine AB (A8 (a:=253) (b:=253) rfl rfl) rfl ?_;refine AZ ?_;refine O0 ?_;refine GA ?_;refine AX ?_;refine AB (Xy (b:=1#8) rfl rfl) rfl ?_;refine AB (Xy rfl rfl) rfl ?_;refine O0 ?_;refine Ct ?_;refine Fu ?_;refine GH ?_;rw [hP.out]
  exact Ec
@[simp] theorem AGI(k:BitVec 8):(FT k).length=32:=by
 unfold FT
 (simp [Og, *];done)
attribute [irreducible] FT
def RA(X4:BitVec 64)(X5:AA 64)(j6:Nat):BitVec 64×AA 64:=((nth (put X5 j6 ((nth X5 j6)+X4)) j6)>>>51,put (put X5 j6 ((nth X5 j6)+X4)) j6 ((nth (put X5 j6 ((nth X5 j6)+X4)) j6)&&&2251799813685247#64))
def DA(a:AA 64):Nat→BitVec 64×AA 64
 |0=>(0#64,put (Ba (Ba (Ba a))) 0 ((nth (Ba (Ba (Ba a))) 0)+19#64))
 |j6+1=>RA (DA a j6).1 (DA a j6).2 j6
theorem Lo(a:AA 64)(ha:a.length=5)(j6:Nat):(DA a j6).2.length=5:=by
 induction j6 with
 |zero=>(simp (maxDischargeDepth:=9) [DA, *];done)
 |succ j6 ih=>rw [DA.eq_2,RA];(simp (maxDischargeDepth:=9) [ih];done)
def Ow(J10:AA 64)(X11:AA 8)(j17:Nat):AA 8:=put X11 j17 (((nth [(nth J10 0) ||| ((nth J10 1)<<<51),((nth J10 1)>>>13) ||| ((nth J10 2)<<<38),((nth J10 2)>>>26) ||| ((nth J10 3)<<<25),((nth J10 3)>>>39) ||| ((nth J10 4)<<<12)] (j17/8))>>>(8*(j17%8))).setWidth 8)
def DM(J10:AA 64):Nat→AA 8
 |0=>Ac 32
 |j17+1=>Ow J10 (DM J10 j17) j17
@[simp] theorem L3(J10:AA 64)(j17:Nat):(DM J10 j17).length=32:=by
 induction j17 with
 |zero=>(simp (maxDischargeDepth:=9) [DM, *];done)
 |succ j17 ih=>rw [DM.eq_2,Ow];(simp (maxDischargeDepth:=9) [ih];done)
def Aa(a:AA 64):AA 8:=(DM (if (0#64).toNat<((DA a 5).1).toNat then ((DA a 5).2) else Ba (Ba (Ba a))) 32)
theorem Fq(a:AA 64)(ha:a.length=5):Ev prog (.call 160 [Aw (a)] []) (.val (BM (Aa a)) []):=by
 have hP:=Hid.mk (Aa.eq_1 a)
 refine AI func160 rfl ntmps160 rfl AM ?_;refine BA ?_;refine Lh ?_;have hQ1:(Ba a).length=5:=AP
 have hQ2:(Ba (Ba a)).length=5:=AP
 have hQ3:(Ba (Ba (Ba a))).length=5:=AP
 refine Lg ?_;refine Ae (Pd a AD) XT ?_;refine Ae (Pd (Ba a) AD) XT ?_;refine Ae (Pd (Ba (Ba a)) AD) XT ?_;refine JL ?_;refine AZ ?_;refine IOq ?_;refine EH ?_;refine JL ?_;refine AZ ?_;refine Qu ?_;refine A3 ?_;refine AB (Tv (b:=19#64) rfl rfl) rfl ?_;refine Qu ?_;refine D4 ?_;refine AZ ?_;refine BF ?_;refine Ar ?_;refine AK [1,2,3,4,18] (fun (zz:Nat×BitVec 64×AA 64)=>⟨84,AU [1,2,3,4,18] [AY 0,AY 1,AY 2,.c (.val (Bp (zz.2.1))),At (((zz.1:Nat):Int))],[Bb (Ba (Ba (Ba a))),BP (Ac 32),Bb (zz.2.2)]⟩) (fun j6=>(j6,DA a j6)) (5) K_ ?_ ?_
 ·intro j6 hj6
  try dsimp only
  have hX5:(DA a j6).2.length=5:=by rw [Lo a ha _];try omega
  rw [DA.eq_2,RA]
  generalize DA a j6=Z6 at*
  obtain ⟨X4,X5⟩:=Z6
  try dsimp only at*
  refine Gy ?_;refine Ak ?_;refine BF ?_;refine KY ?_;refine Ed ?_;refine EW ?_;refine KY ?_;refine D4 ?_;refine Ak ?_;refine KY ?_;refine A3 ?_;refine bS ?_;refine BF ?_;refine KY ?_;refine A3 ?_;refine Qd ?_;refine KY ?_;refine D4 ?_;refine Cj ?_;exact ⟨(j6+1,_),K_,rfl⟩
 ·try dsimp only
  have hY8:(DA a 5).2.length=5:=by rw [Lo a ha _];try omega
  generalize DA a 5=Z9 at*
  obtain ⟨Y7,Y8⟩:=Z9
  try dsimp only at*
  refine Ab ?_;refine Uu ?_;refine Ak ?_;refine AB (rQ (b:=0#64) rfl rfl) rfl ?_;refine EA ?_;refine Eb [1,2] (fun (zz:AA 64)=>⟨84,AU [1,2] [AY 0,AY 1],[Bb (zz),BP (Ac 32)]⟩) (if (0#64).toNat<Y7.toNat then Y8 else Ba (Ba (Ba a))) rfl (fun hb=>?_) (fun hb=>?_) ?_
  ·have hb_:=of_decide_eq_true hb
   refine Lg ?_;refine OY ?_;refine ⟨Y8,K_,?_⟩
   rw [if_pos (of_decide_eq_true hb)]
  ·have hb_:=of_decide_eq_false hb
   refine S_ ?_;refine ⟨(Ba (Ba (Ba a))),K_,?_⟩
   rw [if_neg (of_decide_eq_false hb)]
  have hJ10:(if (0#64).toNat<Y7.toNat then Y8 else Ba (Ba (Ba a))).length=5:=by split<;>simp [*]
  generalize (if (0#64).toNat<Y7.toNat then Y8 else Ba (Ba (Ba a)))=J10 at*
  refine Ab ?_;refine Qu ?_;refine A3 ?_;refine fm ?_;refine A3 ?_;refine AB (CM (j:=51) rfl rfl) rfl ?_;refine Ld ?_;refine fm ?_;refine A3 ?_;refine AB (CW (j:=13) rfl rfl) rfl ?_;refine AB (AN (j:=2) rfl rfl underlying160 Am O_) rfl ?_;refine A3 ?_;refine AB (CM (j:=38) rfl rfl) rfl ?_;refine Ld ?_;refine AB (AN (j:=2) rfl rfl underlying160 Am O_) rfl ?_;refine A3 ?_;refine AB (CW (j:=26) rfl rfl) rfl ?_;refine AB (AN (j:=3) rfl rfl underlying160 Am O_) rfl ?_;refine A3 ?_;refine AB (CM (j:=25) rfl rfl) rfl ?_;refine Ld ?_;refine AB (AN (j:=3) rfl rfl underlying160 Am O_) rfl ?_;refine A3 ?_;refine AB (CW (j:=39) rfl rfl) rfl ?_;refine AB (AN (j:=4) rfl rfl underlying160 Am O_) rfl ?_;refine A3 ?_;refine AB (CM (j:=12) rfl rfl) rfl ?_;refine Ld ?_;refine AB (JX (l:=[_,_,_,_]) AFb underlying127 Am rfl rfl D_) rfl ?_;refine Ap (Ay xG AM) AT rfl ?_;refine Bs rfl rfl rfl rfl AGv B7 B7 AT ?_;refine AZ ?_;refine Dr ?_;refine FA ?_;refine AK [2,6,7,68] (fun (zz:Nat×AA 8)=>⟨84,AU [2,6,7,68] [AY 0,AY 1,AY 2,At (((zz.1:Nat):Int))],[BP (Ac 32),Bb ([(nth J10 0) ||| ((nth J10 1)<<<51),((nth J10 1)>>>13) ||| ((nth J10 2)<<<38),((nth J10 2)>>>26) ||| ((nth J10 3)<<<25),((nth J10 3)>>>39) ||| ((nth J10 4)<<<12)]),BP (zz.2)]⟩) (fun j17=>(j17,DM J10 j17)) (32) K_ ?_ ?_
  ·intro j17 hj17
   try dsimp only
   have hX11:(DM J10 j17).length=32:=by rw [L3 J10 _];try omega
   rw [DM.eq_2,Ow]
   generalize DM J10 j17=X11 at*
   refine Ab ?_;refine Oi ?_;refine Ak ?_;refine Be ?_;refine Oo ?_;refine AB (AN rfl rfl underlying127 Am O_) rfl ?_;refine Ed ?_;refine Qi ?_;refine KN ?_;refine YR ?_;refine RS ?_;refine O2 ?_;refine Ct ?_;refine Cj ?_;exact ⟨(j17+1,_),K_,rfl⟩
  ·try dsimp only
   have hY12:(DM J10 32).length=32:=by rw [L3 J10 _];try omega
   generalize DM J10 32=Y12 at*
   refine Ab ?_;refine Pu ?_;refine Fu ?_;refine GH ?_;rw [hP.out]
   exact Ec
@[simp] theorem AEe(a:AA 64)(_ha:a.length=5):(Aa a).length=32:=by
 unfold Aa
 (simp (maxDischargeDepth:=9) [L3, *];done)
attribute [irreducible] Aa
def Cb(a:AA 64):AA 64:=BY a (NK 21#8)
theorem Dq(k:r)(h:Hid r→g:=by intro h;refine AH (A9 rfl rfl H7 HF B7 D_) rfl ?_;exact h.out):g:=h ⟨k⟩
theorem Is(k:r)(h:Hid r→g:=by intro h;refine BJ ?_;refine Bs rfl rfl rfl rfl HF B7 B7 AT ?_;exact h.out):g:=h ⟨k⟩
theorem PD(a:AA 64)(ha:a.length=5):Ev prog (.call 159 [Aw (a)] []) (.val (Aw (Cb a)) []):=by
 have hP:=Hid.mk (Cb.eq_1 a)
 refine AI func159 rfl ntmps159 rfl AM ?_;refine BA ?_;refine EH ?_;refine AR ?_;have hQ1:(NK 21#8).length=32:=AP
 have hQ2:(BY a (NK 21#8)).length=5:=AP
 refine S_ ?_;refine KI ?_;refine Dq ?_;refine AO (tv 21#8) ol ?_;refine AO (bq a (NK 21#8) AD AD) oH ?_;refine Is ?_;refine Ar ?_;rw [hP.out]
 exact Pv
@[simp] theorem AHf(a:AA 64)(ha:a.length=5):(Cb a).length=5:=by
 unfold Cb
 (simp [*];done)
attribute [irreducible] Cb
theorem oW(k:r)(h:Hid r→g:=by intro h;refine AH (ir rfl rfl underlying37 underlying5 Bt B7 B7) rfl ?_;exact h.out):g:=h ⟨k⟩
theorem YC(a b:AA 64)(ha:a.length=5)(hb:b.length=5):Ev prog (.call 166 [Aw (a),Aw (b)] []) (.val (.c (.val (.bool (decide (Aa a=Aa b))))) []):=by
 refine AI func166 rfl ntmps166 rfl AM ?_;refine BO ?_;refine BZ ?_;have hQ1:(Aa a).length=32:=AP
 have hQ2:(Aa b).length=32:=AP
 refine S_ ?_;refine SU ?_;refine Dq ?_;refine AO (Fq a AD) O9 ?_;refine Dq ?_;refine AO (Fq b AD) O9 ?_;refine oW ?_;refine I7 ?_;exact CF
theorem bF(a:AA 64)(ha:a.length=5):Ev prog (.call 167 [Aw (a)] []) (.val (.c (.val (.bool ((((nth (Aa a) 0)&&&1#8)==1#8))))) []):=by
 refine AI func167 rfl ntmps167 rfl AM ?_;refine BA ?_;refine BZ ?_;have hQ1:(Aa a).length=32:=AP
 refine Lg ?_;refine Ae (Fq a AD) O9 ?_;refine AB (AJp (j:=0) rfl rfl underlying37 Bt UR O_ EO) rfl ?_;refine AB (OH (b:=1#8) rfl rfl) rfl ?_;refine Xt ?_;refine Al ?_;exact CF
def Wr(b:AA 8)(X1:AA 64)(j3:Nat):AA 64:=put X1 (j3/8) ((nth X1 (j3/8)) ||| (((nth b j3).setWidth 64)<<<(8*(j3%8))))
def CC(b:AA 8):Nat→AA 64
 |0=>AC 4
 |j3+1=>Wr b (CC b j3) j3
@[simp] theorem Sc(b:AA 8)(j3:Nat):(CC b j3).length=4:=by
 induction j3 with
 |zero=>(simp [CC, *];done)
 |succ j3 ih=>rw [CC.eq_2,Wr];(simp [ih];done)
def Rg(b:AA 8):AA 64:=put [(nth (CC b 32) 0)&&&2251799813685247#64,(((nth (CC b 32) 0)>>>51) ||| ((nth (CC b 32) 1)<<<13))&&&2251799813685247#64,(((nth (CC b 32) 1)>>>38) ||| ((nth (CC b 32) 2)<<<26))&&&2251799813685247#64,(((nth (CC b 32) 2)>>>25) ||| ((nth (CC b 32) 3)<<<39))&&&2251799813685247#64,((nth (CC b 32) 3)>>>12)&&&2251799813685247#64] 0 ((nth [(nth (CC b 32) 0)&&&2251799813685247#64,(((nth (CC b 32) 0)>>>51) ||| ((nth (CC b 32) 1)<<<13))&&&2251799813685247#64,(((nth (CC b 32) 1)>>>38) ||| ((nth (CC b 32) 2)<<<26))&&&2251799813685247#64,(((nth (CC b 32) 2)>>>25) ||| ((nth (CC b 32) 3)<<<39))&&&2251799813685247#64,((nth (CC b 32) 3)>>>12)&&&2251799813685247#64] 0)+(19#64*((nth (CC b 32) 3)>>>63)))
theorem W3(k:r)(h:Hid r→g:=by intro h;refine AH (F9 rfl underlying5 underlying70 (ADr _)) rfl ?_;exact h.out):g:=h ⟨k⟩
theorem Uy(k:r)(h:Hid r→g:=by intro h;refine AH (gC rfl rfl) rfl ?_;exact h.out):g:=h ⟨k⟩
theorem oz(k:r)(h:Hid r→g:=by intro h;refine AB (AN (j:=3) rfl rfl underlying127 Am O_) rfl ?_;exact h.out):g:=h ⟨k⟩
theorem jo(b:AA 8)(hb:b.length=32):Ev prog (.call 154 [BM (b)] []) (.val (Aw (Rg b)) []):=by
 have hP:=Hid.mk (Rg.eq_1 b)
 refine AI func154 rfl ntmps154 rfl AM ?_;refine BA ?_;refine EH ?_;refine AZ ?_;refine Ap (Ay xG AM) AT rfl ?_;refine FA ?_;refine AK [1,2,3,6] (fun (zz:Nat×AA 64)=>⟨65,AU [1,2,3,6] [AY 0,AY 1,AY 2,At (((zz.1:Nat):Int))],[BP (b),Bb (AC 5),Bb (zz.2)]⟩) (fun j3=>(j3,CC b j3)) (32) K_ ?_ ?_
 ·intro j3 hj3
  try dsimp only
  have hX1:(CC b j3).length=4:=by rw [Sc b _];try omega
  rw [CC.eq_2,Wr]
  generalize CC b j3=X1 at*
  refine Ab ?_;refine Oi ?_;refine Eg ?_;refine B5 14 mixed K_ rfl rfl rfl ?_;refine AW ?_;refine R8 ?_;refine AH (AN rfl rfl underlying127 Am O_) rfl ?_;refine Fm ?_;refine OS ?_;refine EK ?_;refine W3 ?_;refine AW ?_;refine Sy ?_;refine Ud ?_;refine AH (CM rfl rfl) rfl ?_;refine Uy ?_;refine AH (AN rfl rfl underlying127 Am O_) rfl ?_;refine Kn ?_;refine Cj ?_;exact ⟨(j3+1,_),K_,rfl⟩
 ·try dsimp only
  have hY2:(CC b 32).length=4:=by rw [Sc b _];try omega
  generalize CC b 32=Y2 at*
  refine Ab ?_;refine Pu ?_;refine AZ ?_;refine AB (AN (j:=0) rfl rfl underlying127 Am O_) rfl ?_;refine A3 ?_;refine Qd ?_;refine AB (AN (j:=0) rfl rfl underlying127 Am O_) rfl ?_;refine A3 ?_;refine bS ?_;refine AB (AN (j:=1) rfl rfl underlying127 Am O_) rfl ?_;refine A3 ?_;refine AB (CM (j:=13) rfl rfl) rfl ?_;refine Ld ?_;refine Qd ?_;refine AB (AN (j:=1) rfl rfl underlying127 Am O_) rfl ?_;refine A3 ?_;refine AB (CW (j:=38) rfl rfl) rfl ?_;refine AB (AN (j:=2) rfl rfl underlying127 Am O_) rfl ?_;refine A3 ?_;refine AB (CM (j:=26) rfl rfl) rfl ?_;refine Ld ?_;refine Qd ?_;refine AB (AN (j:=2) rfl rfl underlying127 Am O_) rfl ?_;refine A3 ?_;refine AB (CW (j:=25) rfl rfl) rfl ?_;refine oz ?_;refine A3 ?_;refine AB (CM (j:=39) rfl rfl) rfl ?_;refine Ld ?_;refine Qd ?_;refine oz ?_;refine A3 ?_;refine AB (CW (j:=12) rfl rfl) rfl ?_;refine Qd ?_;refine AB (JX (l:=[_,_,_,_,_]) wn underlying160 Am rfl rfl D_) rfl ?_;refine EH ?_;refine JL ?_;refine AZ ?_;refine Qu ?_;refine A3 ?_;refine oz ?_;refine A3 ?_;refine AB (CW (j:=63) rfl rfl) rfl ?_;refine AB (Gx (a:=19#64) rfl rfl) rfl ?_;refine EW ?_;refine Qu ?_;refine D4 ?_;refine AZ ?_;refine IOq ?_;refine OY ?_;rw [hP.out]
  exact Pv
@[simp] theorem AIJ(b:AA 8)(_hb:b.length=32):(Rg b).length=5:=by
 unfold Rg
 (simp [*];done)
attribute [irreducible] Rg
def SY(key:AA 8):AA 8:=put (put key 0 ((nth key 0)&&&248#8)) 31 (((nth (put key 0 ((nth key 0)&&&248#8)) 31)&&&127#8) ||| 64#8)
theorem Iw(k:r)(h:Hid r→g:=by intro h;refine AB (AN (j:=31) rfl rfl underlying37 Bt O_) rfl ?_;refine AB (ZF rfl rfl UR EO) rfl ?_;refine AB (OH (b:=127#8) rfl rfl) rfl ?_;exact h.out):g:=h ⟨k⟩
theorem qO(k:r)(h:Hid r→g:=by intro h;refine AB (AN (j:=31) rfl rfl underlying37 Bt O_) rfl ?_;exact h.out):g:=h ⟨k⟩
theorem zo(key:AA 8)(hkey:key.length=32):Ev prog (.call 153 [BM (key)] []) (.val (BM (SY key)) []):=by
 have hP:=Hid.mk (SY.eq_1 key)
 refine AI func153 rfl ntmps153 rfl AM ?_;refine BA ?_;refine It ?_;refine O0 ?_;refine GA ?_;refine AB (OH (b:=248#8) rfl rfl) rfl ?_;refine O0 ?_;refine Ct ?_;refine AZ ?_;refine Iw ?_;refine AB (cG (b:=64#8) rfl rfl) rfl ?_;refine qO ?_;refine Ct ?_;refine Fu ?_;refine GH ?_;rw [hP.out]
 exact Ec
@[simp] theorem AHx(key:AA 8)(hkey:key.length=32):(SY key).length=32:=by
 unfold SY
 (simp [*];done)
attribute [irreducible] SY
theorem jX:∃f:AA 64→AA 64→AA 64,(∀a b,(f a b).length=5)∧ ∀a b,a.length=5→b.length=5→f a b=AL a b:=⟨fun a b=>if a.length=5∧b.length=5 then AL a b else AC 5,fun a b=>by dsimp only;split<;>simp [*],fun a b ha hb=>if_pos ⟨ha,hb⟩⟩
noncomputable def BC:AA 64→AA 64→AA 64:=Classical.choose jX
@[simp] theorem AJV(a b:AA 64):(BC a b).length=5:=(Classical.choose_spec jX).1 a b
theorem sU(a b:AA 64)(ha:a.length=5)(hb:b.length=5):BC a b=AL a b:=(Classical.choose_spec jX).2 a b ha hb
theorem Jx(a b:AA 64)(ha:a.length=5)(hb:b.length=5):Ev prog (.call 158 [Aw a,Aw b] []) (.val (Aw (BC a b)) []):=by
 rw [sU a b ha hb]
 exact CB a b ha hb
theorem gc:∃f:AA 64→AA 64→AA 64,(∀a b,(f a b).length=5)∧ ∀a b,a.length=5→b.length=5→f a b=A4 a b:=⟨fun a b=>if a.length=5∧b.length=5 then A4 a b else AC 5,fun a b=>by dsimp only;split<;>simp [*],fun a b ha hb=>if_pos ⟨ha,hb⟩⟩
noncomputable def BI:AA 64→AA 64→AA 64:=Classical.choose gc
@[simp] theorem AJB(a b:AA 64):(BI a b).length=5:=(Classical.choose_spec gc).1 a b
theorem tC(a b:AA 64)(ha:a.length=5)(hb:b.length=5):BI a b=A4 a b:=(Classical.choose_spec gc).2 a b ha hb
theorem ZL(a b:AA 64)(ha:a.length=5)(hb:b.length=5):Ev prog (.call 157 [Aw a,Aw b] []) (.val (Aw (BI a b)) []):=by
 rw [tC a b ha hb]
 exact Ht a b ha hb
theorem kA:∃f:AA 64→AA 64→AA 64,(∀a b,(f a b).length=5)∧ ∀a b,a.length=5→b.length=5→f a b=Ag a b:=⟨fun a b=>if a.length=5∧b.length=5 then Ag a b else AC 5,fun a b=>by dsimp only;split<;>simp [*],fun a b ha hb=>if_pos ⟨ha,hb⟩⟩
noncomputable def BG:AA 64→AA 64→AA 64:=Classical.choose kA
@[simp] theorem AJl(a b:AA 64):(BG a b).length=5:=(Classical.choose_spec kA).1 a b
theorem rJ(a b:AA 64)(ha:a.length=5)(hb:b.length=5):BG a b=Ag a b:=(Classical.choose_spec kA).2 a b ha hb
theorem Ze(a b:AA 64)(ha:a.length=5)(hb:b.length=5):Ev prog (.call 156 [Aw a,Aw b] []) (.val (Aw (BG a b)) []):=by
 rw [rJ a b ha hb]
 exact G3 a b ha hb
theorem jv:∃f:BitVec 64→AA 64,(∀a,(f a).length=5)∧ ∀a,f a=AQ a:=⟨AQ,fun a=>by simp,fun a=>rfl⟩
noncomputable def PQ:BitVec 64→AA 64:=Classical.choose jv
@[simp] theorem AJw(a:BitVec 64):(PQ a).length=5:=(Classical.choose_spec jv).1 a
theorem Zc(a:BitVec 64):PQ a=AQ a:=(Classical.choose_spec jv).2 a
theorem gv(a:BitVec 64):Ev prog (.call 155 [.c (.val (Bp a))] []) (.val (Aw (PQ a)) []):=by
 rw [Zc a ]
 exact EX a
theorem gU:∃f:AA 64→AA 64,(∀a,(f a).length=5)∧ ∀a,a.length=5→f a=Cb a:=⟨fun a=>if a.length=5 then Cb a else AC 5,fun a=>by dsimp only;split<;>simp [*],fun a ha=>if_pos ha⟩
noncomputable def dU:AA 64→AA 64:=Classical.choose gU
@[simp] theorem AIx(a:AA 64):(dU a).length=5:=(Classical.choose_spec gU).1 a
theorem rS(a:AA 64)(ha:a.length=5):dU a=Cb a:=(Classical.choose_spec gU).2 a ha
theorem ACF(a:AA 64)(ha:a.length=5):Ev prog (.call 159 [Aw a] []) (.val (Aw (dU a)) []):=by
 rw [rS a ha]
 exact PD a ha
theorem pf:∃f:AA 64→AA 8,(∀a,(f a).length=32)∧ ∀a,a.length=5→f a=Aa a:=⟨fun a=>if a.length=5 then Aa a else Ac 32,fun a=>by dsimp only;split<;>simp [*],fun a ha=>if_pos ha⟩
noncomputable def qBy:AA 64→AA 8:=Classical.choose pf
@[simp] theorem AKh(a:AA 64):(qBy a).length=32:=(Classical.choose_spec pf).1 a
theorem xN(a:AA 64)(ha:a.length=5):qBy a=Aa a:=(Classical.choose_spec pf).2 a ha
theorem AHG(a:AA 64)(ha:a.length=5):Ev prog (.call 160 [Aw a] []) (.val (BM (qBy a)) []):=by
 rw [xN a ha]
 exact Fq a ha
theorem pG:∃f:AA 8→AA 64,(∀a,(f a).length=5)∧ ∀a,a.length=32→f a=Rg a:=⟨fun a=>if a.length=32 then Rg a else AC 5,fun a=>by dsimp only;split<;>simp [*],fun a ha=>if_pos ha⟩
noncomputable def sS:AA 8→AA 64:=Classical.choose pG
@[simp] theorem AKk(a:AA 8):(sS a).length=5:=(Classical.choose_spec pG).1 a
theorem xW(a:AA 8)(ha:a.length=32):sS a=Rg a:=(Classical.choose_spec pG).2 a ha
theorem AFU(a:AA 8)(ha:a.length=32):Ev prog (.call 154 [BM a] []) (.val (Aw (sS a)) []):=by
 rw [xW a ha]
 exact jo a ha
theorem iN:∃f:AA 8→AA 8,(∀a,(f a).length=32)∧ ∀a,a.length=32→f a=SY a:=⟨fun a=>if a.length=32 then SY a else Ac 32,fun a=>by dsimp only;split<;>simp [*],fun a ha=>if_pos ha⟩
noncomputable def DW:AA 8→AA 8:=Classical.choose iN
@[simp] theorem AJI(a:AA 8):(DW a).length=32:=(Classical.choose_spec iN).1 a
theorem tE(a:AA 8)(ha:a.length=32):DW a=SY a:=(Classical.choose_spec iN).2 a ha
theorem ACn(a:AA 8)(ha:a.length=32):Ev prog (.call 153 [BM a] []) (.val (BM (DW a)) []):=by
 rw [tE a ha]
 exact zo a ha
def iY(gs:List (Nat×Nat))(i:Nat):Bool:=gs.any fun p=>p.1==i
theorem Emb.upd_up{ι:Emb}{b:Nat}(h:ι b=none)(l:Loc):ι.le (ι.upd b l):=
 ⟨fun b' x hb=>by
  have:b'≠b:=fun e=>by rw [e,h] at hb;cases hb
  rw [Emb.upd_ne this];exact hb,fun _ _ _ h=>h⟩
theorem alloc_at{k:Nat}{ι:Emb}{M:Az}{w w':World}(hR:R ι M w){b:Nat}{cs:Array Value}{t:TypeId}{x:Arr}(hb0:ι b=none)(hm0:M[b]?=some (.row true x))(hk:k≤b)(hh:w'.heap=w.heap.push (.cells cs t (0,0)))(ho:w'.os=w.os)(ht:w'.tape=w.tape)(hu:w'.output=w.output)
  (hs:x.size≤cs.size) (hx:x.relAt ι cs 0) (hmp:x.isMap=false):Step k ι M w (ι.upd b ⟨w.heap.size,0,cs.size⟩) M w':=by
 have hle:=Emb.upd_up hb0 ⟨w.heap.size,0,cs.size⟩
 have hbl:b<M.length:=(List.getElem?_eq_some_iff.1 hm0).1
 have old:∀c,c<w.heap.size→w'.heap[c]?=w.heap[c]?:=fun c hc=>by rw [hh,Array.getElem?_push,if_neg O_]
 refine Step.make hR (fun b1 hb=>?_) (fun b1 l own y hb hm=>?_) (fun b1 b' l l' own own' y y' hne hb hb' hm hm' ho=>?_) ⟨ho,ht,hu,by rw [hh];simp,fun c hc _=>old c hc,fun c hc=>?_⟩ rfl (fun b1 hb=>Emb.upd_ne O_) O_ (fun _ _ _ h=>h) (fun _ _ x _ h=>⟨x,h⟩) (fun b1 l own y hb h1 h2=>?_)
 ·rw [Emb.upd_ne O_];exact hR.dom b1 hb
 ·by_cases e:b1=b
  ·subst e
   rw [Emb.upd_eq] at hb
   cases hb
   rw [hm0] at hm
   cases hm
   exact .of hmp ⟨cs,t,(0,0),by rw [hh,Array.getElem?_push,if_pos rfl],hs,hx.mono' hle,fun _=>⟨rfl,by simp⟩⟩
  ·rw [Emb.upd_ne e] at hb
   exact (hR.rows b1 l own y hb hm).heap (old _ (hR.lt hb hm)) hle
 ·by_cases e:b1=b
  ·subst e
   rw [Emb.upd_eq] at hb
   rw [Emb.upd_ne (fun e=>hne e.symm)] at hb'
   cases hb
   have:=hR.lt hb' hm'
   show w.heap.size≠l'.c
   omega
  ·rw [Emb.upd_ne e] at hb
   by_cases e':b'=b
   ·subst e'
    rw [Emb.upd_eq] at hb'
    cases hb'
    have:=hR.lt hb hm
    show l.c≠w.heap.size
    omega
   ·rw [Emb.upd_ne e'] at hb'
    exact hR.inj b1 b' l l' own own' y y' hne hb hb' hm hm' ho
 ·obtain ⟨b1,l,y,hb,hm,rfl⟩:=hc
  by_cases e:b1=b
  ·subst e
   rw [Emb.upd_eq] at hb
   cases hb
   exact .inl (Nat.le_refl _)
  ·rw [Emb.upd_ne e] at hb
   exact .inr ⟨b1,l,y,hb,hm,rfl⟩
 ·by_cases e:b1=b
  ·subst e
   rw [Emb.upd_eq] at h1
   cases h1
   exact .inl (Nat.le_refl _)
  ·rw [Emb.upd_ne e] at h1
   exact .inr (.inr ⟨b1,l,own,y,hb,h1,h2,rfl⟩)
def GOk(P:Program)(k:Nat)(o:Oper)(b:Nat)(e:Operand→AV)(m:Az)(v:AV):Prop:= ∀(ι:Emb) (w:World) (ρ:Operand→Value),R ι m w→ι b=none→(∀x∈o.op.operands,(e x).rel ι (ρ x))→ ∃u w' ι',(execOp ρ o).run P w= .ok (.value u) w'∧v.rel ι' u∧Step k ι m w ι' m w'∧ι.le ι'∧ ∀b',b'≠b→ι' b'=ι b'
theorem ACk{P:Program}{k:Nat}{e:Operand→AV}{m:Az}{b:Nat}{x:Arr}{t ty:TypeId}{dst:Option Tmp}{pos:String}{af:Array Edge}(hz:∀m,C1 P m t=some (.c (.ptr m.length 0),m++[.row true x]))(hm:m[b]?=some (.row true x))(hk:k≤b):GOk P k ⟨dst,.alloc t,ty,pos,af,none⟩ b e m (.c (.ptr b 0)):=by
 intro ι w ρ hR hb _
 have h:=hz []
 unfold C1 at h
 split at h
 ·rename_i i hi
  split at h
  ·rename_i z hz'
   simp only [Option.some.injEq,Prod.mk.injEq,List.nil_append,List.cons.injEq,Row.row.injEq,and_true,true_and] at h
   subst h
   have hst:=alloc_at (k:=k) (w':=w.alloc (.cells z.cells t)) (t:=t) hR hb hm hk rfl rfl rfl rfl (by rw [(FC ι z.cells.toList).1];simp) (Mn ι z.cells) (Ja _)
   refine ⟨.pointer (some ⟨w.heap.size,0,none⟩),_,_,?_,⟨_,Emb.upd_eq _ _ _,rfl⟩,hst,Emb.upd_up hb _,fun b' hb'=>Emb.upd_ne hb'⟩
   simp [execOp,Instr.alloc,zeroValue,typeInfo,hi,hz',newVar,newRow]
  ·cases h
 ·cases h
structure JM(P:Program)(ops:Array Oper)(cs:List Nat)(gs:List (Nat×Nat))(k:Nat)(A:Nat→St)(V:Nat→AV)(N0:Nat):Prop where
 h0:(A 0).n=N0
 gone:∀p∈gs,p.1<ops.size∧p.2<(A 0).m.length
 uniq:∀p∈gs,∀q∈gs,p.2=q.2→p.1=q.1
 gbef:∀(l i:Nat),l<ops.size→cs.contains l=true→iY gs i=true→XY ops l i=true
 pure:∀(i:Nat) (o:Oper),ops[i]?=some o→cs.contains i=false→iY gs i=false→(∀c,c≤ops.size→(∀j,j<c→cs.contains j=true→XY ops j i=false)→Su P o (AF (A i).t) (A c).m (V i))∧A (i+1)=⟨N0,DX (A i).t o.dst (V i),(A i).m⟩
 made:∀(i:Nat) (o:Oper),ops[i]?=some o→iY gs i=true→cs.contains i=false∧(∃b,(i,b)∈gs∧GOk P k o b (AF (A i).t) (A 0).m (V i))∧A (i+1)=⟨N0,DX (A i).t o.dst (V i),(A i).m⟩
 chain:∀(i:Nat) (o:Oper),ops[i]?=some o→cs.contains i=true→ ∃m',R5 P (.op o.op (AF (A i).t) (A i).m) (.val (V i) m')∧A (i+1)=⟨N0,DX (A i).t o.dst (V i),m'⟩
theorem AB1{gs:List (Nat×Nat)}{i:Nat}(h:iY gs i=true):∃b,(i,b)∈gs:=by
 unfold iY at h
 obtain ⟨⟨a,b⟩,h1,h2⟩:=List.any_eq_true.1 h
 exact ⟨b,by simp at h2;subst h2;exact h1⟩
theorem AGL{gs:List (Nat×Nat)}{p:Nat×Nat}(h:p∈gs):iY gs p.1=true:=List.any_eq_true.2 ⟨p,h,by simp⟩
section
variable {P:Program} {ops:Array Oper} {cs:List Nat} {gs:List (Nat×Nat)} {M0:Az} {A:Nat→St} {V:Nat→AV} {N0 k:Nat}
theorem JM.next(h:JM P ops cs gs k A V N0){i:Nat}{o:Oper}(ho:ops[i]?=some o):∃m',A (i+1)=⟨N0,DX (A i).t o.dst (V i),m'⟩:=by
 cases hs:cs.contains i with
 |true=>obtain ⟨m',_,e⟩:=h.chain i o ho hs;exact ⟨m',e⟩
 |false=>cases hg:iY gs i with
  |true=>exact ⟨_,(h.made i o ho hg).2.2⟩
  |false=>exact ⟨_,(h.pure i o ho hs hg).2⟩
theorem JM.tmp1(h:JM P ops cs gs k A V N0){i:Nat}(hi:i<ops.size){t:Nat}(ht:Bm ops i≠some t):(A (i+1)).t t=(A i).t t:=by
 have ho:ops[i]?=some (ops[i]'hi):=Array.getElem?_eq_getElem hi
 have hd:Bm ops i=(ops[i]'hi).dst:=by simp [Bm,ho]
 rw [hd] at ht
 obtain ⟨m',e⟩:=h.next ho
 rw [e]
 show DX (A i).t (ops[i]'hi).dst (V i) t=_
 cases hdd:(ops[i]'hi).dst with
 |none=>rfl
 |some d=>rw [hdd] at ht;exact upd_ne _ _ (fun e=>ht (by rw [e]))
theorem JM.slot(h:JM P ops cs gs k A V N0){i t:Nat}:∀d,i+d≤ops.size→(∀j,i≤j→j<i+d→Bm ops j≠some t)→(A (i+d)).t t=(A i).t t
 |0,_,_=>rfl
 |d+1,hd,hno=>by
  rw [show i+(d+1)=i+d+1 by omega,h.tmp1 O_ (hno _ O_ O_),JM.slot h d O_ fun j h1 h2=>hno j h1 O_]
theorem JM.slot'(h:JM P ops cs gs k A V N0){i j t:Nat}(hij:i≤j)(hj:j≤ops.size)(hno:∀l,i≤l→l<j→Bm ops l≠some t):(A j).t t=(A i).t t:=by
 have:=h.slot (i:=i) (t:=t) (j-i) O_ (fun l h1 h2=>hno l h1 O_)
 rwa [show i+(j-i)=j by omega] at this
theorem JM.mem(h:JM P ops cs gs k A V N0){i:Nat}:∀d,i+d≤ops.size→(∀j,i≤j→j<i+d→cs.contains j=false)→(A (i+d)).m=(A i).m
 |0,_,_=>rfl
 |d+1,hd,hno=>by
  have hlt:i+d<ops.size:=by omega
  have ho:ops[i+d]?=some (ops[i+d]'hlt):=Array.getElem?_eq_getElem hlt
  have e:A (i+d+1)=⟨N0,DX (A (i+d)).t (ops[i+d]'hlt).dst (V (i+d)),(A (i+d)).m⟩:=by
   cases hg:iY gs (i+d) with
   |true=>exact (h.made (i+d) _ ho hg).2.2
   |false=>exact (h.pure (i+d) _ ho (hno _ O_ O_) hg).2
  rw [show i+(d+1)=i+d+1 by omega,e]
  exact JM.mem h d O_ fun j h1 h2=>hno j h1 O_
theorem JM.mem'(h:JM P ops cs gs k A V N0){i j:Nat}(hij:i≤j)(hj:j≤ops.size)(hno:∀l,i≤l→l<j→cs.contains l=false):(A j).m=(A i).m:=by
 have:=h.mem (i:=i) (j-i) O_ (fun l h1 h2=>hno l h1 O_)
 rwa [show i+(j-i)=j by omega] at this
structure Yz(ops:Array Oper)(cs:List Nat)(gs:List (Nat×Nat))(M0:Az)(A:Nat→St)(k:Nat)(ι0:Emb)(w0:World)(a0:Act)(listed:Array Bool)(ι:Emb)(a:Act)(w:World):Prop where
 cut:∃j,j≤ops.size∧(∀i,i<ops.size→cs.contains i=true→(listed.getD i false=true↔i<j))∧(A 0).m.length≤(A j).m.length∧Step k ι0 M0 w0 ι (A j).m w
 unp:∀p∈gs,listed.getD p.1 false=false→ι p.2=none
 le:ι0.le ι
 hit:∀j,j<ops.size→listed.getD j false=true→ ∀d,Bm ops j=some d→((A (j+1)).t d).rel ι (a.tmps.getD d undef)
 miss:∀t,(∀j,j<ops.size→listed.getD j false=true→Bm ops j≠some t)→a.tmps.getD t undef=a0.tmps.getD t undef
 size:a.tmps.size=a0.tmps.size
 defers:a.defers=a0.defers
 head:HeadInv .any ops ops.size listed
theorem Yz.agree(hl:JM P ops cs gs k A V N0){ι0:Emb}{w0:World}{a0:Act}(hok:wm ops ops.size a0.tmps.size)(hf:EZ ι0 (A 0) a0){listed:Array Bool}{ι:Emb}{a:Act}{w:World}(h:Yz ops cs gs M0 A k ι0 w0 a0 listed ι a w)
  {i:Nat} (hin:i<ops.size) {o:Oper} (ho:ops[i]?=some o) (hb:∀j,XY ops i j=true→listed.getD j false=true) (hun:listed.getD i false=false):
  ∀t∈o.looksAt ops,((A i).t t).rel ι (a.tmps.getD t undef):=by
 intro t ht
 by_cases hex:∃j,j<ops.size∧Bm ops j=some t
 ·obtain ⟨j,hj,hd⟩:=hex
  rcases hok.look i o t j hin ho ht hj hd with ⟨hji,hbij⟩ | ⟨hij,hbji⟩
  ·have hlj:=hb j hbij
   rw [hl.slot' (i:=j+1) O_ (Nat.le_of_lt hin) (fun l h1 h2 hd'=>by have:=hok.uniq l j t O_ hj hd' hd;omega)]
   exact h.hit j hj hlj t hd
  ·have hnl:listed.getD j false≠true:=fun hlt=>by
    have:=E5 h.head.closed hbji (Array.getElem?_eq_getElem hj) (h.head.closed j _ (Array.getElem?_eq_getElem hj) hlt)
    rw [hun] at this;cases this
   rw [h.miss t (fun j' hj' hl' hd'=>hnl (by rw [←hok.uniq j' j t hj' hj hd' hd];exact hl')),hl.slot' (i:=0) (Nat.zero_le i) (Nat.le_of_lt hin) (fun l _ h2 hd'=>by have:=hok.uniq l j t O_ hj hd' hd;omega)]
   exact AV.rel_mono h.le (hf.rel t)
 ·have hno:∀j,j<ops.size→Bm ops j≠some t:=fun j hj hd=>hex ⟨j,hj,hd⟩
  rw [h.miss t (fun j hj _=>hno j hj),hl.slot' (i:=0) (Nat.zero_le i) (Nat.le_of_lt hin) (fun l _ h2=>hno l O_)]
  exact AV.rel_mono h.le (hf.rel t)
theorem Yz.next{ι0:Emb}{w0:World}{a0:Act}(hok:wm ops ops.size a0.tmps.size){listed:Array Bool}{ι ι':Emb}{a:Act}{w:World}(h:Yz ops cs gs M0 A k ι0 w0 a0 listed ι a w)(hle:ι.le ι')
  {i:Nat} (hi:i∈Region.ready .any ops listed) {o:Oper} (ho:ops[i]?=some o) {u:Value} {w':World}
  (hcut:∃j,j≤ops.size∧(∀i',i'<ops.size→cs.contains i'=true→((listed.setIfInBounds i true).getD i' false=true↔i'<j))∧(A 0).m.length≤(A j).m.length∧Step k ι0 M0 w0 ι' (A j).m w')
  (hnone:∀p∈gs,(listed.setIfInBounds i true).getD p.1 false=false→ι' p.2=none)
  (hu:∀d,o.dst=some d→((A (i+1)).t d).rel ι' u):Yz ops cs gs M0 A k ι0 w0 a0 (listed.setIfInBounds i true) ι' (a.put o.dst u) w':=by
 have hin:i<ops.size:=(Array.getElem?_eq_some_iff.1 ho).1
 have his:i<listed.size:=by rw [h.head.size];exact hin
 have hd:Bm ops i=o.dst:=by simp [Bm,ho]
 have hset:∀j,(listed.setIfInBounds i true).getD j false=true→j=i∨listed.getD j false=true:=fun j hj=>by
  by_cases hji:i=j
  ·exact .inl hji.symm
  ·rw [getD_set_ne false hji] at hj;exact .inr hj
 have hseti:(listed.setIfInBounds i true).getD i false=true:=by simp [his]
 refine ⟨hcut,hnone,⟨fun b l hb=>hle.f b l (h.le.f b l hb),fun c o v hc=>hle.tx c o v (h.le.tx c o v hc)⟩,fun j hj hlj d hdj=>?_,fun t ht=>?_,by rw [show (a.put o.dst u).tmps.size=a.tmps.size by cases o.dst<;>simp [Act.put]];exact h.size,by rw [show (a.put o.dst u).defers=a.defers by cases o.dst<;>rfl];exact h.defers,h.head.set hi hin⟩
 ·by_cases hji:j=i
  ·subst hji
   rw [hd] at hdj
   rw [hdj,SB a d d u (by rw [h.size];exact hok.lt j d hj (by rw [hd];exact hdj)),if_pos rfl]
   exact hu d hdj
  ·have hlj':=(hset j hlj).resolve_left hji
   have hne:o.dst≠some d:=fun e=>hji (hok.uniq j i d hj hin hdj (by rw [hd];exact e))
   rw [Ml a u hne]
   exact AV.rel_mono hle (h.hit j hj hlj' d hdj)
 ·have h1:o.dst≠some t:=by rw [←hd];exact ht i hin hseti
  rw [Ml a u h1]
  exact h.miss t fun j hj hlj=>ht j hj (getD_set_true hlj)
theorem Yz.run{Q':Exit→Act→World→Prop}(hl:JM P ops cs gs k A V N0){ι0:Emb}{w0:World}{a0:Act}(hS:OkC ops cs a0.tmps.size)(hf:EZ ι0 (A 0) a0){listed:Array Bool}{ι:Emb}{a:Act}{w:World}(h:Yz ops cs gs M0 A k ι0 w0 a0 listed ι a w)
  {i:Nat} (hi:i∈Region.ready .any ops listed) {K:Act→World→Prop} (hK:∀ι' a' w',Yz ops cs gs M0 A k ι0 w0 a0 (listed.setIfInBounds i true) ι' a' w'→K a' w'):wpOp P ops Q' i K a w:=by
 have hok:=hS.ok
 have hr:=mem_ready.1 hi
 have hun:listed.getD i false=false:=getD_both hr.1
 obtain ⟨_,o,ho,hall⟩:=hr
 have hin:i<ops.size:=(Array.getElem?_eq_some_iff.1 ho).1
 have hd:Bm ops i=o.dst:=by simp [Bm,ho]
 have hdeps:∀j,XY ops i j=true→listed.getD j false=true:=fun j hb=>E5 h.head.closed hb ho hall
 have hag:=h.agree hl hok hf hin ho hdeps hun
 have hopnd:∀x∈o.op.operands,(AF (A i).t x).rel ι (a.eval x):=by
  intro x hx
  cases x with
  |tmp t=>exact hag t (List.mem_append_left _ (List.mem_filterMap.2 ⟨.tmp t,by simpa using hx,rfl⟩))
  |const v=>exact AV.rel_of0 (Ru _ v)
  |global g=>trivial
  |func f=>rfl
 obtain ⟨c,hc,hcl,hcn,hst⟩:=h.cut
 have his:i<listed.size:=by rw [h.head.size];exact hin
 unfold wpOp
 simp only [ho]
 rw [show Region.wanted o (yielded ops a.tmps)=true by unfold Region.wanted;rw [hS.guard i o ho],if_pos rfl]
 refine .inl ?_;have hval:∀ {ι':Emb} {u:Value},(V i).rel ι' u→ ∀d,o.dst=some d→((A (i+1)).t d).rel ι' u:=fun hv d hdd=>by
  obtain ⟨m',e⟩:=hl.next ho
  rw [e]
  show (DX (A i).t o.dst (V i) d).rel _ _
  rw [hdd]
  show (upd (A i).t d (V i) d).rel _ _
  rw [upd_eq]
  exact hv
 have hlow:∀j,(listed.setIfInBounds i true).getD j false=false→listed.getD j false=false:=fun j hj=>by
  cases hb:listed.getD j false with
  |false=>rfl
  |true=>rw [getD_set_true hb] at hj;cases hj
 cases hs:cs.contains i with
 |false=>
  cases hg:iY gs i with
  |false=>
   obtain ⟨hv,hstep⟩:=hl.pure i o ho hs hg
   have hfree:∀j,j<c→cs.contains j=true→XY ops j i=false:=fun j hj hs'=>by
    have hjn:j<ops.size:=by omega
    have hlj:=(hcl j hjn hs').2 hj
    cases hb:XY ops j i with
    |false=>rfl
    |true=>
     have:=E5 h.head.closed hb (Array.getElem?_eq_getElem hjn) (h.head.closed j _ (Array.getElem?_eq_getElem hjn) hlj)
     rw [hun] at this;cases this
   refine (hv c hc hfree ι w a.eval hst.r hopnd).wp rfl fun u w' ι1 hv1 hst2=>?_
   refine hK ι1 _ _ (h.next hok (hst2.le hst.r) hi ho ⟨c,hc,fun i' hi' hs'=>?_,hcn,hst.comp (hst2.low hst.len)⟩ (fun p hp hl'=>?_) (hval hv1))
   rotate_left
   ·rw [hst2.ext p.2 (Nat.lt_of_lt_of_le (hl.gone p hp).2 hcn)];exact h.unp p hp (hlow p.1 hl')
   have hne:i≠i':=fun e=>by subst e;rw [hs] at hs';cases hs'
   rw [getD_set_ne false hne]
   exact hcl i' hi' hs'
  |true=>
   obtain ⟨_,hv,hstep⟩:=hl.made i o ho hg
   have hm:(A c).m=(A 0).m:=by
    refine hl.mem' (Nat.zero_le _) hc fun l _ h2=>?_
    cases hs':cs.contains l with
    |false=>rfl
    |true=>
     have hln:l<ops.size:=by omega
     have hll:=(hcl l hln hs').2 h2
     have:=E5 h.head.closed (hl.gbef l i hln hs' hg) (Array.getElem?_eq_getElem hln) (h.head.closed l _ (Array.getElem?_eq_getElem hln) hll)
     rw [hun] at this;cases this
   obtain ⟨bb,hbb,hv⟩:=hv
   have hst0:=hst
   rw [hm] at hst
   obtain ⟨u,w',ι1,hrun,hv1,hst2,hle2,hext2⟩:=hv ι w a.eval hst.r (h.unp _ hbb hun) hopnd
   unfold Oper.wp
   rw [hrun]
   refine hK ι1 _ _ (h.next hok hle2 hi ho ⟨c,hc,fun i' hi' hs'=>?_,hcn,by rw [hm];exact hst.comp hst2⟩ (fun p hp hl'=>?_) (hval hv1))
   rotate_left
   ·rw [hext2 p.2 (fun e=>by
     have e1:p.1=i:=hl.uniq p hp (i,bb) hbb e
     rw [e1] at hl'
     simp [his] at hl')]
    exact h.unp p hp (hlow p.1 hl')
   have hne:i≠i':=fun e=>by subst e;rw [hs] at hs';cases hs'
   rw [getD_set_ne false hne]
   exact hcl i' hi' hs'
 |true=>
  obtain ⟨m',hv,hstep⟩:=hl.chain i o ho hs
  have hci:c≤i:=by
   have:=(hcl i hin hs).2
   rcases Nat.lt_or_ge i c with h' | h'
   ·rw [this h'] at hun;cases hun
   ·exact h'
  have hm:(A i).m=(A c).m:=by
   refine hl.mem' hci (Nat.le_of_lt hin) fun l h1 h2=>?_
   cases hs':cs.contains l with
   |false=>rfl
   |true=>
    have:=(hcl l O_ hs').1 (hdeps l (hS.chain l i h2 hin hs' hs))
    omega
  rw [←hm] at hst
  refine (hv o ι w a.eval rfl hst.r hopnd).wp rfl fun u w' ι1 hv1 hst2=>?_
  have hst3:Step k ι0 M0 w0 ι1 (A (i+1)).m w':=by
   rw [hstep]
   exact hst.comp (hst2.low hst.len)
  refine hK ι1 _ _ (h.next hok (hst2.le hst.r) hi ho ⟨i+1,hin,fun i' hi' hs'=>?_,by rw [hstep];exact Nat.le_trans hcn (by rw [←hm];exact hst2.len),hst3⟩ (fun p hp hl'=>?_) (hval hv1))
  rotate_left
  ·rw [hst2.ext p.2 (Nat.lt_of_lt_of_le (hl.gone p hp).2 (by rw [hm];exact hcn))];exact h.unp p hp (hlow p.1 hl')
  by_cases hne:i=i'
  ·subst hne;simp [his]
  ·rw [getD_set_ne false hne]
   constructor
   ·intro hli
    rcases Nat.lt_or_ge i' (i+1) with h' | h'
    ·exact h'
    ·have:=E5 h.head.closed (hS.chain i i' O_ hi' hs hs') (Array.getElem?_eq_getElem hi') (h.head.closed i' _ (Array.getElem?_eq_getElem hi') hli)
     rw [hun] at this;cases this
   ·intro hlt
    exact hdeps i' (hS.chain i' i O_ hin hs' hs)
theorem Yz.any{Q':Exit→Act→World→Prop}(hl:JM P ops cs gs k A V N0){ι0:Emb}{w0:World}{a0:Act}(hS:OkC ops cs a0.tmps.size)(hf:EZ ι0 (A 0) a0)
  (hQ:∀ι' a' w',EZ ι' (A ops.size) a'→a'.defers=a0.defers→Step k ι0 M0 w0 ι' (A ops.size).m w'→Q' .normal a' w'):
  ∀(f:Nat) (un:List Nat) (listed:Array Bool) (ι:Emb) (a:Act) (w:World),un.length=f→un.Nodup→(∀j,j∈un↔j<ops.size∧listed.getD j false=false)→Yz ops cs gs M0 A k ι0 w0 a0 listed ι a w→wpAny P .any ops Q' f listed a w:=by
 have hok:=hS.ok
 intro f
 induction f with
 |zero=>
  intro un listed ι a w hlu _ hun h
  obtain rfl:un=[]:=List.length_eq_zero_iff.1 hlu
  have hdone:∀j,j<ops.size→listed.getD j false=true:=fun j hj=>by
   cases hb:listed.getD j false with
   |true=>rfl
   |false=>have:=(hun j).2 ⟨hj,hb⟩;simp at this
  have hnil:Region.ready .any ops listed=[]:=by
   cases hr:Region.ready .any ops listed with
   |nil=>rfl
   |cons x xs=>
    have hx:x∈Region.ready .any ops listed:=by rw [hr];exact List.mem_cons_self
    obtain ⟨h1,o,ho,_⟩:=mem_ready.1 hx
    have:=hdone x (Array.getElem?_eq_some_iff.1 ho).1
    rw [getD_both h1] at this;cases this
  refine ⟨hnil,?_⟩
  obtain ⟨c,hc,hcl,hcn,hst⟩:=h.cut
  have hm:(A ops.size).m=(A c).m:=by
   refine hl.mem' hc (Nat.le_refl _) fun l h1 h2=>?_
   cases hs':cs.contains l with
   |false=>rfl
   |true=>have:=(hcl l h2 hs').1 (hdone l h2);omega
  rw [←hm] at hst
  have hnn:(A ops.size).n=N0:=by
   cases hz:ops.size with
   |zero=>exact hl.h0
   |succ z=>
    have hlt:z<ops.size:=by omega
    obtain ⟨m',e⟩:=hl.next (Array.getElem?_eq_getElem hlt)
    rw [e]
  refine hQ ι a w ⟨by rw [h.size,hf.size,hl.h0,hnn],fun t=>?_⟩ h.defers hst
  by_cases hex:∃j,j<ops.size∧Bm ops j=some t
  ·obtain ⟨j,hj,hd⟩:=hex
   rw [hl.slot' (i:=j+1) O_ (Nat.le_refl _) (fun l h1 h2 hd'=>by have:=hok.uniq l j t O_ hj hd' hd;omega)]
   exact h.hit j hj (hdone j hj) t hd
  ·have hno:∀j,j<ops.size→Bm ops j≠some t:=fun j hj hd=>hex ⟨j,hj,hd⟩
   rw [h.miss t (fun j hj _=>hno j hj),hl.slot' (i:=0) (Nat.zero_le _) (Nat.le_refl _) (fun l _ h2=>hno l O_)]
   exact AV.rel_mono h.le (hf.rel t)
 |succ f ih=>
  intro un listed ι a w hlu hnd hun h
  refine ⟨fun hnil=>?_,fun i hi=>?_⟩
  ·obtain ⟨i0,hi0⟩:∃i0,i0∈un:=by cases un with | nil=>simp at hlu | cons x _=>exact ⟨x,List.mem_cons_self⟩
   have least:∀m i,i≤m→i∈un→ ∃j,j∈Region.ready .any ops listed:=by
    intro m
    induction m with
    |zero=>
     intro i him hiu
     obtain ⟨hin,hb⟩:=(hun i).1 hiu
     refine ⟨i,mem_ready.2 ⟨getD_in (by rw [h.head.size];exact hin) hb,ops[i]'hin,Array.getElem?_eq_getElem hin,fun e he hbind=>?_⟩⟩
     have:=hS.back i _ e (Array.getElem?_eq_getElem hin) he hbind
     omega
    |succ m ihm=>
     intro i him hiu
     obtain ⟨hin,hb⟩:=(hun i).1 hiu
     by_cases hall:∀e∈(ops[i]'hin).after,Region.binds .any e=true→listed.getD e.on false=true
     ·exact ⟨i,mem_ready.2 ⟨getD_in (by rw [h.head.size];exact hin) hb,_,Array.getElem?_eq_getElem hin,hall⟩⟩
     ·have:∃e∈(ops[i]'hin).after,Region.binds .any e=true∧listed.getD e.on false=false:=by
       apply Classical.byContradiction
       intro hc
       apply hall
       intro e he hbind
       cases hlb:listed.getD e.on false with
       |true=>rfl
       |false=>exact absurd ⟨e,he,hbind,hlb⟩ hc
      obtain ⟨e,he,hbind,hlb⟩:=this
      have hlt:=hS.back i _ e (Array.getElem?_eq_getElem hin) he hbind
      exact ihm e.on O_ ((hun e.on).2 ⟨by omega,hlb⟩)
   obtain ⟨j,hj⟩:=least i0 i0 (Nat.le_refl _) hi0
   rw [hnil] at hj;cases hj
  ·obtain ⟨hun0,o,ho,_⟩:=mem_ready.1 hi
   have hin:i<ops.size:=(Array.getElem?_eq_some_iff.1 ho).1
   refine h.run hl hS hf hi fun ι' a' w' h'=>?_
   have himem:i∈un:=(hun i).2 ⟨hin,getD_both hun0⟩
   refine ih (un.erase i) _ ι' a' w' (by rw [List.length_erase_of_mem himem,hlu];rfl) (hnd.erase i) (fun j=>?_) h'
   rw [hnd.mem_erase_iff,hun j]
   by_cases hji:j=i
   ·subst hji
    have his:j<listed.size:=by rw [h.head.size];exact hin
    simp [his]
   ·rw [getD_set_ne false (fun e=>hji e.symm)]
    simp [hji]
theorem eZ{k:Nat}{ι:Emb}{w:World}:∀(G M:Az),R ι M w→k≤M.length→Step k ι M w ι (M++G) w
 |[],M,hR,hk=>by rw [List.append_nil];exact Step.refl hR hk
 |r::G,M,hR,hk=>by
  have h:=Vw hR r hk
  rw [List.append_cons]
  exact h.comp (eZ G (M++[r]) h.r (by simp;omega))
theorem ly {Q : Exit → Act → World → Prop} {id : Nat} (G : Az) (hm : P.follows .mixedOrders = true) (hl : JM P ops cs gs k A V (A 0).n) (hall : Region.okChain ops cs (A 0).n = true) (hD : (A 0).m = M0 ++ G) (hgs : ∀ p ∈ gs, M0.length ≤ p.2) {ι : Emb} {w : World} {a : Act} (hf : EZ ι (A 0) a) (hR : R ι M0 w) (hk : k ≤ M0.length)
    (hQ : ∀ ι' a' w', EZ ι' (A ops.size) a' → a'.defers = a.defers → Step k ι M0 w ι' (A ops.size).m w' → Q .normal a' w') : (Code.region id ops true).wp P Q a w := by
  refine wp_region_any hm ?_
  have hRd : R ι M0 w.drew := ⟨hR.dom, hR.rows, hR.inj, hR.stay⟩
  have hinv : Yz ops cs gs M0 A k ι w.drew a (Array.replicate ops.size false) ι a w.drew :=
    ⟨⟨0, Nat.zero_le _, fun i _ _ => by rw [getD_replicate_false]; simp, Nat.le_refl _, by rw [hD]; exact eZ G _ hRd hk⟩, fun p hp _ => hR.dom _ (hgs p hp), .refl _, fun j _ hl => (by rw [getD_replicate_false] at hl; cases hl), fun _ _ => rfl, rfl, rfl,
      ⟨by simp, fun j oj _ hl => (by rw [getD_replicate_false] at hl; cases hl), fun t ht ht' => by omega⟩⟩
  exact Yz.any (w0 := w.drew) (Q' := Q) hl (Region.okChain_spec (by rw [hf.size]; exact hall)) hf
    (fun ι' a' w' h1 h2 h3 => hQ ι' a' w' h1 h2 ⟨h3.r, ⟨h3.trans.os, h3.trans.tape, h3.trans.output, h3.trans.size, h3.trans.keep, h3.trans.fresh⟩, h3.tx, h3.txn, h3.ext, h3.len, h3.ro, h3.old, h3.news⟩) ops.size (List.range ops.size) _ _ _ _ (by simp) List.nodup_range (fun j => by rw [getD_replicate_false]; simp) hinv
end
def FrW (P : Program) (ops : Array Oper) (S : List Nat) (D k : Nat) (M0 : Az) (cs : List (Nat × List Nat)) (gs : List (Nat × Nat)) (K : St → Prop) : Nat → List Oper → St → Prop
  | _, [], s => K s
  | i, o :: l, s => ((cs.map (·.1)).contains i = true ∧ iY gs i = false ∧ ∃ v m' rs, (i, rs) ∈ cs ∧ Ev P (.op o.op (AF s.t) s.m) (.val v m') ∧ (m'.length = s.m.length ∧ ∀ c, rs.contains c = false → m'[c]? = s.m[c]?) ∧ FrW P ops S D k M0 cs gs K (i + 1) l ⟨s.n, DX s.t o.dst v, m'⟩) ∨
      ((cs.map (·.1)).contains i = false ∧ iY gs i = false ∧ ∃ v, (∀ m, (EL S D M0 m ∧ EL (Ss ops cs i) D M0 m) → Su P o (AF s.t) m v) ∧ FrW P ops S D k M0 cs gs K (i + 1) l ⟨s.n, DX s.t o.dst v, s.m⟩) ∨
      ((cs.map (·.1)).contains i = false ∧ iY gs i = true ∧ ∃ b v, (i, b) ∈ gs ∧ GOk P k o b (AF s.t) M0 v ∧ FrW P ops S D k M0 cs gs K (i + 1) l ⟨s.n, DX s.t o.dst v, s.m⟩)
structure su(P:Program)(ops:Array Oper)(S:List Nat)(D k:Nat)(M0:Az)(cs:List (Nat×List Nat))(gs:List (Nat×Nat))(i:Nat)(l:List Oper)(s:St)(K:St→Prop):Prop where
 h:FrW P ops S D k M0 cs gs K i l s
def AAB(P:Program)(ops:Array Oper)(S:List Nat)(D k:Nat)(M0:Az)(cs:List (Nat×List Nat))(gs:List (Nat×Nat))(N0 i:Nat)(o:Oper)(s s':St)(v:AV):Prop:=
 ((cs.map (·.1)).contains i=false→iY gs i=false→(∀m,(EL S D M0 m∧EL (Ss ops cs i) D M0 m)→Su P o (AF s.t) m v)∧s'=⟨N0,DX s.t o.dst v,s.m⟩)∧
 (iY gs i=true→(cs.map (·.1)).contains i=false∧(∃b,(i,b)∈gs∧GOk P k o b (AF s.t) M0 v)∧s'=⟨N0,DX s.t o.dst v,s.m⟩)∧
 ((cs.map (·.1)).contains i=true→ ∃m',Ev P (.op o.op (AF s.t) s.m) (.val v m')∧s'=⟨N0,DX s.t o.dst v,m'⟩)
theorem FrW.line{P:Program}{ops:Array Oper}{S:List Nat}{D k:Nat}{M0:Az}{cs:List (Nat×List Nat)}{gs:List (Nat×Nat)}{K:St→Prop}{N0:Nat}:∀ {l:List Oper} {i:Nat} {s:St},FrW P ops S D k M0 cs gs K i l s→s.n=N0→EL (El cs i) D M0 s.m→ ∃(A:Nat→St) (V:Nat→AV),A 0=s∧(∀c,c≤l.length→EL (El cs (i+c)) D M0 (A c).m)∧
  (∀j o,l[j]?=some o→AAB P ops S D k M0 cs gs N0 (i+j) o (A j) (A (j+1)) (V j))∧K (A l.length)
 |[],i,s,h,_,ha=>⟨fun _=>s,fun _=> .c .any,rfl,fun c hc=>ha.sub (IC cs O_),fun j o h=>by simp at h,h⟩
 |o::l,i,s,h,hn,ha=>by
  have hor:∃v m',EL (El cs (i+1)) D M0 m'∧FrW P ops S D k M0 cs gs K (i+1) l ⟨s.n,DX s.t o.dst v,m'⟩∧AAB P ops S D k M0 cs gs N0 i o s ⟨s.n,DX s.t o.dst v,m'⟩ v:=by
   rcases h with ⟨hs,hg,v,m',rs,hin,hv,hag0,hr⟩ | ⟨hs,hg,v,hv,hr⟩ | ⟨hs,hg,b,v,hb,hv,hr⟩
   ·have hag:EL (El cs (i+1)) D M0 m':=by
     refine ⟨by rw [hag0.1];exact ha.1,fun b hb hn=>?_⟩
     have h1:rs.contains b=false:=by
      cases hc:rs.contains b with
      |false=>rfl
      |true=>
       have:b∈El cs (i+1):=by
        simp only [El,List.mem_flatMap,List.mem_filter,decide_eq_true_eq]
        exact ⟨(i,rs),⟨hin,by simp⟩,by simpa using hc⟩
       rw [show (El cs (i+1)).contains b=true by simpa using this] at hn
       cases hn
     rw [hag0.2 b h1]
     exact (ha.sub (IC cs (Nat.le_succ i))).2 b hb hn
    exact ⟨v,m',hag,hr,fun h=>(by rw [hs] at h;cases h),fun h=>(by rw [hg] at h;cases h),fun _=>⟨m',hv,by rw [hn]⟩⟩
   ·exact ⟨v,s.m,ha.sub (IC cs O_),hr,fun _ _=>⟨hv,by rw [hn]⟩,fun h=>(by rw [hg] at h;cases h),fun h=>by rw [hs] at h;cases h⟩
   ·exact ⟨v,s.m,ha.sub (IC cs O_),hr,fun _ h=>(by rw [hg] at h;cases h),fun _=>⟨hs,⟨b,hb,hv⟩,by rw [hn]⟩,fun h=>by rw [hs] at h;cases h⟩
  obtain ⟨v,m',hag,hr,hz⟩:=hor
  obtain ⟨A,V,h0,hc,h1,h2⟩:=FrW.line (s:=⟨s.n,DX s.t o.dst v,m'⟩) hr hn hag
  refine ⟨fun i=>match i with | 0=>s | i+1=>A i,fun i=>match i with | 0=>v | i+1=>V i,rfl,fun c hcl=>?_,fun j o' h=>?_,h2⟩
  ·cases c with
   |zero=>exact ha
   |succ c=>have:=hc c (by simpa using hcl);rwa [show i+1+c=i+(c+1) by omega] at this
  ·cases j with
   |zero=>simp at h;subst h;simp only;rw [h0];exact hz
   |succ j=>rw [show i+(j+1)=i+1+j by omega];exact h1 j o' (by simpa using h)
def sp(ops:Array Oper)(cs:List Nat)(gs:List (Nat×Nat))(n lo hi:Nat):Bool:=
 gs.all fun p=>decide (p.1<n)&&decide (lo≤p.2)&&decide (p.2<hi)&&(gs.all fun q=> !(p.2==q.2) || p.1==q.1)&&cs.all fun l=>XY ops l p.1
theorem Zh{P:Program}{k id:Nat}{l:List Oper}{s:St}{Φ:Ex→St→Prop}(G:Az)(gs:List (Nat×Nat))(cs:List (Nat×List Nat))(S:List Nat)(D:Nat)(M0:Az)(hM0:s.m++G=M0)(hm:P.follows .mixedOrders=true)(hok:Region.okChain l.toArray (cs.map (·.1)) s.n=true)(hS:(cs.flatMap (·.2)).all (S.contains ·)=true)(hG:sp l.toArray (cs.map (·.1)) gs l.length s.m.length M0.length=true)
  (h:su P l.toArray S D s.m.length M0 cs gs 0 l ⟨s.n,s.t,M0⟩ (Φ .normal)):WC P k (.region id l.toArray true) s Φ:=by
 subst hM0
 simp only [sp,List.all_eq_true,Bool.and_eq_true,decide_eq_true_eq,Bool.or_eq_true,Bool.not_eq_true',beq_eq_false_iff_ne,beq_iff_eq,ne_eq] at hG
 obtain ⟨A,V,h0,hc,h1,h3⟩:=FrW.line (N0:=s.n) h.h rfl ⟨Nat.le_add_right _ _,fun _ _ _=>rfl⟩
 have hA:(A 0).m=s.m++G:=by rw [h0]
 have hAn:(A 0).n=s.n:=by rw [h0]
 refine ⟨⟨.normal,A l.length,Ev.snd ?_,h3⟩⟩
 intro ι w a hk hR hf Q hQ
 have hl:JM P l.toArray (cs.map (·.1)) gs k A V (A 0).n:=by
  refine ⟨rfl,fun p hp=>⟨by simpa using (hG p hp).1.1.1.1,by rw [hA];exact (hG p hp).1.1.2⟩,fun p hp q hq e=>((hG p hp).1.2 q hq).resolve_left (fun h=>h e),fun l' i hl' hs hg=>?_,fun i o ho hs hg=>?_,fun i o ho hg=>?_,fun i o ho hs=>?_⟩
  ·obtain ⟨b,hb⟩:=AB1 hg
   exact (hG (i,b) hb).2 l' (by simpa using hs)
  ·have hz:=h1 i o (by simpa using ho)
   rw [Nat.zero_add] at hz
   obtain ⟨g1,g2⟩:=hz.1 hs hg
   refine ⟨fun c hcl hfree=>g1 _ ?_,by rw [hAn];exact g2⟩
   have hag:=hc c (by simpa using hcl)
   rw [Nat.zero_add] at hag
   refine ⟨hag.sub fun x hx=>?_,hag.sub fun x hx=>?_⟩
   ·simp only [El,List.mem_flatMap,List.mem_filter] at hx
    obtain ⟨p,⟨q1,_⟩,q2⟩:=hx
    have:=List.all_eq_true.1 hS x (List.mem_flatMap.2 ⟨p,q1,q2⟩)
    simpa using this
   ·simp only [El,Ss,List.mem_flatMap,List.mem_filter,decide_eq_true_eq] at hx ⊢
    obtain ⟨p,⟨q1,q3⟩,q2⟩:=hx
    refine ⟨p,⟨q1,?_⟩,q2⟩
    rw [hfree p.1 q3 (by simp only [List.contains_iff_mem];exact List.mem_map.2 ⟨p,q1,rfl⟩)]
    rfl
  ·have hz:=h1 i o (by simpa using ho)
   rw [Nat.zero_add] at hz
   obtain ⟨g1,⟨b,g2,g3⟩,g4⟩:=hz.2.1 hg
   refine ⟨g1,⟨b,g2,fun ι w ρ q1 q2 q3=>?_⟩,by rw [hAn];exact g4⟩
   rw [hA] at q1 ⊢
   obtain ⟨u,w',ι',r1,r2,r3,r4,r5⟩:=g3 ι w ρ q1 q2 q3
   exact ⟨u,w',ι',r1,r2,r3.low hk,r4,r5⟩
  ·have hz:=h1 i o (by simpa using ho)
   rw [Nat.zero_add] at hz
   obtain ⟨m',g1,g2⟩:=hz.2.2 hs
   exact ⟨m',sound g1,by rw [hAn];exact g2⟩
 have hf':EZ ι (A 0) a:=by rw [h0];exact ⟨hf.size,hf.rel⟩
 exact ly (Q:=Q) (M0:=s.m) G hm hl (by rw [hAn];exact hok) hA (fun p hp=>(hG p hp).1.1.1.2) hf' hR hk fun ι' a' w' g1 g2 g3=>hQ ι' a' w' (by simpa using g1) g2 (by simpa using g3)
section
variable {P:Program} {ops:Array Oper} {S:List Nat} {D kk:Nat} {M0 M M':Az} {cs:List (Nat×List Nat)} {gs:List (Nat×Nat)} {i N d:Nat} {l:List Oper} {T:Nat→AV} {K:St→Prop} {op:Op} {v:AV} {ty:TypeId} {pos:String} {af:Array Edge}
theorem eP{s:St}(h:K s):su P ops S D kk M0 cs gs i [] s K:=⟨h⟩
theorem AAY(h:AS P (AF T) (JC S D M0) op=some v)(hs:(cs.map (·.1)).contains i=false)(hk:su P ops S D kk M0 cs gs (i+1) l ⟨N,upd T d v,M⟩ K)(hg:iY gs i=false:=by rfl):su P ops S D kk M0 cs gs i (⟨some d,op,ty,pos,af,none⟩::l) ⟨N,T,M⟩ K:=
 ⟨.inr (.inl ⟨hs,hg,v,fun _ ha=>VZ ha.1 h,hk.h⟩)⟩
theorem Nq(S':List Nat)(hS:(Ss ops cs i).all (S'.contains ·)=true)(h:AS P (AF T) (JC S' D M0) op=some v)(hs:(cs.map (·.1)).contains i=false)(hk:su P ops S D kk M0 cs gs (i+1) l ⟨N,upd T d v,M⟩ K)(hg:iY gs i=false:=by rfl):su P ops S D kk M0 cs gs i (⟨some d,op,ty,pos,af,none⟩::l) ⟨N,T,M⟩ K:=
 ⟨.inr (.inl ⟨hs,hg,v,fun _ ha=>VZ (ha.2.sub fun x hx=>by have:=List.all_eq_true.1 hS x hx;simpa using this) h,hk.h⟩)⟩
theorem zm(h:Ev P (.op op (AF T) (Bv (JC S D M0))) (.val v (Bv (JC S D M0)++[])))(hn:∀ρ,v.ren ρ=v)(hs:(cs.map (·.1)).contains i=false)(hk:su P ops S D kk M0 cs gs (i+1) l ⟨N,upd T d v,M⟩ K)(hg:iY gs i=false:=by rfl):su P ops S D kk M0 cs gs i (⟨some d,op,ty,pos,af,none⟩::l) ⟨N,T,M⟩ K:=
 ⟨.inr (.inl ⟨hs,hg,v,fun _ ha=>tA ha.1 (by rwa [List.append_nil] at h) hn,hk.h⟩)⟩
theorem N4(b:Nat){t:TypeId}{x:Arr}(hz:∀m,C1 P m t=some (.c (.ptr m.length 0),m++[.row true x]))(hm:M0[b]?=some (.row true x))(hb:Nat.ble kk b=true)(hs:(cs.map (·.1)).contains i=false)(hg:gs.contains (i,b)=true)(hk:su P ops S D kk M0 cs gs (i+1) l ⟨N,upd T d (.c (.ptr b 0)),M⟩ K):su P ops S D kk M0 cs gs i (⟨some d,.alloc t,ty,pos,af,none⟩::l) ⟨N,T,M⟩ K:=
 ⟨.inr (.inr ⟨hs,AGL (p:=(i,b)) (by simpa using hg),b,_,by simpa using hg,ACk hz hm (Nat.le_of_ble_eq_true hb),hk.h⟩)⟩
theorem AJd{b:Nat}{r:Row}(hM:M.set b r=M'):M'.length=M.length∧ ∀c,[b].contains c=false→M'[c]?=M[c]?:=by
 subst hM
 refine ⟨by simp,fun c hc=>List.getElem?_set_ne (fun e=>?_)⟩
 rw [e] at hc
 simp at hc
theorem AGG{b:Nat}{r:Row}(h:DK P (AF T) M op=some (v,M'))(hM:M.set b r=M')(hk:su P ops S D kk M0 cs gs (i+1) l ⟨N,T,M'⟩ K)(hs:cs.contains (i,[b])=true)(hg:iY gs i=false):su P ops S D kk M0 cs gs i (⟨none,op,ty,pos,af,none⟩::l) ⟨N,T,M⟩ K:=by
 have hin:(i,[b])∈cs:=by simpa using hs
 exact ⟨.inl ⟨by simp only [List.contains_iff_mem];exact List.mem_map.2 ⟨_,hin,rfl⟩,hg,v,M',[b],hin,Ev.mem h,AJd hM,hk.h⟩⟩
theorem lj{t:TypeId}{a v:Operand}{b:Nat}{x y:Arr}(ha:AF T a= .c (.ptr b 0))(hv:AF T v= .agg y)(hm:M[b]?=some (.row true x))(h1:y.one=true){n:Nat}(hsz:EM P t=some n)(hy:y.size=n)(hx:x.size=n)(hM:M.set b (.row true y)=M')
  (hk:su P ops S D kk M0 cs gs (i+1) l ⟨N,T,M'⟩ K) (hxm:x.isMap=false:=by rfl) (hs:cs.contains (i,[b])=true:=by rfl) (hg:iY gs i=false:=by rfl):su P ops S D kk M0 cs gs i (⟨none,.store t a v,ty,pos,af,none⟩::l) ⟨N,T,M⟩ K:=
 AGG (v:= .c .any) (by simp [DK,LH,ha,hv,hm,h1,hsz,hx,hy,hM,hxm]) hM hk hs hg
end
noncomputable def Gw(J5 J6 J7 J8:AA 64):AA 64:=BC (BG (BC (BI J7 J8) (BG J5 J6)) (BC (BG J7 J8) (BI J5 J6))) (BG (BC (BI J7 J8) (BG J5 J6)) (BC (BG J7 J8) (BI J5 J6)))
@[simp] theorem Sq(J5 J6 J7 J8:AA 64):(Gw J5 J6 J7 J8).length=5:=by simp [Gw]
noncomputable def Fj(place:AA 8)(J5 J6 J7 J8:AA 64):AA 64:=BC (sS (put place 31 ((nth place 31)&&&127#8))) (BC (BI (BC (BI J7 J8) (BG J5 J6)) (BC (BG J7 J8) (BI J5 J6))) (BI (BC (BI J7 J8) (BG J5 J6)) (BC (BG J7 J8) (BI J5 J6))))
@[simp] theorem RW(place:AA 8)(J5 J6 J7 J8:AA 64):(Fj place J5 J6 J7 J8).length=5:=by simp [Fj]
noncomputable def Gv(J5 J6:AA 64):AA 64:=BC (BC (BG J5 J6) (BG J5 J6)) (BC (BI J5 J6) (BI J5 J6))
@[simp] theorem R7(J5 J6:AA 64):(Gv J5 J6).length=5:=by simp [Gv]
noncomputable def Fe(J5 J6:AA 64):AA 64:=BC (BI (BC (BG J5 J6) (BG J5 J6)) (BC (BI J5 J6) (BI J5 J6))) (BG (BC (BG J5 J6) (BG J5 J6)) (BC (PQ 121665#64) (BI (BC (BG J5 J6) (BG J5 J6)) (BC (BI J5 J6) (BI J5 J6)))))
@[simp] theorem RN(J5 J6:AA 64):(Fe J5 J6).length=5:=by simp [Fe]
noncomputable def Nn(key place:AA 8)(X5 X6 X7 X8:AA 64)(j6:Nat):AA 64×AA 64×AA 64×AA 64:=((if ((((nth (DW key) ((254-j6)/8))>>>((254-j6)%8))&&&1#8)==1#8)=true then (Gw (if ((((nth (DW key) ((254-j6)/8))>>>((254-j6)%8))&&&1#8)==1#8)=true then X7 else X5) (if ((((nth (DW key) ((254-j6)/8))>>>((254-j6)%8))&&&1#8)==1#8)=true then X8 else X6) (if ((((nth (DW key) ((254-j6)/8))>>>((254-j6)%8))&&&1#8)==1#8)=true then X5 else X7) (if ((((nth (DW key) ((254-j6)/8))>>>((254-j6)%8))&&&1#8)==1#8)=true then X6 else X8)) else (Gv (if ((((nth (DW key) ((254-j6)/8))>>>((254-j6)%8))&&&1#8)==1#8)=true then X7 else X5) (if ((((nth (DW key) ((254-j6)/8))>>>((254-j6)%8))&&&1#8)==1#8)=true then X8 else X6))),(if ((((nth (DW key) ((254-j6)/8))>>>((254-j6)%8))&&&1#8)==1#8)=true then (Fj place (if ((((nth (DW key) ((254-j6)/8))>>>((254-j6)%8))&&&1#8)==1#8)=true then X7 else X5) (if ((((nth (DW key) ((254-j6)/8))>>>((254-j6)%8))&&&1#8)==1#8)=true then X8 else X6) (if ((((nth (DW key) ((254-j6)/8))>>>((254-j6)%8))&&&1#8)==1#8)=true then X5 else X7) (if ((((nth (DW key) ((254-j6)/8))>>>((254-j6)%8))&&&1#8)==1#8)=true then X6 else X8)) else (Fe (if ((((nth (DW key) ((254-j6)/8))>>>((254-j6)%8))&&&1#8)==1#8)=true then X7 else X5) (if ((((nth (DW key) ((254-j6)/8))>>>((254-j6)%8))&&&1#8)==1#8)=true then X8 else X6))),(if ((((nth (DW key) ((254-j6)/8))>>>((254-j6)%8))&&&1#8)==1#8)=true then (Gv (if ((((nth (DW key) ((254-j6)/8))>>>((254-j6)%8))&&&1#8)==1#8)=true then X7 else X5) (if ((((nth (DW key) ((254-j6)/8))>>>((254-j6)%8))&&&1#8)==1#8)=true then X8 else X6)) else (Gw (if ((((nth (DW key) ((254-j6)/8))>>>((254-j6)%8))&&&1#8)==1#8)=true then X7 else X5) (if ((((nth (DW key) ((254-j6)/8))>>>((254-j6)%8))&&&1#8)==1#8)=true then X8 else X6) (if ((((nth (DW key) ((254-j6)/8))>>>((254-j6)%8))&&&1#8)==1#8)=true then X5 else X7) (if ((((nth (DW key) ((254-j6)/8))>>>((254-j6)%8))&&&1#8)==1#8)=true then X6 else X8))),(if ((((nth (DW key) ((254-j6)/8))>>>((254-j6)%8))&&&1#8)==1#8)=true then (Fe (if ((((nth (DW key) ((254-j6)/8))>>>((254-j6)%8))&&&1#8)==1#8)=true then X7 else X5) (if ((((nth (DW key) ((254-j6)/8))>>>((254-j6)%8))&&&1#8)==1#8)=true then X8 else X6)) else (Fj place (if ((((nth (DW key) ((254-j6)/8))>>>((254-j6)%8))&&&1#8)==1#8)=true then X7 else X5) (if ((((nth (DW key) ((254-j6)/8))>>>((254-j6)%8))&&&1#8)==1#8)=true then X8 else X6) (if ((((nth (DW key) ((254-j6)/8))>>>((254-j6)%8))&&&1#8)==1#8)=true then X5 else X7) (if ((((nth (DW key) ((254-j6)/8))>>>((254-j6)%8))&&&1#8)==1#8)=true then X6 else X8))))
noncomputable def BQ(key place:AA 8):Nat→AA 64×AA 64×AA 64×AA 64
 |0=>(PQ 1#64,PQ 0#64,sS (put place 31 ((nth place 31)&&&127#8)),PQ 1#64)
 |j6+1=>Nn key place (BQ key place j6).1 (BQ key place j6).2.1 (BQ key place j6).2.2.1 (BQ key place j6).2.2.2 j6
theorem Jn(key place:AA 8)(_hkey:key.length=32)(_hplace:place.length=32)(j6:Nat):(BQ key place j6).1.length=5∧(BQ key place j6).2.1.length=5∧(BQ key place j6).2.2.1.length=5∧(BQ key place j6).2.2.2.length=5:=by
 induction j6 with
 |zero=>refine ⟨?_,?_,?_,?_⟩<;>(simp (maxDischargeDepth:=9) [BQ, *];done)
 |succ j6 ih=>
  obtain ⟨ih0,ih1,ih2,ih3⟩:=ih
  rw [BQ.eq_2,Nn]
  refine ⟨?_,?_,?_,?_⟩<;>(split<;>first | (simp (maxDischargeDepth:=9) [Sq,RW,R7,RN, *];done) | (simp (maxDischargeDepth:=9) [Sq,RW,R7,RN, *];omega))
theorem S2(key place:AA 8)(hkey:key.length=32)(hplace:place.length=32)(j6:Nat):(BQ key place j6).1.length=5:=(Jn key place hkey hplace j6).1
theorem ST(key place:AA 8)(hkey:key.length=32)(hplace:place.length=32)(j6:Nat):(BQ key place j6).2.1.length=5:=(Jn key place hkey hplace j6).2.1
theorem Ro(key place:AA 8)(hkey:key.length=32)(hplace:place.length=32)(j6:Nat):(BQ key place j6).2.2.1.length=5:=(Jn key place hkey hplace j6).2.2.1
theorem Sz(key place:AA 8)(hkey:key.length=32)(hplace:place.length=32)(j6:Nat):(BQ key place j6).2.2.2.length=5:=(Jn key place hkey hplace j6).2.2.2
noncomputable def ay(key place:AA 8):AA 8:=qBy (BC ((BQ key place 255).1) (dU ((BQ key place 255).2.1)))
theorem M3{p:Prop}(h:p:=by first | exact (rfl:_=0) | exact (rfl:_=1) | exact (rfl:_=2) | exact (rfl:_=3) | exact (rfl:_=4) | exact (rfl:_=5) | exact (rfl:_=6) | exact (rfl:_=7) | exact (rfl:_=8) | exact (rfl:_=9) | exact (rfl:_=10) | exact (rfl:_=11) | exact (rfl:_=12) | exact (rfl:_=13) | exact (rfl:_=14) | exact (rfl:_=15) | exact (rfl:_=16) | exact (rfl:_=17) | exact (rfl:_=18) | exact (rfl:_=19) | exact (rfl:_=20) | exact (rfl:_=21) | exact (rfl:_=22) | exact (rfl:_=23) | exact (rfl:_=24) | exact (rfl:_=25) | exact (rfl:_=26) | exact (rfl:_=27) | exact (rfl:_=28) | exact (rfl:_=29) | exact (rfl:_=30) | exact (rfl:_=31) | exact (rfl:_=32) | exact (rfl:_=33) | exact (rfl:_=34) | exact (rfl:_=35) | exact (rfl:_=36) | exact (rfl:_=37) | exact (rfl:_=38) | exact (rfl:_=39)):p:=h
theorem Jp(k:r)(h:Hid r→g:=by intro h;refine AB (AN (j:=31) rfl rfl underlying37 Bt O_) rfl ?_;refine cD rfl rfl rfl Bt EO AT ?_;refine AR ?_;exact h.out):g:=h ⟨k⟩
theorem FP(k:r)(h:Hid r→g:=by intro h;refine Bs rfl rfl rfl rfl HF B7 B7 AT ?_;refine AR ?_;exact h.out):g:=h ⟨k⟩
theorem xR(k:r)(h:Hid r→g:=by intro h;refine zm (Ah (bs:=[]) (gv 1#64) JW K_ K_ rfl B4) (fun _=>rfl) rfl ?_;exact h.out):g:=h ⟨k⟩
theorem Lv(k:r)(h:Hid r→g:=by intro h;refine lj rfl rfl rfl rfl HF B7 B7 AT ?_;exact h.out):g:=h ⟨k⟩
theorem yU(k:r)(h:Hid r→g:=by intro h;refine Zh [] [] [(4,[3]),(5,[4]),(6,[5]),(7,[6])] [3,4,5,6] 0 _ AT mixed K_ K_ K_ ?_;exact h.out):g:=h ⟨k⟩
theorem XZ(k:r)(h:Hid r→g:=by intro h;refine Nq [] K_ (A9 rfl rfl H7 HF B7 D_) rfl ?_;exact h.out):g:=h ⟨k⟩
theorem DS(k:r)(h:Hid r→g:=by intro h;refine AH (A9 rfl rfl H7 HF B7 D_) rfl ?_;refine AH (A9 rfl rfl H7 HF B7 D_) rfl ?_;exact h.out):g:=h ⟨k⟩
theorem NX(k:r)(h:Hid r→g:=by intro h;refine Hn (Ay TC M3) AT rfl ?_;exact h.out):g:=h ⟨k⟩
theorem Iv(k:r)(h:Hid r→g:=by intro h;refine S_ ?_;refine B5 8 mixed K_ rfl rfl rfl ?_;exact h.out):g:=h ⟨k⟩
theorem In(k:r)(h:Hid r→g:=by intro h;refine S_ ?_;refine B5 5 mixed K_ rfl rfl rfl ?_;exact h.out):g:=h ⟨k⟩
theorem wF(key place:AA 8)(hkey:key.length=32)(hplace:place.length=32):Ev prog (.call 115 [BM (key),BM (place)] []) (.val (BM (ay key place)) []):=by
 have hP:=Hid.mk (ay.eq_1 key place)
 refine AI func115 rfl ntmps115 rfl M3 ?_;refine Ab ?_;refine Ap (Sw yp M3) AT rfl ?_;refine Ap (Sw yp M3) AT rfl ?_;refine Ap (Ay YJ M3) AT rfl ?_;refine AR ?_;have hQ1:(DW key).length=32:=AP
 refine Bg ?_;refine Ae (ACn key AD) AGM ?_;refine Ap (Ay YJ M3) AT rfl ?_;refine Gr ?_;refine AZ ?_;refine Iw ?_;refine Jp ?_;have hQ2:(sS (put place 31 ((nth place 31)&&&127#8))).length=5:=AP
 refine Bg ?_;refine Ae (AFU (put place 31 ((nth place 31)&&&127#8)) AD) VM ?_;refine Ap (Ay TC M3) AT rfl ?_;refine FP ?_;have hQ3:(PQ 1#64).length=5:=AP
 have hQ4:(PQ 0#64).length=5:=AP
 refine S_ ?_;refine Zh [.row true (.a64 (AC 5)),.row true (.a64 (AC 5)),.row true (.a64 (AC 5)),.row true (.a64 (AC 5))] [(4,5),(5,6),(6,7),(7,8)] [(8,[5]),(9,[6]),(10,[7]),(11,[8])] [5,6,7,8] 0 _ AT mixed K_ K_ K_ ?_;refine xR ?_;refine zm (Ah (bs:=[]) (gv 0#64) JW K_ K_ rfl B4) (fun _=>rfl) rfl ?_
 refine Nq [5,6] K_ (A9 rfl rfl H7 HF B7 D_) rfl ?_;refine xR ?_;refine N4 5 TC rfl rfl rfl K_ ?_;refine N4 6 TC rfl rfl rfl K_ ?_;refine N4 7 TC rfl rfl rfl K_ ?_;refine N4 8 TC rfl rfl rfl K_ ?_;refine Lv ?_;refine Lv ?_;refine Lv ?_;refine Lv ?_;refine eP ?_;refine Ab ?_;refine Al ?_;refine AK [4,5,6,7,8,9,10,11] (fun (zz:Nat×AA 64×AA 64×AA 64×AA 64)=>⟨115,AU [4,5,6,7,8,9,10,11] [AY 0,AY 1,AY 2,AY 3,AY 4,AY 5,AY 6,At (((254:Nat):Int)-((zz.1:Nat):Int))],[BP (Ac 32),BP (DW key),Bb (sS (put place 31 ((nth place 31)&&&127#8))),Bb (zz.2.1),Bb (zz.2.2.1),Bb (zz.2.2.2.1),Bb (zz.2.2.2.2)]⟩) (fun j6=>(j6,BQ key place j6)) (255) K_ ?_ ?_
 ·intro j6 hj6
  try dsimp only
  have hX5:(BQ key place j6).1.length=5:=by rw [S2 key place hkey hplace _];try omega
  have hX6:(BQ key place j6).2.1.length=5:=by rw [ST key place hkey hplace _];try omega
  have hX7:(BQ key place j6).2.2.1.length=5:=by rw [Ro key place hkey hplace _];try omega
  have hX8:(BQ key place j6).2.2.2.length=5:=by rw [Sz key place hkey hplace _];try omega
  rw [BQ.eq_2,Nn]
  generalize BQ key place j6=Z9 at*
  obtain ⟨X5,X6,X7,X8⟩:=Z9
  try dsimp only at*
  rw [show ((254:Nat):Int)-((j6:Nat):Int)=((254-j6:Nat):Int) from by omega]
  refine PH ?_;refine Ak ?_;refine Oo ?_;refine O2 ?_;refine GA ?_;refine AX ?_;refine Qi ?_;refine AB (Vu rfl rfl) rfl ?_;refine AB (OH (b:=1#8) rfl rfl) rfl ?_;refine Xt ?_;refine BF ?_;refine EA ?_;refine Eb [4,5,6,7,8,9,10,11,12] (fun (zz:AA 64×AA 64×AA 64×AA 64)=>⟨115,AU [4,5,6,7,8,9,10,11,12] [AY 0,AY 1,AY 2,AY 3,AY 4,AY 5,AY 6,At (((254-j6:Nat):Int)),.c (.val (.bool (((((nth (DW key) ((254-j6)/8))>>>((254-j6)%8))&&&1#8)==1#8))))],[BP (Ac 32),BP (DW key),Bb (sS (put place 31 ((nth place 31)&&&127#8))),Bb (zz.1),Bb (zz.2.1),Bb (zz.2.2.1),Bb (zz.2.2.2)]⟩) ((if ((((nth (DW key) ((254-j6)/8))>>>((254-j6)%8))&&&1#8)==1#8)=true then X7 else X5,if ((((nth (DW key) ((254-j6)/8))>>>((254-j6)%8))&&&1#8)==1#8)=true then X8 else X6,if ((((nth (DW key) ((254-j6)/8))>>>((254-j6)%8))&&&1#8)==1#8)=true then X5 else X7,if ((((nth (DW key) ((254-j6)/8))>>>((254-j6)%8))&&&1#8)==1#8)=true then X6 else X8)) rfl (fun hb=>?_) (fun hb=>?_) ?_
  ·refine S_ ?_
   refine yU ?_;refine XZ ?_;refine Nq [3] K_ (A9 rfl rfl H7 HF B7 D_) rfl ?_;refine XZ ?_;refine XZ ?_;refine Lv ?_;refine Lv ?_;refine Lv ?_;refine Lv ?_;refine eP ?_;refine S_ ?_;refine ⟨(X7,X8,X5,X6),K_,?_⟩
   (simp only [if_pos (hb)];done)
  ·refine S_ ?_
   refine ⟨(X5,X6,X7,X8),K_,?_⟩
   (simp only [hb,Bool.false_eq_true,if_false];done)
  have hJ10:(if ((((nth (DW key) ((254-j6)/8))>>>((254-j6)%8))&&&1#8)==1#8)=true then X7 else X5).length=5:=by split<;>simp [*]
  generalize (if ((((nth (DW key) ((254-j6)/8))>>>((254-j6)%8))&&&1#8)==1#8)=true then X7 else X5)=J10 at*
  have hJ11:(if ((((nth (DW key) ((254-j6)/8))>>>((254-j6)%8))&&&1#8)==1#8)=true then X8 else X6).length=5:=by split<;>simp [*]
  generalize (if ((((nth (DW key) ((254-j6)/8))>>>((254-j6)%8))&&&1#8)==1#8)=true then X8 else X6)=J11 at*
  have hJ12:(if ((((nth (DW key) ((254-j6)/8))>>>((254-j6)%8))&&&1#8)==1#8)=true then X5 else X7).length=5:=by split<;>simp [*]
  generalize (if ((((nth (DW key) ((254-j6)/8))>>>((254-j6)%8))&&&1#8)==1#8)=true then X5 else X7)=J12 at*
  have hJ13:(if ((((nth (DW key) ((254-j6)/8))>>>((254-j6)%8))&&&1#8)==1#8)=true then X6 else X8).length=5:=by split<;>simp [*]
  generalize (if ((((nth (DW key) ((254-j6)/8))>>>((254-j6)%8))&&&1#8)==1#8)=true then X6 else X8)=J13 at*
  have hQ14:(BG J10 J11).length=5:=AP
  have hQ15:(BI J10 J11).length=5:=AP
  have hQ16:(BG J12 J13).length=5:=AP
  have hQ17:(BI J12 J13).length=5:=AP
  refine L2 ?_;refine DS ?_;refine AO (Ze J10 J11 AD AD) Im ?_;refine DS ?_;refine AO (ZL J10 J11 AD AD) Js ?_;refine DS ?_;refine AO (Ze J12 J13 AD AD) Im ?_;refine DS ?_;refine AO (ZL J12 J13 AD AD) Js ?_;refine NX ?_;refine NX ?_;refine NX ?_;refine NX ?_;refine Is ?_;refine JL ?_;refine JL ?_;refine FP ?_;have hQ18:(BC (BG J10 J11) (BG J10 J11)).length=5:=AP
  have hQ19:(BC (BI J10 J11) (BI J10 J11)).length=5:=AP
  have hQ20:(BC (BI J12 J13) (BG J10 J11)).length=5:=AP
  have hQ21:(BC (BG J12 J13) (BI J10 J11)).length=5:=AP
  refine L2 ?_;refine DS ?_;refine AO (Jx (BG J10 J11) (BG J10 J11) AD AD) By ?_;refine DS ?_;refine AO (Jx (BI J10 J11) (BI J10 J11) AD AD) By ?_;refine DS ?_;refine AO (Jx (BI J12 J13) (BG J10 J11) AD AD) By ?_;refine DS ?_;refine AO (Jx (BG J12 J13) (BI J10 J11) AD AD) By ?_;refine NX ?_;refine NX ?_;refine NX ?_;refine NX ?_;refine Is ?_;refine JL ?_;refine JL ?_;refine FP ?_;have hQ22:(BI (BC (BG J10 J11) (BG J10 J11)) (BC (BI J10 J11) (BI J10 J11))).length=5:=AP
  have hQ23:(BG (BC (BI J12 J13) (BG J10 J11)) (BC (BG J12 J13) (BI J10 J11))).length=5:=AP
  have hQ24:(BI (BC (BI J12 J13) (BG J10 J11)) (BC (BG J12 J13) (BI J10 J11))).length=5:=AP
  refine S_ ?_;refine Hk ?_;refine DS ?_;refine AO (ZL (BC (BG J10 J11) (BG J10 J11)) (BC (BI J10 J11) (BI J10 J11)) AD AD) Js ?_;refine DS ?_;refine AO (Ze (BC (BI J12 J13) (BG J10 J11)) (BC (BG J12 J13) (BI J10 J11)) AD AD) Im ?_;refine DS ?_;refine AO (ZL (BC (BI J12 J13) (BG J10 J11)) (BC (BG J12 J13) (BI J10 J11)) AD AD) Js ?_;refine NX ?_;refine NX ?_;refine NX ?_;refine Is ?_;refine JL ?_;refine FP ?_;have hQ25:(BC (BG (BC (BI J12 J13) (BG J10 J11)) (BC (BG J12 J13) (BI J10 J11))) (BG (BC (BI J12 J13) (BG J10 J11)) (BC (BG J12 J13) (BI J10 J11)))).length=5:=AP
  have hQ26:(BC (BI (BC (BI J12 J13) (BG J10 J11)) (BC (BG J12 J13) (BI J10 J11))) (BI (BC (BI J12 J13) (BG J10 J11)) (BC (BG J12 J13) (BI J10 J11)))).length=5:=AP
  have hQ27:(BC (sS (put place 31 ((nth place 31)&&&127#8))) (BC (BI (BC (BI J12 J13) (BG J10 J11)) (BC (BG J12 J13) (BI J10 J11))) (BI (BC (BI J12 J13) (BG J10 J11)) (BC (BG J12 J13) (BI J10 J11))))).length=5:=AP
  refine Iv ?_;refine DS ?_;refine AO (Jx (BG (BC (BI J12 J13) (BG J10 J11)) (BC (BG J12 J13) (BI J10 J11))) (BG (BC (BI J12 J13) (BG J10 J11)) (BC (BG J12 J13) (BI J10 J11))) AD AD) By ?_;refine DS ?_;refine Dq ?_;refine AO (Jx (BI (BC (BI J12 J13) (BG J10 J11)) (BC (BG J12 J13) (BI J10 J11))) (BI (BC (BI J12 J13) (BG J10 J11)) (BC (BG J12 J13) (BI J10 J11))) AD AD) By ?_;refine AO (Jx (sS (put place 31 ((nth place 31)&&&127#8))) (BC (BI (BC (BI J12 J13) (BG J10 J11)) (BC (BG J12 J13) (BI J10 J11))) (BI (BC (BI J12 J13) (BG J10 J11)) (BC (BG J12 J13) (BI J10 J11)))) AD AD) By ?_;refine Is ?_;refine FP ?_;rw [show (BC (BG (BC (BI J12 J13) (BG J10 J11)) (BC (BG J12 J13) (BI J10 J11))) (BG (BC (BI J12 J13) (BG J10 J11)) (BC (BG J12 J13) (BI J10 J11))))=Gw J10 J11 J12 J13 from rfl]
  have hX28:(Gw J10 J11 J12 J13).length=5:=AP
  generalize Gw J10 J11 J12 J13=X28 at*
  rw [show (BC (sS (put place 31 ((nth place 31)&&&127#8))) (BC (BI (BC (BI J12 J13) (BG J10 J11)) (BC (BG J12 J13) (BI J10 J11))) (BI (BC (BI J12 J13) (BG J10 J11)) (BC (BG J12 J13) (BI J10 J11)))))=Fj place J10 J11 J12 J13 from rfl]
  have hX29:(Fj place J10 J11 J12 J13).length=5:=AP
  generalize Fj place J10 J11 J12 J13=X29 at*
  have hQ30:(BC (BC (BG J10 J11) (BG J10 J11)) (BC (BI J10 J11) (BI J10 J11))).length=5:=AP
  have hQ31:(PQ 121665#64).length=5:=AP
  have hQ32:(BC (PQ 121665#64) (BI (BC (BG J10 J11) (BG J10 J11)) (BC (BI J10 J11) (BI J10 J11)))).length=5:=AP
  have hQ33:(BG (BC (BG J10 J11) (BG J10 J11)) (BC (PQ 121665#64) (BI (BC (BG J10 J11) (BG J10 J11)) (BC (BI J10 J11) (BI J10 J11))))).length=5:=AP
  have hQ34:(BC (BI (BC (BG J10 J11) (BG J10 J11)) (BC (BI J10 J11) (BI J10 J11))) (BG (BC (BG J10 J11) (BG J10 J11)) (BC (PQ 121665#64) (BI (BC (BG J10 J11) (BG J10 J11)) (BC (BI J10 J11) (BI J10 J11)))))).length=5:=AP
  refine S_ ?_;refine B5 10 mixed K_ rfl rfl rfl ?_;refine DS ?_;refine AO (Jx (BC (BG J10 J11) (BG J10 J11)) (BC (BI J10 J11) (BI J10 J11)) AD AD) By ?_;refine DS ?_;refine AO (gv 121665#64) JW ?_;refine Dq ?_;refine AO (Jx (PQ 121665#64) (BI (BC (BG J10 J11) (BG J10 J11)) (BC (BI J10 J11) (BI J10 J11))) AD AD) By ?_;refine AO (Ze (BC (BG J10 J11) (BG J10 J11)) (BC (PQ 121665#64) (BI (BC (BG J10 J11) (BG J10 J11)) (BC (BI J10 J11) (BI J10 J11)))) AD AD) Im ?_;refine AO (Jx (BI (BC (BG J10 J11) (BG J10 J11)) (BC (BI J10 J11) (BI J10 J11))) (BG (BC (BG J10 J11) (BG J10 J11)) (BC (PQ 121665#64) (BI (BC (BG J10 J11) (BG J10 J11)) (BC (BI J10 J11) (BI J10 J11))))) AD AD) By ?_;refine Is ?_;refine FP ?_;rw [show (BC (BC (BG J10 J11) (BG J10 J11)) (BC (BI J10 J11) (BI J10 J11)))=Gv J10 J11 from rfl]
  have hX35:(Gv J10 J11).length=5:=AP
  generalize Gv J10 J11=X35 at*
  rw [show (BC (BI (BC (BG J10 J11) (BG J10 J11)) (BC (BI J10 J11) (BI J10 J11))) (BG (BC (BG J10 J11) (BG J10 J11)) (BC (PQ 121665#64) (BI (BC (BG J10 J11) (BG J10 J11)) (BC (BI J10 J11) (BI J10 J11))))))=Fe J10 J11 from rfl]
  have hX36:(Fe J10 J11).length=5:=AP
  generalize Fe J10 J11=X36 at*
  refine A1 ?_;refine EA ?_;refine Eb [4,5,6,7,8,9,10,11] (fun (zz:AA 64×AA 64×AA 64×AA 64)=>⟨115,AU [4,5,6,7,8,9,10,11] [AY 0,AY 1,AY 2,AY 3,AY 4,AY 5,AY 6,At (((254-j6:Nat):Int))],[BP (Ac 32),BP (DW key),Bb (sS (put place 31 ((nth place 31)&&&127#8))),Bb (zz.1),Bb (zz.2.1),Bb (zz.2.2.1),Bb (zz.2.2.2)]⟩) ((if ((((nth (DW key) ((254-j6)/8))>>>((254-j6)%8))&&&1#8)==1#8)=true then X28 else X35,if ((((nth (DW key) ((254-j6)/8))>>>((254-j6)%8))&&&1#8)==1#8)=true then X29 else X36,if ((((nth (DW key) ((254-j6)/8))>>>((254-j6)%8))&&&1#8)==1#8)=true then X35 else X28,if ((((nth (DW key) ((254-j6)/8))>>>((254-j6)%8))&&&1#8)==1#8)=true then X36 else X29)) rfl (fun hb=>?_) (fun hb=>?_) ?_
  ·refine S_ ?_
   refine yU ?_;refine XZ ?_;refine Nq [3] K_ (A9 rfl rfl H7 HF B7 D_) rfl ?_;refine XZ ?_;refine XZ ?_;refine Lv ?_;refine Lv ?_;refine Lv ?_;refine Lv ?_;refine eP ?_;refine S_ ?_;refine ⟨(X28,X29,X35,X36),K_,?_⟩
   (simp only [if_pos (hb)];done)
  ·refine S_ ?_
   refine ⟨(X35,X36,X28,X29),K_,?_⟩
   (simp only [hb,Bool.false_eq_true,if_false];done)
  have hJ37:(if ((((nth (DW key) ((254-j6)/8))>>>((254-j6)%8))&&&1#8)==1#8)=true then X28 else X35).length=5:=by split<;>simp [*]
  generalize (if ((((nth (DW key) ((254-j6)/8))>>>((254-j6)%8))&&&1#8)==1#8)=true then X28 else X35)=J37 at*
  have hJ38:(if ((((nth (DW key) ((254-j6)/8))>>>((254-j6)%8))&&&1#8)==1#8)=true then X29 else X36).length=5:=by split<;>simp [*]
  generalize (if ((((nth (DW key) ((254-j6)/8))>>>((254-j6)%8))&&&1#8)==1#8)=true then X29 else X36)=J38 at*
  have hJ39:(if ((((nth (DW key) ((254-j6)/8))>>>((254-j6)%8))&&&1#8)==1#8)=true then X35 else X28).length=5:=by split<;>simp [*]
  generalize (if ((((nth (DW key) ((254-j6)/8))>>>((254-j6)%8))&&&1#8)==1#8)=true then X35 else X28)=J39 at*
  have hJ40:(if ((((nth (DW key) ((254-j6)/8))>>>((254-j6)%8))&&&1#8)==1#8)=true then X36 else X29).length=5:=by split<;>simp [*]
  generalize (if ((((nth (DW key) ((254-j6)/8))>>>((254-j6)%8))&&&1#8)==1#8)=true then X36 else X29)=J40 at*
  refine A1 ?_;refine PE ?_;refine ⟨(j6+1,_),(by
   dsimp only
   rw [show ((254:Nat):Int)-((j6+1:Nat):Int)=((254-j6:Nat):Int)-1 from by omega]
   kernel_rfl),rfl⟩
 ·try dsimp only
  have hY41:(BQ key place 255).1.length=5:=by rw [S2 key place hkey hplace _];try omega
  have hY42:(BQ key place 255).2.1.length=5:=by rw [ST key place hkey hplace _];try omega
  have hY43:(BQ key place 255).2.2.1.length=5:=by rw [Ro key place hkey hplace _];try omega
  have hY44:(BQ key place 255).2.2.2.length=5:=by rw [Sz key place hkey hplace _];try omega
  generalize BQ key place 255=Z45 at*
  obtain ⟨Y41,Y42,Y43,Y44⟩:=Z45
  try dsimp only at*
  refine RU ?_;refine AR ?_;have hQ46:(dU Y42).length=5:=AP
  have hQ47:(BC Y41 (dU Y42)).length=5:=AP
  have hQ48:(qBy (BC Y41 (dU Y42))).length=32:=AP
  refine In ?_;refine DS ?_;refine AO (ACF Y42 AD) Xx ?_;refine AO (Jx Y41 (dU Y42) AD AD) By ?_;refine AO (AHG (BC Y41 (dU Y42)) AD) O9 ?_;refine BJ ?_;refine GH ?_;rw [hP.out]
  exact Ec
attribute [irreducible] ay
end Go.Proofs.YtmbepikkgkcgkaaGreatDoor
