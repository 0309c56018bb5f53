/- Merged and shortened by a program: part 11. -/
import Derived.Test.YtmbepikkgkcgkaaGreatDoorUB10
set_option maxRecDepth 100000
set_option maxHeartbeats 8000000
namespace Go.Proofs.YtmbepikkgkcgkaaGreatDoor
open Go.RowKit
variable {g r : Prop}
open Go.Proofs.Tryz
def Kl:AB 8:=put (Ag 32) 0 9#8
theorem kP:Kl.length=32:=by unfold Kl;simp
theorem bd(key:AB 8)(hkey:key.length=32):Ev prog (.call 104 [B4 key] []) (.val (B4 (QL key Kl)) []):=by
 have hl:=IZ key Kl
 have hP:=nE key Kl hkey kP
 unfold Kl at*
 generalize QL key (put (Ag 32) 0 9#8)=u at*
 refine AG func104 rfl ntmps104 rfl AH ?_;refine Bg ?_;refine EB ?_;refine H5 ?_;refine AA (Yu (l:=(put (Ag 32) 0 (9#8))) pO underlying37 Bz rfl rfl) rfl ?_;refine A7 (hP) qI ?_;refine Em ?_;exact FC
theorem eC(seed text:AB 8)(hseed:seed.length=32)(hn:text.length≤65536):Ev prog (.call 107 [B4 seed,.c (.bs text)] []) (.val (.tup [B4 (DK seed text),Ae ((0:Nat):Int)]) []):=
 Ev.partsB (m:=[]) (m':=[.row false (.a8 text)]) (N:=[]) (N':=[]) [none] [0] (.no .nil) (.agg rfl (.c (.same rfl) .nil)) (.same (.bs rfl rfl .nil)) rfl rfl (kV seed text text.length text.length hseed rfl O_ hn) rfl rfl
def T7(k:AB 8):AB 8×Nat:=(QL k Kl++H3 k,0)
def PY(k:AB 8)(q:AB 8×Nat):AB 8×Nat:=if q.2=0 then (DK k q.1++q.1,0) else ([],q.2)
def Nm(k place:AB 8)(q:AB 8×Nat):AB 8×Nat:=
 if q.2=0 then (if QL k place=Ag 32 then ([],5) else (QL k Kl++BP (S4 k place) (Ag 12) [] q.1,0)) else ([],q.2)
theorem nI(L:List Nd)(es:List (Value×C6))(N:Nat)(D:Dn)(n:Int)(a:List Int)(key:AB 8)(hkey:key.length=32):Ev prog (.call 71 [Al 0,.agg (.ac [.val (.int .i64 5),.val (.int .i64 n),.is a]),B4 key] [.row false (.ac [.ptr 1 0,.mp 2]),.row false (.ac [.sl 3 0 N N 3,.mp 4]),.row false (.mp (Ec D)),.row false (.an L),.row false (.mp es)]) (.val (.tup [.c (.bs (T7 key).1),Ae (((T7 key).2:Nat):Int)]) [.row false (.ac [.ptr 1 0,.mp 2]),.row false (.ac [.sl 3 0 N N 3,.mp 4]),.row false (.mp (Ec D)),.row false (.an L),.row false (.mp es)]):=by
 unfold T7
 have hP:=bd key hkey
 have hS:=oD key hkey
 have l1:=IZ key Kl
 have l2:=Pu key hkey
 generalize QL key Kl=u at*
 generalize H3 key=v at*
 have l3:(u++v).length=64:=by simp [l1,l2]
 dsimp only
 refine Vc ?_;refine BY ?_;refine EV ?_;refine FE ?_;refine AQ ?_;refine J3 ?_;refine Iu ?_;refine Ay ?_;refine Qn ?_;refine DS ?_;refine Am (hP) oH ?_;refine DS ?_;refine Am (hS) vx ?_;refine Ws ?_;refine JB ?_;refine Em ?_;refine KM ?_;refine G2 (np underlying23 Gb) AM rfl ?_;refine Iy ?_;refine G2 (Zr rfl rfl rfl underlying23 underlying23 Gb GG O_ AH) AM rfl ?_;refine Iy ?_;refine Bn ?_;refine Cr ?_;refine Er ?_;refine HD 6 rfl rfl l3 AM ?_;exact Ep
theorem mz(L:List Nd)(es:List (Value×C6))(N:Nat)(D:Dn)(n:Int)(a:List Int)(hD:aU D)(ha:∀x∈a,EX D x)(hlen:a.length≤400)(h1:1≤a.length)(key:AB 8)(hkey:key.length=32):Ev prog (.call 71 [Al 0,.agg (.ac [.val (.int .i64 8),.val (.int .i64 n),.is a]),B4 key] [.row false (.ac [.ptr 1 0,.mp 2]),.row false (.ac [.sl 3 0 N N 3,.mp 4]),.row false (.mp (Ec D)),.row false (.an L),.row false (.mp es)]) (.val (.tup [.c (.bs (PY key (Jm ((a.drop 1).map (As D)))).1),Ae (((PY key (Jm ((a.drop 1).map (As D)))).2:Nat):Int)]) [.row false (.ac [.ptr 1 0,.mp 2]),.row false (.ac [.sl 3 0 N N 3,.mp 4]),.row false (.mp (Ec D)),.row false (.an L),.row false (.mp es)]):=by
 have hJ:=SI L es N D (a.drop 1) hD (fun x hx=>ha x (List.mem_of_mem_drop hx)) (by rw [List.length_drop];omega)
 have hq1:=Kx ((a.drop 1).map (As D))
 generalize Jm ((a.drop 1).map (As D))=q at*
 obtain ⟨j,e⟩:=q
 dsimp only at hJ hq1 ⊢
 by_cases he:e=0
 ·subst he
  have hS:=eC key j hkey hq1
  have hs:=Ik key j hkey
  rw [show PY key (j,0)=(DK key j++j,0) from rfl]
  generalize DK key j=g at*
  have hgl:(g++j).length=64+j.length:=by simp [hs]
  dsimp only
  refine Vc ?_;refine BY ?_;refine EV ?_;refine FE ?_;refine AQ ?_;refine J3 ?_;refine Iu ?_;refine Ab ?_;refine J2 ?_;refine Ll ?_;refine Cs (Ev.val (So (l:=1) rfl rfl underlying41 N8 h1)) rfl ?_;refine Re (hJ) UK ?_;refine GQ ?_;refine FF ?_;refine AQ ?_;refine FE ?_;refine Qd ?_;refine H5 ?_;refine AR ?_;refine A7 (hS) vy ?_;refine Cx ?_;refine J0 ?_;refine Md ?_;refine Ad ?_;refine JK ?_;refine fU ?_;refine eJ ?_;refine AR ?_;refine oS rfl rfl rfl underlying23 underlying23 Gb GG GG O_ AH AM rfl ?_;refine AR ?_;refine Er ?_;refine HD 6 rfl rfl hgl AM ?_;exact Ep
 ·rw [show PY key (j,e)=([],e) by unfold PY;rw [if_neg he]]
  dsimp only
  refine Vc ?_;refine BY ?_;refine EV ?_;refine FE ?_;refine AQ ?_;refine J3 ?_;refine Iu ?_;refine Ab ?_;refine J2 ?_;refine Ll ?_;refine Cs (Ev.val (So (l:=1) rfl rfl underlying41 N8 h1)) rfl ?_;refine Re (hJ) UK ?_;refine GQ ?_;refine IM ?_;refine Er ?_;refine OK 6 rfl ?_;exact Ep
theorem lr(L:List Nd)(es:List (Value×C6))(N:Nat)(D:Dn)(n:Int)(a:List Int)(x:Nat)(hx:AX a 0=(x:Int))(hN:L.length=N)(hxN:x<N)(hD:aU D)(ha:∀x∈a,EX D x)(hlen:a.length≤400)(h2:2≤a.length)(h5:(Aa L x).k=5)(hp:32≤(As D (AX a 0)).length):
  Ev prog (.call 70 [.c (.ptr 0 0),.agg (.ac [.val (.int .i64 7),.val (.int .i64 n),.is a])] [.row false (.ac [.ptr 1 0,.mp 2]),.row false (.ac [.sl 3 0 N N 3,.mp 4]),.row false (.mp (Ec D)),.row false (.an L),.row false (.mp es)]) (.val (.tup [.c (.bs (Nm (AJ (As D (AX a 1))) ((As D (AX a 0)).take 32) (Jm ((a.drop 2).map (As D)))).1),.c (.val (.int .i64 (((Nm (AJ (As D (AX a 1))) ((As D (AX a 0)).take 32) (Jm ((a.drop 2).map (As D)))).2:Nat):Int)))]) [.row false (.ac [.ptr 1 0,.mp 2]),.row false (.ac [.sl 3 0 N N 3,.mp 4]),.row false (.mp (Ec D)),.row false (.an L),.row false (.mp es)]):=by
 have hAt:=ji L es N x hN hxN
 rw [←hx] at hAt
 unfold uI at hAt
 generalize Aa L x=y at*
 rw [h5] at hAt
 have m0:EX D (AX a 0):=ha _ (by simp [AX,show 0<a.length by omega])
 have m1:EX D (AX a 1):=ha _ (by simp [AX,show 1<a.length by omega])
 have hJ:=SI L es N D (a.drop 2) hD (fun x hx=>ha x (List.mem_of_mem_drop hx)) (by rw [List.length_drop];omega)
 have hq1:=Kx ((a.drop 2).map (As D))
 have hl1:=Oz hD (AX a 1)
 have hK:=Um (As D (AX a 1)) O_
 have hk:(AJ (As D (AX a 1))).length=32:=Ap _
 have ht:((As D (AX a 0)).take 32).length=32:=by simp;omega
 have hS:=UE (AJ (As D (AX a 1))) ((As D (AX a 0)).take 32) hk ht
 have hP:=bd (AJ (As D (AX a 1))) hk
 have l1:=IZ (AJ (As D (AX a 1))) Kl
 have hbk:=Ki (AJ (As D (AX a 1))) ((As D (AX a 0)).take 32)
 have e0:(0:Nat)<a.length:=by omega
 have e1:(1:Nat)<a.length:=by omega
 generalize Jm ((a.drop 2).map (As D))=q at*
 obtain ⟨j,e⟩:=q
 dsimp only at hJ hq1 ⊢
 by_cases he:e=0
 ·subst he
  have hA:=cX (S4 (AJ (As D (AX a 1))) ((As D (AX a 0)).take 32)) j hbk hq1
  have hal:(BP (S4 (AJ (As D (AX a 1))) ((As D (AX a 0)).take 32)) (Ag 12) [] j).length=j.length+16:=CZ _ _ _ _ hbk (A1 12)
  unfold zI Nm at*
  by_cases hz:QL (AJ (As D (AX a 1))) ((As D (AX a 0)).take 32)=Ag 32
  ·rw [if_pos hz,if_pos hz] at hS
   rw [if_pos rfl,if_pos hz]
   dsimp only
   refine Zk ?_;refine Bg ?_;refine JT ?_;refine Oj ?_;refine Is ?_;refine AE (Ai rfl (Uk _ _)) rfl ?_;refine aC ?_;refine Mm ?_;refine MQ ?_;refine Q4 ?_;refine AE (C0 rfl Bv e0) rfl ?_;refine YH (hAt) YS ?_;refine AE (VB rfl) rfl ?_;refine AE (EE (b:=5) rfl rfl) rfl ?_;refine Bn ?_;refine AZ ?_;refine J2 ?_;refine Ll ?_;refine Cs (Ev.val (So (l:=2) rfl rfl underlying41 N8 h2)) rfl ?_;refine Re (hJ) UK ?_;refine GQ ?_;refine FF ?_;refine A6 ?_;refine Oj ?_;refine Is ?_;refine WR ?_;refine We ?_;refine Mm ?_;refine MQ ?_;refine AE (VH (j:=1) rfl rfl underlying41 N8 Dw) rfl ?_;refine AE (C0 rfl Bv e1) rfl ?_;refine Rl (Iq (c:= .bs (As D (AX a 1))) underlying85 underlying3 rfl rfl rfl hD.keyed (Ih m1)) rfl ?_;refine iE (hK) XV ?_;refine G2 (BO QX AH) AM rfl ?_;refine Bn ?_;refine Em ?_;refine S7 18 16 mixed K_ K_ rfl rfl rfl ?_;refine DS ?_;refine Is ?_;refine WR ?_;refine We ?_;refine Mm ?_;refine MQ ?_;refine Q4 ?_;refine AE (C0 rfl Bv e0) rfl ?_;refine Rl (Iq (c:= .bs (As D (AX a 0))) underlying85 underlying3 rfl rfl rfl hD.keyed (Ih m0)) rfl ?_;refine ZQ ?_;refine S2 ?_;refine Sx ?_;refine Am (hS) ii ?_;refine Fi ?_;refine JB ?_;refine Ab ?_;refine IM ?_;refine Er ?_;refine OK 4 rfl ?_;exact Ep
  ·rw [if_neg hz,if_neg hz] at hS
   rw [if_pos rfl,if_neg hz]
   generalize BP (S4 (AJ (As D (AX a 1))) ((As D (AX a 0)).take 32)) (Ag 12) [] j=w at*
   generalize S4 (AJ (As D (AX a 1))) ((As D (AX a 0)).take 32)=bk at*
   generalize QL (AJ (As D (AX a 1))) Kl=u at*
   have hgl:(u++w).length=32+(j.length+16):=by simp [l1,hal]
   dsimp only
   refine Zk ?_;refine Bg ?_;refine JT ?_;refine Oj ?_;refine Is ?_;refine AE (Ai rfl (Uk _ _)) rfl ?_;refine aC ?_;refine Mm ?_;refine MQ ?_;refine Q4 ?_;refine AE (C0 rfl Bv e0) rfl ?_;refine YH (hAt) YS ?_;refine AE (VB rfl) rfl ?_;refine AE (EE (b:=5) rfl rfl) rfl ?_;refine Bn ?_;refine AZ ?_;refine J2 ?_;refine Ll ?_;refine Cs (Ev.val (So (l:=2) rfl rfl underlying41 N8 h2)) rfl ?_;refine Re (hJ) UK ?_;refine GQ ?_;refine FF ?_;refine A6 ?_;refine Oj ?_;refine Is ?_;refine WR ?_;refine We ?_;refine Mm ?_;refine MQ ?_;refine AE (VH (j:=1) rfl rfl underlying41 N8 Dw) rfl ?_;refine AE (C0 rfl Bv e1) rfl ?_;refine Rl (Iq (c:= .bs (As D (AX a 1))) underlying85 underlying3 rfl rfl rfl hD.keyed (Ih m1)) rfl ?_;refine iE (hK) XV ?_;refine G2 (BO QX AH) AM rfl ?_;refine Bn ?_;refine Em ?_;refine S7 18 16 mixed K_ K_ rfl rfl rfl ?_;refine DS ?_;refine Is ?_;refine WR ?_;refine We ?_;refine Mm ?_;refine MQ ?_;refine Q4 ?_;refine AE (C0 rfl Bv e0) rfl ?_;refine Rl (Iq (c:= .bs (As D (AX a 0))) underlying85 underlying3 rfl rfl rfl hD.keyed (Ih m0)) rfl ?_;refine ZQ ?_;refine S2 ?_;refine Sx ?_;refine Am (hS) ii ?_;refine Fi ?_;refine JB ?_;refine Ab ?_;refine FF ?_;refine H5 ?_;refine ZJ ?_;refine AR ?_;refine A7 (hA) qN ?_;refine GQ ?_;refine FF ?_;refine H5 ?_;refine A7 (hP) oH ?_;refine EC ?_;refine AQ ?_;refine LP ?_;refine AR ?_;refine Cr ?_;refine Er ?_;refine HD 4 rfl rfl hgl AM ?_;exact Ep
 ·rw [show Nm (AJ (As D (AX a 1))) ((As D (AX a 0)).take 32) (j,e)=([],e) by unfold Nm;rw [if_neg he]]
  dsimp only
  refine Zk ?_;refine Bg ?_;refine JT ?_;refine Oj ?_;refine Is ?_;refine AE (Ai rfl (Uk _ _)) rfl ?_;refine aC ?_;refine Mm ?_;refine MQ ?_;refine Q4 ?_;refine AE (C0 rfl Bv e0) rfl ?_;refine YH (hAt) YS ?_;refine AE (VB rfl) rfl ?_;refine AE (EE (b:=5) rfl rfl) rfl ?_;refine Bn ?_;refine AZ ?_;refine J2 ?_;refine Ll ?_;refine Cs (Ev.val (So (l:=2) rfl rfl underlying41 N8 h2)) rfl ?_;refine Re (hJ) UK ?_;refine GQ ?_;refine IM ?_;refine Er ?_;refine OK 4 rfl ?_;exact Ep
def vZ(Q:Nd→AB 8→Prop)(L:List Nd)(D:Dn):Prop:= ∀x,EX D x→Q (Aa L x.toNat) (As D x)
theorem vZ.snoc{Q:Nd→AB 8→Prop}{L:List Nd}{D:Dn}(h:vZ Q L D){k:Nat}{b:AB 8}(hk:¬EX D (k:Int))(hb:Q (Aa L k) b):vZ Q L (D++[((k:Int),b)]):=by
 rintro x ⟨p,hp,rfl⟩
 by_cases e:p.1=(k:Int)
 ·rw [e,cw hk,Int.toNat_natCast];exact hb
 ·rw [cx e]
  rcases List.mem_append.1 hp with hp | hp
  ·exact h _ ⟨p,hp,rfl⟩
  ·obtain rfl:=List.mem_singleton.1 hp
   exact absurd rfl e
theorem cS(Q:Nd→AB 8→Prop)(X:Nd→(Int→AB 8)→AB 8×Nat)(L:List Nd)(es:List (Value×C6))(N i:Nat)(hN:L.length=N)(hNl:N≤1048576)(hi:i<N)(hA:C2 L)
  (hQ:∀(D:Dn) (k:Nat),(k:Int)∈BF L i→vZ Q L D→(∀x∈(Aa L k).a,EX D x)→(Iv X L (As D) (Aa L k)).2=0→Q (Aa L k) (Iv X L (As D) (Aa L k)).1)
  (hX:∀(D:Dn) (k:Nat),(k:Int)∈BF L i→aU D→vZ Q L D→(∀x∈(Aa L k).a,EX D x)→VO L (Aa L k)→(X (Aa L k) (As D)).1.length≤100000∧Q6 L es N D (Aa L k) (X (Aa L k) (As D))):
  Ev prog (.call 22 [.c (.ptr 0 0),.c (.val (.int .i64 (i:Int)))] [.row false (.ac [.sl 1 0 N N 3,.mp 2]),.row false (.an L),.row false (.mp es)]) (.val (.tup [.c (.bs (BU X L i).1),.c (.val (.int .i64 (((BU X L i).2:Nat):Int)))]) [.row false (.ac [.sl 1 0 N N 3,.mp 2]),.row false (.an L),.row false (.mp es)]):=by
 have hl1:=PG L i
 have hlt:=Dr L i
 have hasc:=OM L i
 have htop:=G3 L i
 have hcl:∀k:Nat,(k:Int)∈BF L i→ ∀x∈(Aa L k).a,x∈BF L i:=fun k hk=>Hw hA O_ hk
 unfold BU
 have hBen:=om L es N i hN hNl hi hA
 generalize hall:BF L i=all at*
 clear hall
 generalize hn:all.length=n at*
 refine AG func22 rfl ntmps22 rfl AH ?_;refine AK ?_;refine G4 ?_;refine BH ?_;refine Fb (hBen) ut ?_;refine GQ ?_;refine IM ?_;refine Cs (TP) rfl ?_;refine AA (jN rfl rfl) rfl ?_;refine dz ?_;refine Ab ?_;refine KN ?_;refine RO ?_;refine DJ [0,1,8,26,27,28] (fun (zz:Nat×Dn)=>⟨58,AS [0,1,8,26,27,28] [Al 0,Ae (i:Int),Al 3,.c (.is all),Ae (n:Int),Ae (zz.1:Int)],[.row false (.ac [.sl 1 0 N N 3,.mp 2]),.row false (.an L),.row false (.mp es),.row true (.ac [.ptr 0 0,.mp 4]),.row true (.mp (Ec zz.2))]⟩) (fun zz=>n-zz.1) (fun zz=>(zz.1≤n∧aU zz.2∧vZ Q L zz.2)∧(∀x,EX zz.2 x↔x∈all.take zz.1)∧FM X L all []=FM X L (all.drop zz.1) zz.2) (0,[]) K_ ⟨⟨Nat.zero_le _,⟨List.Pairwise.nil,fun p hp=>by cases hp⟩,fun x ⟨p,hp,_⟩=>by cases hp⟩,fun x=>by simp [EX],rfl⟩ ?_
 rintro ⟨j,D⟩ ⟨⟨hj,hD,hqd⟩,hdh,hrun⟩
 dsimp only at hj hD hqd hdh hrun ⊢
 by_cases hlt':j<n
 ·obtain ⟨k,hx⟩:∃k:Nat,AX all j=(k:Int):=⟨(AX all j).toNat,by
   have h1:=hlt (AX all j) (by simp [AX,show j<all.length by omega])
   omega⟩
  have hget:all[j]'O_=(k:Int):=by rw [←hx];simp [AX,show j<all.length by omega]
  have hdrop:all.drop j=(k:Int)::all.drop (j+1):=by rw [List.drop_eq_getElem_cons O_,hget]
  have hmem:(k:Int)∈all:=by rw [←hget];exact List.getElem_mem _
  have hkN:k<N:=by have:=(hlt _ hmem).2;omega
  have hsplit:all=all.take j++(k:Int)::all.drop (j+1):=by rw [←hdrop,List.take_append_drop]
  have hp:=hasc
  rw [hsplit,List.pairwise_append] at hp
  obtain ⟨_,hp2,hp3⟩:=hp
  have hp4:=(List.pairwise_cons.1 hp2).1
  have hnot:¬EX D (k:Int):=fun h=>by
   have:=hp3 _ ((hdh _).1 h) _ List.mem_cons_self
   omega
  have ha:∀x∈(Aa L k).a,EX D x:=fun x hx=>by
   have h1:=hcl k hmem x hx
   have h2:=((hA.nd (i:=k) O_).args x hx).2
   rw [hsplit] at h1
   rcases List.mem_append.1 h1 with h1 | h1
   ·exact (hdh x).2 h1
   ·rcases List.mem_cons.1 h1 with rfl | h1
    ·omega
    ·have:=hp4 x h1;omega
  have hB:=T8 X L es N D (Aa L k) k hN hkN (hA.nd O_) (hA.small k O_) hD ha (fun h=>(hX D k hmem hD hqd ha h).2)
  have hvl:=Zn (g:=As D) (fun h=>(hX D k hmem hD hqd ha h).1) (hA.nd (i:=k) O_).kind
  have hqk:(Iv X L (As D) (Aa L k)).2=0→vZ Q L (D++[((k:Int),(Iv X L (As D) (Aa L k)).1)]):=fun h=>hqd.snoc hnot (hQ D k hmem hqd ha h)
  have hAt:=ji L es N k hN hkN
  rw [←hx] at hAt
  unfold uI at hAt
  unfold Q6 at hB
  rw [hdrop,FM.eq_2,Int.toNat_natCast] at hrun
  generalize Iv X L (As D) (Aa L k)=v at*
  generalize Aa L k=y at*
  obtain ⟨b,e⟩:=v
  dsimp only at hB hrun hvl hqk
  refine PH ?_;refine Nq ?_;refine cm ?_;refine BH ?_;refine AR ?_;refine Bh (AY (bs:=[0,1,2]) (hAt) YS K_ K_ rfl BT) AM rfl ?_;refine Bh (AY (bs:=[3,0,4,1,2]) (hB) vY K_ K_ rfl BT) AM rfl ?_;refine F1 ?_;by_cases he:e=0
  ·subst he
   rw [if_pos rfl] at hrun
   refine A9 ?_;refine FF ?_;refine AN ?_;rw [hx]
   refine A9 ?_;refine Ea ?_;refine Wh ?_;refine WM ?_;refine FZ ?_;refine ij (Rw (c:= .bs b) underlying85 underlying3 rfl rfl rfl rfl hD.keyed rfl (dJ hnot) AM) ?_;refine D7 ?_;rw [←cZ]
   refine ⟨(j+1,D++[((k:Int),b)]),K_,by show n-(j+1)<n-j;omega,⟨hlt',hD.snoc hnot hvl,hqk rfl⟩,fun x=>?_,hrun⟩
   dsimp only
   rw [List.take_succ_eq_append_getElem O_,hget,List.mem_append,List.mem_singleton,←hdh]
   constructor
   ·rintro ⟨p,hp,rfl⟩
    rcases List.mem_append.1 hp with hp | hp
    ·exact .inl ⟨p,hp,rfl⟩
    ·obtain rfl:=List.mem_singleton.1 hp
     exact .inr rfl
   ·rintro (h | rfl)
    ·exact SE h _
    ·exact QE _ _ _
  ·rw [if_neg he] at hrun
   rw [hrun,show (if (D,e).2=0 then (As (D,e).1 (i:Int),0) else ([],(D,e).2))=(([]:AB 8),e) by rw [if_neg he]]
   dsimp only
   refine A9 ?_;refine IM ?_;refine Er ?_;refine OK 4 rfl ?_;exact Ep
 ·obtain rfl:j=n:=by omega
  have hi':EX D (i:Int):=(hdh _).2 (by rw [←hn,List.take_length];exact htop)
  have hl:=Oz hD (i:Int)
  rw [hrun,←hn,List.drop_length,show FM X L [] D=(D,0) from rfl,if_pos rfl]
  rw [hn]
  dsimp only
  refine PH ?_;refine JK ?_;refine AR ?_;refine Ea ?_;refine Wh ?_;refine WM ?_;refine AR ?_;refine Cs (Iq (c:= .bs (As D (i:Int))) underlying85 underlying3 rfl rfl rfl hD.keyed (Ih hi')) rfl ?_;refine gH ?_;exact Ct
def Cz(y:Nd)(g:Int→AB 8):AB 8×Nat:=
 if y.k=5 then T7 (AJ (g (AX y.a 0))) else if y.k=8 then PY (AJ (g (AX y.a 0))) (Jm ((y.a.drop 1).map g)) else if y.k=7 then Nm (AJ (g (AX y.a 1))) ((g (AX y.a 0)).take 32) (Jm ((y.a.drop 2).map g)) else ([],0)
theorem gI(k:AB 8):(H3 (AJ k)).length=32:=Pu _ (Ap _)
theorem Sk(k:AB 8):(T7 (AJ k)).1.length=64:=by
 unfold T7;simp
theorem rS(l:List (AB 8)):(Jm l).1.length≤65536:=Kx l
theorem mG(k:AB 8)(hk:k.length=32)(q:AB 8×Nat):(PY k q).1.length=if q.2=0 then 64+q.1.length else 0:=by
 unfold PY;split<;>simp [Ik _ _ hk]
theorem lv(k p:AB 8)(q:AB 8×Nat):(Nm k p q).1.length≤48+q.1.length:=by
 unfold Nm
 split
 ·split
  ·exact Nat.zero_le _
  ·show (QL k Kl++BP (S4 k p) (Ag 12) [] q.1).length≤_
   rw [List.length_append,IZ,CZ _ _ _ _ (Ki _ _) (A1 12)];omega
 ·exact Nat.zero_le _
theorem gX(y:Nd)(g:Int→AB 8):(Cz y g).1.length≤100000:=by
 unfold Cz
 split
 ·rw [Sk];decide
 ·split
  ·rw [mG _ (Ap _)]
   have:=rS ((y.a.drop 1).map g)
   split<;>omega
  ·split
   ·have h1:=lv (AJ (g (AX y.a 1))) ((g (AX y.a 0)).take 32) (Jm ((y.a.drop 2).map g))
    have h2:=rS ((y.a.drop 2).map g)
    omega
   ·exact Nat.zero_le _
theorem Gi:mt Cz:=fun y g g' hl h=>by
 have g0:1≤y.a.length→g (AX y.a 0)=g' (AX y.a 0):=fun h1=>h _ (by simp [AX,show 0<y.a.length by omega])
 have g1:2≤y.a.length→g (AX y.a 1)=g' (AX y.a 1):=fun h1=>h _ (by simp [AX,show 1<y.a.length by omega])
 have hd:∀n,(y.a.drop n).map g=(y.a.drop n).map g':=fun n=>List.map_congr_left fun x hx=>h x (List.mem_of_mem_drop hx)
 unfold Cz
 by_cases h5:y.k=5
 ·rw [if_pos h5,if_pos h5,g0 (by rw [h5] at hl;exact hl)]
 rw [if_neg h5,if_neg h5]
 by_cases h8:y.k=8
 ·rw [if_pos h8,if_pos h8,g0 (by rw [h8] at hl;exact hl),hd]
 rw [if_neg h8,if_neg h8]
 by_cases h7:y.k=7
 ·have h2:2≤y.a.length:=by rw [h7] at hl;exact hl
  rw [if_pos h7,if_pos h7,g0 O_,g1 h2,hd]
 ·rw [if_neg h7,if_neg h7]
def wX(y:Nd)(b:AB 8):Prop:=y.k=5→b.length=64
theorem zh{L:List Nd}(es:List (Value×C6)){N:Nat}(hN:L.length=N)(hA:C2 L){D:Dn}{k:Nat}(hk:k<N)(hD:aU D)(hq:vZ wX L D)(ha:∀x∈(Aa L k).a,EX D x)(h:VO L (Aa L k)):(Cz (Aa L k) (As D)).1.length≤100000∧Q6 L es N D (Aa L k) (Cz (Aa L k) (As D)):=by
 refine ⟨gX _ _,?_⟩
 have hnd:=hA.nd (i:=k) O_
 have hlen:=hnd.len
 have hargs:=hnd.args
 have hml:=ES (Aa L k).k
 generalize Aa L k=y at*
 obtain ⟨kd,n,a⟩:=y
 dsimp only at*
 have h400:a.length≤400:=by omega
 have first:1≤a.length→AX a 0∈a:=fun h=>by simp [AX,show 0<a.length by omega]
 rcases h with h | h | ⟨h,h5⟩
 ·dsimp only at h
  subst h
  have h1:1≤a.length:=hlen.1
  rw [show Cz ⟨5,n,a⟩ (As D)=T7 (AJ (As D (AX a 0))) by simp [Cz]]
  exact Pf L es N D 5 n a _ hD (ha _ (first h1)) h1 D_ D_ D_ D_ D_ (nI L es N D n a _ (Ap _))
 ·dsimp only at h
  subst h
  have h1:1≤a.length:=hlen.1
  rw [show Cz ⟨8,n,a⟩ (As D)=PY (AJ (As D (AX a 0))) (Jm ((a.drop 1).map (As D))) by simp [Cz]]
  exact Pf L es N D 8 n a _ hD (ha _ (first h1)) h1 D_ D_ D_ D_ D_ (mz L es N D n a hD ha h400 h1 _ (Ap _))
 ·dsimp only at h h5
  subst h
  have h2:2≤a.length:=hlen.1
  have h3:=hargs _ (first O_)
  rw [show Cz ⟨7,n,a⟩ (As D)=Nm (AJ (As D (AX a 1))) ((As D (AX a 0)).take 32) (Jm ((a.drop 2).map (As D))) by simp [Cz]]
  have hp:32≤(As D (AX a 0)).length:=by rw [hq _ (ha _ (first O_)) h5];decide
  exact X0 L es N D n a _ (lr L es N D n a (AX a 0).toNat O_ hN O_ hD ha h400 h2 h5 hp)
theorem rJ(L:List Nd)(g:Int→AB 8)(y:Nd):wX y (Iv Cz L g y).1:=fun h5=>by
 have:Iv Cz L g y=Cz y g:=by
  unfold Iv
  rw [if_neg O_,if_neg O_,if_neg O_,if_neg O_,if_neg O_,if_neg O_,if_neg O_]
 rw [this]
 unfold Cz
 rw [if_pos h5]
 exact Sk _
theorem yN(L:List Nd)(es:List (Value×C6))(N i:Nat)(hN:L.length=N)(hNl:N≤1048576)(hi:i<N)(hA:C2 L):
  Ev prog (.call 22 [.c (.ptr 0 0),.c (.val (.int .i64 (i:Int)))] [.row false (.ac [.sl 1 0 N N 3,.mp 2]),.row false (.an L),.row false (.mp es)]) (.val (.tup [.c (.bs (BU Cz L i).1),.c (.val (.int .i64 (((BU Cz L i).2:Nat):Int)))]) [.row false (.ac [.sl 1 0 N N 3,.mp 2]),.row false (.an L),.row false (.mp es)]):=
 cS wX Cz L es N i hN hNl hi hA (fun D k _ _ _ _=>rJ _ _ _) (fun D k hk hD hq ha h=>zh es hN hA (by have:=(Dr L i _ hk).2;omega) hD hq ha h)
theorem cj(a:List Int)(ha:a.length≤1000000):Ev prog (.call 47 [.c (.is a)] []) (.val (.c (.sl 0 0 a.length a.length 1)) [.row true (.ai a)]):=by
 refine AG func47 rfl ntmps47 rfl AH ?_;refine QM ?_;refine BH ?_;refine BE (tj rfl rfl underlying41 underlying41 QK GG O_ AH) AM rfl ?_;exact B6
theorem rt{a b:List Int}(hl:a.length=b.length):a=b↔ ∀i,i<a.length→AX a i=AX b i:=by
 constructor
 ·rintro rfl i _;rfl
 ·intro h
  refine List.ext_getElem hl fun i h1 h2=>?_
  have:=h i h1
  simpa [AX,h1,h2] using this
theorem fi(k:r)(h:Hid r→g:=by intro h;refine AE (DI rfl rfl underlying41 N8 O_) rfl ?_;exact h.out):g:=h ⟨k⟩
theorem jA(a b:List Int)(n m c d:Nat)(hn:a.length=n)(hm:b.length=m)(hnl:n≤1000000)(hml:m≤1000000):Ev prog (.call 49 [.c (.sl 0 0 n c 1),.c (.sl 1 0 m d 1)] [.row false (.ai a),.row false (.ai b)]) (.val (.c (.val (.bool (decide (a=b))))) [.row false (.ai a),.row false (.ai b)]):=by
 by_cases hl:n=m
 ·subst hl
  refine AG func49 rfl ntmps49 rfl AH ?_;refine Im ?_;refine H1 ?_;refine AR ?_;refine H1 ?_;refine Lc ?_;refine AQ ?_;refine Ay ?_;refine DJ [0,1,5] (fun (j:Nat)=>⟨26,AS [0,1,5] [.c (.sl 0 0 n c 1),.c (.sl 1 0 n d 1),Ae (j:Int)],[.row false (.ai a),.row false (.ai b)]⟩) (fun j=>n-j) (fun j=>j≤n∧ ∀i,i<j→AX a i=AX b i) 0 K_ ⟨Nat.zero_le _,fun i hi=>absurd hi (Nat.not_lt_zero i)⟩ ?_
  rintro j ⟨hj,hB⟩
  by_cases hlt:j<n
  ·refine S_ ?_
   refine Cj ?_;refine AR ?_;refine H1 ?_;refine SN ?_;refine II ?_;refine Bt ?_;refine fi ?_;refine AE (JZ rfl rfl Bv Dw) rfl ?_;refine Bt ?_;refine fi ?_;refine AE (JZ rfl rfl Bv Dw) rfl ?_;refine AE (WJ rfl rfl) rfl ?_;refine Gw ?_;by_cases hc:AX a j=AX b j
   ·refine Bu rfl (by simp [hc]) ?_
    refine A9 ?_;refine Cl ?_;refine ⟨j+1,K_,by show n-(j+1)<n-j;omega,by omega,fun i hi=>?_⟩
    rcases (by omega:i<j∨i=j) with h | rfl
    ·exact hB i h
    ·exact hc
   ·refine Ef rfl (by simp [hc]) ?_
    rw [show decide (a=b)=false from decide_eq_false (fun h=>hc (by rw [h]))]
    refine AK ?_;exact B6
  ·obtain rfl:j=n:=by omega
   rw [show decide (a=b)=true from decide_eq_true ((rt O_).2 (by rw [hn];exact hB))]
   refine Ar ?_;refine H1 ?_;refine DF ?_;exact Gc
 ·rw [show decide (a=b)=false from decide_eq_false (fun h=>hl (by rw [←hn,←hm,h]))]
  refine AG func49 rfl ntmps49 rfl AH ?_;refine Im ?_;refine H1 ?_;refine AR ?_;refine H1 ?_;refine Lc ?_;exact Gc
theorem LY(k:r)(h:Hid r→g:=by intro h;refine AG func72 rfl ntmps72 rfl AH ?_;exact h.out):g:=h ⟨k⟩
theorem LJ(k:r)(h:Hid r→g:=by intro h;refine AA (Fd (b:=400) rfl rfl) rfl ?_;exact h.out):g:=h ⟨k⟩
theorem Ju(k:r)(h:Hid r→g:=by intro h;refine AA (Cm (b:=0) rfl rfl) rfl ?_;exact h.out):g:=h ⟨k⟩
theorem Vi(k:Int)(n:Nat)(hk:1≤k∧k≤9)(hn:n≤1000000):Ev prog (.call 72 [Ae k,Ae (n:Int)] []) (.val (.c (.val (.bool (decide (CK k≤n∧n≤Eb k))))) []):=by
 have hml:=ES k
 by_cases h400:400<n
 ·rw [show decide (CK k≤n∧n≤Eb k)=false from decide_eq_false O_]
  refine LY ?_;refine Im ?_;refine LJ ?_;exact Gc
 clear hml
 rcases (by omega:k=1∨k=2∨k=3∨k=4∨k=5∨k=6∨k=7∨k=8∨k=9) with rfl | rfl | rfl | rfl | rfl | rfl | rfl | rfl | rfl
 ·rw [show decide (CK 1≤n∧n≤Eb 1)=decide (n=0) from decide_eq_decide.2 (by show 0≤n∧n≤0↔n=0;omega)]
  refine LY ?_;refine Im ?_;refine LJ ?_;refine AZ ?_;refine oF ?_;refine Ab ?_;refine Ju ?_;exact B6
 ·rw [show decide (CK 2≤n∧n≤Eb 2)=decide (n=0) from decide_eq_decide.2 (by show 0≤n∧n≤0↔n=0;omega)]
  refine LY ?_;refine Im ?_;refine LJ ?_;refine AZ ?_;refine H4 ?_;refine Ab ?_;refine Ju ?_;exact B6
 ·rw [show decide (CK 3≤n∧n≤Eb 3)=true from decide_eq_true ⟨Nat.zero_le _,by show n≤400;omega⟩]
  refine LY ?_;refine Im ?_;refine LJ ?_;refine AZ ?_;refine H4 ?_;refine Ad ?_;refine J3 ?_;refine Iu ?_;refine Ad ?_;refine Qd ?_;refine Ad ?_;refine Vn ?_;refine Ad ?_;refine VE ?_;refine Ad ?_;exact B6
 ·rw [show decide (CK 4≤n∧n≤Eb 4)=decide (n=1) from decide_eq_decide.2 (by show 1≤n∧n≤1↔n=1;omega)]
  refine LY ?_;refine Im ?_;refine LJ ?_;refine AZ ?_;refine H4 ?_;refine Ad ?_;refine AA (Cm (b:=4) rfl rfl) rfl ?_;refine Ab ?_;refine AA (Cm (b:=1) rfl rfl) rfl ?_;exact B6
 ·rw [show decide (CK 5≤n∧n≤Eb 5)=decide (n=1) from decide_eq_decide.2 (by show 1≤n∧n≤1↔n=1;omega)]
  refine LY ?_;refine Im ?_;refine LJ ?_;refine AZ ?_;refine H4 ?_;refine Ad ?_;refine J3 ?_;refine Iu ?_;refine Ab ?_;refine AA (Cm (b:=1) rfl rfl) rfl ?_;exact B6
 ·rw [show decide (CK 6≤n∧n≤Eb 6)=decide (1≤n) from decide_eq_decide.2 (by show 1≤n∧n≤400↔1≤n;omega)]
  refine LY ?_;refine Im ?_;refine LJ ?_;refine AZ ?_;refine H4 ?_;refine Ad ?_;refine J3 ?_;refine Iu ?_;refine Ad ?_;refine Qd ?_;refine Ab ?_;refine AA (Mn (b:=1) rfl rfl) rfl ?_;exact B6
 ·rw [show decide (CK 7≤n∧n≤Eb 7)=decide (2≤n) from decide_eq_decide.2 (by show 2≤n∧n≤400↔2≤n;omega)]
  refine LY ?_;refine Im ?_;refine LJ ?_;refine AZ ?_;refine H4 ?_;refine Ad ?_;refine J3 ?_;refine Iu ?_;refine Ad ?_;refine Qd ?_;refine Ad ?_;refine Vn ?_;refine Ad ?_;refine VE ?_;refine Ab ?_;refine AA (Mn (b:=2) rfl rfl) rfl ?_;exact B6
 ·rw [show decide (CK 8≤n∧n≤Eb 8)=decide (1≤n) from decide_eq_decide.2 (by show 1≤n∧n≤400↔1≤n;omega)]
  refine LY ?_;refine Im ?_;refine LJ ?_;refine AZ ?_;refine H4 ?_;refine Ad ?_;refine J3 ?_;refine Iu ?_;refine Ad ?_;refine Qd ?_;refine Ad ?_;refine Vn ?_;refine Ab ?_;refine AA (Mn (b:=1) rfl rfl) rfl ?_;exact B6
 ·rw [show decide (CK 9≤n∧n≤Eb 9)=true from decide_eq_true ⟨Nat.zero_le _,by show n≤400;omega⟩]
  refine LY ?_;refine Im ?_;refine LJ ?_;refine AZ ?_;refine H4 ?_;refine Ad ?_;refine J3 ?_;refine Iu ?_;refine Ad ?_;refine Qd ?_;refine Ad ?_;refine Vn ?_;refine Ad ?_;refine VE ?_;refine Ad ?_;exact B6
theorem pC(a b:List Int)(hn:a.length≤1000000)(hm:b.length≤1000000):Ev prog (.call 49 [.c (.is a),.c (.is b)] []) (.val (.c (.val (.bool (decide (a=b))))) []):=
 Ev.partsB (m:=[]) (m':=[.row false (.ai a),.row false (.ai b)]) (N:=[]) (N':=[]) [none,none] [0,1] (.no (.no .nil)) (.c (.same rfl) (.c (.same rfl) .nil)) (.is rfl rfl (.is rfl rfl .nil)) rfl rfl (jA a b a.length b.length a.length b.length rfl rfl hn hm) rfl rfl
theorem mY(a b:List Int)(n c:Nat)(ha:a.length=n)(hn:n≤1000000)(hm:b.length≤1000000):Ev prog (.call 49 [.c (.sl 0 0 n c 1),.c (.is b)] [.row false (.ai a)]) (.val (.c (.val (.bool (decide (a=b))))) [.row false (.ai a)]):=
 Ev.partsB (m:=[.row false (.ai a)]) (m':=[.row false (.ai a),.row false (.ai b)]) (N:=[]) (N':=[]) [some (0,0),none] [1] (.all rfl rfl (.no .nil)) (.c (.sl rfl rfl) (.c (.same rfl) .nil)) (.same (.is rfl rfl .nil)) rfl rfl (jA a b n b.length c b.length ha rfl hn hm) rfl rfl
def Gf(a:List Int)(n:Nat):List Int:=a.map fun x=>if 0<n∧0≤x then x%(n:Int) else x
theorem Si(a:List Int)(n:Nat):(Gf a n).length=a.length:=by simp [Gf]
theorem K3(k:r)(h:Hid r→g:=by intro h;refine AA (nr rfl underlying41 rfl) rfl ?_;refine AA (BA rfl rfl) rfl ?_;exact h.out):g:=h ⟨k⟩
theorem ge(a:List Int)(n:Nat)(ha:a.length≤1000000)(_hn:n≤1000000)(hr:∀x∈a,-9223372036854775808≤x∧x≤9223372036854775807):Ev prog (.call 32 [.c (.is a),Ae (n:Int)] []) (.val (.c (.sl 0 0 a.length a.length 1)) [.row true (.ai (Gf a n))]):=by
 obtain ⟨l,hl⟩:∃l,l=a.length:=⟨_,rfl⟩
 have hsl:(Gf a n).length=l:=by rw [Si,hl]
 have hget:∀j (h:j<l),(Gf a n)[j]'O_=if 0<n∧0≤AX a j then AX a j%(n:Int) else AX a j:=fun j h=>by
  simp [Gf,AX,show j<a.length by omega]
 have hstep:∀j,j<l→(Gf a n).take j++[if 0<n∧0≤AX a j then AX a j%(n:Int) else AX a j]=(Gf a n).take (j+1):=fun j h=>by
  rw [List.take_succ_eq_append_getElem O_,hget j h]
 have htl:∀j,j≤l→((Gf a n).take j).length=j:=fun j h=>by rw [List.length_take];omega
 refine AG func32 rfl ntmps32 rfl AH ?_;refine QM ?_;refine Ad ?_;refine Bc ?_;refine Q_ ?_;refine FP 5 1 (.ai []) rfl rfl AH rfl ?_;refine S_ ?_;refine DJ [0,1,5,6] (fun (j:Nat)=>⟨32,AS [0,1,5,6] [.c (.is a),Ae (n:Int),.c (.sl 0 0 j j 1),Ae (j:Int)],[.row true (.ai ((Gf a n).take j))]⟩) (fun j=>l-j) (fun j=>j≤l) 0 K_ (Nat.zero_le _) ?_
 intro j hj
 by_cases hlt:j<l
 ·have hs:=hstep j hlt
  have ht:=htl j hj
  have hja:j<a.length:=by omega
  generalize (Gf a n).take j=T at*
  generalize (Gf a n).take (j+1)=T' at*
  refine Ar ?_;refine K3 ?_;refine Df ?_;refine Nq ?_;refine cm ?_;refine Bc ?_;by_cases hn0:0<n
  ·by_cases hx:0≤AX a j
   ·rw [if_pos ⟨hn0,hx⟩] at hs
    obtain ⟨m,hm⟩:∃m:Nat,AX a j=(m:Int):=⟨(AX a j).toNat,by omega⟩
    have hmb:=(hr (AX a j) (by simp [AX,hja])).2
    rw [hm] at hs hmb ⊢
    rw [show (m:Int)%(n:Int)=((m%n:Nat):Int) from rfl] at hs
    refine A9 ?_;refine NC ?_;refine BJ ?_;refine R1 ?_;refine Cg ?_;refine Df ?_;refine AA (HM rfl rfl O_ O_) rfl ?_;refine BH ?_;refine Nu ?_;refine bw ?_;refine Bc ?_;rw [hs]
    refine A9 ?_;refine Cl ?_;exact ⟨j+1,K_,by show l-(j+1)<l-j;omega,hlt⟩
   ·rw [if_neg (fun h=>hx h.2)] at hs
    generalize AX a j=x at*
    refine A9 ?_;refine NC ?_;refine BJ ?_;refine QP ?_;refine Cg ?_;refine FA ?_;refine Bu rfl (decide_eq_false hx) ?_;refine Ar ?_;refine Nu ?_;refine bw ?_;refine Bc ?_;rw [hs]
    refine A9 ?_;refine Cl ?_;exact ⟨j+1,K_,by show l-(j+1)<l-j;omega,hlt⟩
  ·rw [if_neg (fun h=>hn0 h.1)] at hs
   generalize AX a j=x at*
   refine A9 ?_;refine NC ?_;refine GN ?_;refine CQ ?_;refine Df ?_;refine Nu ?_;refine bw ?_;refine Bc ?_;rw [hs]
   refine A9 ?_;refine Cl ?_;exact ⟨j+1,K_,by show l-(j+1)<l-j;omega,hlt⟩
 ·obtain rfl:j=l:=by omega
  have e:(Gf a n).take j=Gf a n:=List.take_of_length_le O_
  rw [e,←hl]
  clear hget hstep htl e
  generalize Gf a n=T at*
  refine Ar ?_;refine K3 ?_;refine AZ ?_;exact B6
def pZ(a:List Int)(j:Nat):List Int:=List.replicate j (-7777)++a.drop j
theorem uH(a:List Int)(j:Nat)(h:j≤a.length):(pZ a j).length=a.length:=by unfold pZ;simp;omega
theorem tK(a:List Int)(j:Nat)(h:j<a.length):XF (pZ a j) j (-7777)=pZ a (j+1):=by
 unfold pZ XF
 refine List.ext_getElem (by simp;omega) fun i h1 h2=>?_
 rw [List.getElem_set]
 by_cases e:j=i
 ·subst e
  rw [if_pos rfl,List.getElem_append_left (by simp)]
  simp
 ·rw [if_neg e]
  by_cases hi:i<j
  ·rw [List.getElem_append_left (by simp;omega),List.getElem_append_left (by simp;omega)];simp
  ·rw [List.getElem_append_right (by simp;omega),List.getElem_append_right (by simp;omega)]
   simp only [List.length_replicate,List.getElem_drop]
   congr 1;omega
theorem TM(a:List Int)(n cap:Nat)(ha:a.length=n)(hn:n≤1000000):Ev prog (.call 50 [.c (.sl 0 0 n cap 1)] [.row true (.ai a)]) (.val (.tup []) [.row true (.ai (List.replicate n (-7777)))]):=by
 subst ha
 have h0:pZ a 0=a:=by simp [pZ]
 have hE:pZ a a.length=List.replicate a.length (-7777):=by simp [pZ]
 refine AG func50 rfl ntmps50 rfl AH ?_;refine AK ?_;refine Ay ?_;refine DJ [0,2] (fun (j:Nat)=>⟨12,AS [0,2] [.c (.sl 0 0 a.length cap 1),Ae (j:Int)],[.row true (.ai (pZ a j))]⟩) (fun j=>a.length-j) (fun j=>j≤a.length) 0 (by rw [h0];kernel_rfl) (Nat.zero_le _) ?_
 intro j hj
 have hl:=uH a j hj
 by_cases hlt:j<a.length
 ·have hs:=tK a j hlt
  generalize pZ a j=T at*
  refine Ar ?_;refine H1 ?_;refine DF ?_;refine Df ?_;refine rH ?_;refine pE rfl rfl rfl N8 Dw AM ?_;refine AN ?_;rw [hs]
  refine A9 ?_;refine Cl ?_;exact ⟨j+1,K_,by show a.length-(j+1)<a.length-j;omega,hlt⟩
 ·obtain rfl:j=a.length:=by omega
  rw [hE] at hl ⊢
  generalize List.replicate a.length (-7777:Int)=T at*
  refine Ar ?_;refine H1 ?_;refine SN ?_;exact wl (by (exact .inl rfl)) (by (kernel_rfl))
theorem VN(x y:Nd)(hx:x.a.length≤1000000)(hy:y.a.length≤1000000):Ev prog (.call 74 [uI x,uI y] []) (.val (.c (.val (.bool (V2 x y)))) []):=by
 obtain ⟨k,n,a⟩:=x
 obtain ⟨k',n',a'⟩:=y
 unfold uI V2
 dsimp only at hx hy ⊢
 by_cases hk:k=k'
 ·by_cases hn:n=n'
  ·subst hk hn
   rw [show (k==k&&n==n&&decide (a=a'))=decide (a=a') by simp]
   refine AG func74 rfl ntmps74 rfl AH ?_;refine BY ?_;refine Ad ?_;refine FE ?_;refine FE ?_;refine Hn ?_;refine FS ?_;refine Tl ?_;refine BR ?_;refine S1 ?_;refine BR ?_;refine Tl ?_;refine BR ?_;refine S1 ?_;refine BR ?_;refine Hn ?_;refine Cg ?_;refine FS ?_;refine J2 ?_;refine BR ?_;refine Ll ?_;refine BR ?_;refine J2 ?_;refine BR ?_;refine Ll ?_;refine BR ?_;refine Fb (pC a a' hx hy) iw ?_;refine Cg ?_;exact B6
  ·rw [show (k==k'&&n==n'&&decide (a=a'))=false by simp [hn]]
   subst hk
   refine AG func74 rfl ntmps74 rfl AH ?_;refine BY ?_;refine Ad ?_;refine FE ?_;refine FE ?_;refine Hn ?_;refine FS ?_;refine Tl ?_;refine BR ?_;refine S1 ?_;refine BR ?_;refine Tl ?_;refine BR ?_;refine S1 ?_;refine BR ?_;refine Hn ?_;refine Cg ?_;refine GN ?_;refine G5 ?_;refine N5 Cv rfl ?_;refine CQ ?_;exact B6
 ·rw [show (k==k'&&n==n'&&decide (a=a'))=false by simp [hk]]
  refine AG func74 rfl ntmps74 rfl AH ?_;refine BY ?_;refine Ad ?_;refine FE ?_;refine FE ?_;refine Hn ?_;refine GN ?_;refine G5 ?_;refine N5 Cv rfl ?_;refine CQ ?_;refine GN ?_;refine G5 ?_;refine N5 Cv rfl ?_;refine CQ ?_;exact B6
theorem WB(k:r)(h:Hid r→g:=by intro h;refine AE (VH rfl rfl underlying41 N8 Dw) rfl ?_;exact h.out):g:=h ⟨k⟩
theorem VV(k:r)(h:Hid r→g:=by intro h;refine AE (C0 rfl Bv Dw) rfl ?_;exact h.out):g:=h ⟨k⟩
theorem OZ(k:r)(h:Hid r→g:=by intro h;refine AE (Af rfl) rfl ?_;refine Je Cv ?_;exact h.out):g:=h ⟨k⟩
theorem PI(k:r)(h:Hid r→g:=by intro h;refine AE (Ai rfl (Uz _ _)) rfl ?_;exact h.out):g:=h ⟨k⟩
theorem ZR(L:List Nd)(N:Nat)(a:List Int)(m:Nat)(_hN:L.length=N)(_hNl:N≤2000000)(hm:a.length=m)(hml:m≤1000000):
  Ev prog (.call 73 [.c (.ptr 0 0),.c (.is a)] [.row false (.ac [.sl 1 0 N N 3]),.row false (.an L)])
   (.val (.c (.val (.bool (hasB N a)))) [.row false (.ac [.sl 1 0 N N 3]),.row false (.an L)]):=by
 refine AG func73 rfl ntmps73 rfl AH ?_;refine QM ?_;refine Ay ?_;refine DJ [0,1,5] (fun (j:Nat)=>⟨29,AS [0,1,5] [Al 0,.c (.is a),Ae (j:Int)],[.row false (.ac [.sl 1 0 N N 3]),.row false (.an L)]⟩) (fun j=>m-j) (fun j=>j≤m∧hasB N a=hasB N (a.drop j)) 0 K_ ⟨Nat.zero_le _,by rw [List.drop_zero]⟩ ?_
 rintro j ⟨hj,hB⟩
 by_cases hlt:j<m
 ·rw [XP O_] at hB
  refine Ar ?_;refine K3 ?_;refine AN ?_;have hg:AX a j=AX a j:=rfl
  generalize hx:AX a j=x at hB
  by_cases h1:x<0
  ·rw [show hasB N a=false by rw [hB];simp;omega]
   refine S_ ?_;refine ZD ?_;refine Bt ?_;refine WB ?_;refine VV ?_;refine AE (S8 rfl rfl) rfl ?_;refine Ah ?_;refine Jx Cv ?_;refine Jx Cv ?_;refine Jx Cv ?_;refine Jx Cv ?_;refine Jx Cv ?_;refine Jx Cv ?_;refine Jx Cv ?_;refine Jx Cv ?_;refine Jx Cv ?_;refine Jx Cv ?_;refine AE (JU rfl dj rfl) rfl ?_;refine Bn ?_;exact Gc
  ·by_cases h2:(N:Int)≤x
   ·rw [show hasB N a=false by rw [hB];simp;omega]
    refine S_ ?_;refine ZD ?_;refine Bt ?_;refine WB ?_;refine VV ?_;refine AE (S8 rfl rfl) rfl ?_;refine OZ ?_;refine OZ ?_;refine OZ ?_;refine WB ?_;refine Je Cv ?_;refine VV ?_;refine Je Cv ?_;refine OZ ?_;refine AE (HA rfl) rfl ?_;refine Je Cv ?_;refine PI ?_;refine Je Cv ?_;refine QT ?_;refine Je Cv ?_;refine YD ?_;refine Je Cv ?_;refine AE (ek rfl rfl) rfl ?_;refine Q1 ?_;refine Bn ?_;exact Gc
   ·refine S_ ?_
    refine ZD ?_;refine Bt ?_;refine WB ?_;refine VV ?_;refine AE (S8 rfl rfl) rfl ?_;refine OZ ?_;refine OZ ?_;refine OZ ?_;refine WB ?_;refine Je Cv ?_;refine VV ?_;refine Je Cv ?_;refine OZ ?_;refine AE (HA rfl) rfl ?_;refine Je Cv ?_;refine PI ?_;refine Je Cv ?_;refine QT ?_;refine Je Cv ?_;refine YD ?_;refine Je Cv ?_;refine AE (ek rfl rfl) rfl ?_;refine Q1 ?_;refine Bn ?_;refine AZ ?_;refine Cl ?_;refine ⟨j+1,K_,by show m-(j+1)<m-j;omega,by omega,?_⟩
    rw [hB,show (decide (0≤x)&&decide (x<(N:Int)))=true by simp;omega,Bool.true_and]
 ·obtain rfl:j=m:=by omega
  rw [show hasB N a=true by rw [hB,←hm,List.drop_length];rfl]
  refine Ar ?_;refine K3 ?_;exact Gc
theorem Yi{L:List Nd}{x:Nd}{i:Nat}(h:F2 L x=some i):∀q,q<i→V2 (Aa L q) x=false:=by
 unfold F2 at h
 obtain ⟨hi,_,h2⟩:=List.findIdx?_eq_some_iff_getElem.1 h
 intro q hq
 have:=h2 q hq
 have e:Aa L q=L[q]:=by unfold Aa;rw [List.getD_eq_getElem?_getD,List.getElem?_eq_getElem O_];rfl
 rw [e]
 simpa using this
theorem Ms(k:r)(h:Hid r→g:=by intro h;refine AA (EE (b:=1) rfl rfl) rfl ?_;exact h.out):g:=h ⟨k⟩
theorem Td(k:r)(h:Hid r→g:=by intro h;refine AA (EE (b:=2) rfl rfl) rfl ?_;exact h.out):g:=h ⟨k⟩
theorem ri(L:List Nd)(N:Nat)(k n:Int)(a:List Int)(m:Nat)(_hA:C2 L)(hN:L.length=N)(hNl:N≤1000000)(hm:a.length=m)(hml:m≤1000)(he:Bl N k n a≠0):Ev prog (.call 48 [Al 0,Ae k,Ae n,.c (.is a)] [.row true (.ac [.sl 1 0 N N 3]),.row true (.an L)]) (.val (.tup [Ae ((0:Nat):Int),Ae ((Bl N k n a:Nat):Int)]) [.row true (.ac [.sl 1 0 N N 3]),.row true (.an L)]):=by
 refine AG func48 rfl ntmps48 rfl AH ?_;refine AK ?_;refine JT ?_;by_cases c1:k<1∨9<k
 ·rw [show Bl N k n a=6 by unfold Bl;rw [if_pos c1]]
  by_cases c2:k<1
  ·refine S_ ?_
   refine Cj ?_;refine V3 ?_;refine Dl ?_;refine AQ ?_;exact Ct
  ·refine S_ ?_
   refine Cj ?_;refine Dh ?_;refine CQ ?_;refine AQ ?_;exact Ct
 rw [not_or] at c1
 refine A9 ?_;refine Dh ?_;refine GY ?_;by_cases c2:n<0∨(0<n∧DY k=false)
 ·rw [show Bl N k n a=1 by unfold Bl;rw [if_neg O_,if_pos c2]]
  by_cases c3:n<0
  ·refine S_ ?_
   refine Cj ?_;refine V3 ?_;refine GN ?_;refine G5 ?_;refine G5 ?_;refine G5 ?_;refine G5 ?_;refine G5 ?_;refine G5 ?_;refine Cg ?_;refine AQ ?_;exact Ct
  ·have c4:0<n∧DY k=false:=c2.resolve_left c3
   have c5:=c4.1
   have c6:k≠1∧k≠2∧k≠4:=by have:=c4.2;simp [DY] at this;omega
   obtain ⟨c7,c8,c9⟩:=c6
   refine A9 ?_;refine Dh ?_;refine E4 ?_;refine AA (WJ rfl rfl) rfl ?_;refine E5 ?_;refine E4 ?_;refine AA (WJ rfl rfl) rfl ?_;refine E5 ?_;refine E4 ?_;refine AA (WJ rfl rfl) rfl ?_;refine E5 ?_;refine CQ ?_;refine AQ ?_;exact Ct
 have c2n:¬n<0:=fun h=>c2 (.inl h)
 refine S_ ?_;refine GD [0,1,2,3,35] (fun (q:Bool)=>⟨93,AS [0,1,2,3,35] [Al 0,Ae k,Ae n,.c (.is a),.c (.val (.bool q))],[.row true (.ac [.sl 1 0 N N 3]),.row true (.an L)]⟩) false ?_ ?_
 ·by_cases c3:0<n
  ·have c4:DY k=true:=by cases hq:DY k with
    |true=>rfl
    |false=>exact absurd (Or.inr ⟨c3,hq⟩) c2
   have c5:k=1∨k=2∨k=4:=by simp [DY] at c4;omega
   rcases c5 with rfl | rfl | rfl
   ·refine S_ ?_
    refine Cj ?_;refine Dh ?_;refine E4 ?_;refine Ms ?_;refine E5 ?_;refine GO ?_;refine GO ?_;refine GY ?_;exact ⟨false,K_,rfl⟩
   ·refine S_ ?_
    refine Cj ?_;refine Dh ?_;refine E4 ?_;refine Ms ?_;refine E5 ?_;refine E4 ?_;refine Td ?_;refine E5 ?_;refine GO ?_;refine GY ?_;exact ⟨false,K_,rfl⟩
   ·refine S_ ?_
    refine Cj ?_;refine Dh ?_;refine E4 ?_;refine Ms ?_;refine E5 ?_;refine E4 ?_;refine Td ?_;refine E5 ?_;refine E4 ?_;refine AA (EE (b:=4) rfl rfl) rfl ?_;refine E5 ?_;refine GY ?_;exact ⟨false,K_,rfl⟩
  ·refine S_ ?_
   refine Cj ?_;refine Dh ?_;refine GO ?_;refine GO ?_;refine GO ?_;refine GY ?_;exact ⟨false,K_,rfl⟩
 have ml:=ES k
 refine Ar ?_;refine KN ?_;refine Fb (Vi k a.length O_ O_) qZ ?_;refine Rr ?_;by_cases c5:a.length<CK k∨Eb k<a.length
 ·rw [show Bl N k n a=2 by unfold Bl;rw [if_neg O_,if_neg c2,if_pos c5]]
  refine Ef rfl (by rw [decide_eq_false O_];rfl) ?_
  refine AK ?_;exact Ct
 rw [not_or] at c5
 refine Bu rfl (by rw [decide_eq_true O_];rfl) ?_
 have c7:hasB N a=false:=by
  cases hq:hasB N a with
  |false=>rfl
  |true=>exact absurd (by unfold Bl;rw [if_neg O_,if_neg c2,if_neg O_,if_neg (by rw [hq];simp)]) he
 rw [show Bl N k n a=8 by unfold Bl;rw [if_neg O_,if_neg c2,if_neg O_,if_pos c7]]
 refine Ar ?_;refine VZ (ZR L N a m hN O_ hm O_) qS ?_;refine Rr ?_;refine Ef rfl (by rw [c7];rfl) ?_
 refine AK ?_;exact Ct
theorem Jy(k:r)(h:Hid r→g:=by intro h;refine AA (Ai rfl (Uz _ _)) rfl ?_;exact h.out):g:=h ⟨k⟩
theorem ZU(k:r)(h:Hid r→g:=by intro h;refine AE (TU rfl rfl underlying53 Ly O_) rfl ?_;exact h.out):g:=h ⟨k⟩
theorem mw(L:List Nd)(N:Nat)(k n:Int)(a:List Int)(m:Nat)(hA:C2 L)(hN:L.length=N)(hNl:N≤1000000)(hm:a.length=m)(hml:m≤1000)(he:Bl N k n a=0)(i:Nat)(hf:F2 L ⟨k,n,a⟩=some i):Ev prog (.call 48 [Al 0,Ae k,Ae n,.c (.is a)] [.row true (.ac [.sl 1 0 N N 3]),.row true (.an L)]) (.val (.tup [Ae ((i:Nat):Int),Ae ((0:Nat):Int)]) [.row true (.ac [.sl 1 0 N N 3]),.row true (.an L)]):=by
 have hargs:∀j,j<N→(Aa L j).a.length≤1000000:=fun j h=>by have h1:=(In (hA.ok j O_)).len;have h2:=ES (Aa L j).k;dsimp only at h1;omega
 obtain ⟨hi,hx⟩:=Mz hf
 have hb:=Yi hf
 have hok:=In he
 have c1:=hok.kind
 dsimp only at c1
 have c2:¬(n<0∨(0<n∧DY k=false)):=by
  have h3:=hok.num
  dsimp only at h3
  rintro (h | ⟨h,h2⟩)
  ·omega
  ·rw [h3.2 h] at h2;cases h2
 have c2n:¬n<0:=fun h=>c2 (.inl h)
 have c5:=hok.len
 dsimp only at c5
 have ml:=ES k
 have c7:hasB N a=true:=by
  cases hq:hasB N a with
  |true=>rfl
  |false=>revert he;unfold Bl;rw [if_neg O_,if_neg c2,if_neg O_,if_pos hq];intro h;cases h
 refine AG func48 rfl ntmps48 rfl AH ?_;refine JQ ?_;refine Dh ?_;refine CQ ?_;refine A6 ?_;refine GD [0,1,2,3,35] (fun (q:Bool)=>⟨93,AS [0,1,2,3,35] [Al 0,Ae k,Ae n,.c (.is a),.c (.val (.bool q))],[.row true (.ac [.sl 1 0 N N 3]),.row true (.an L)]⟩) false ?_ ?_
 ·by_cases c3:0<n
  ·have c4:DY k=true:=by cases hq:DY k with
    |true=>rfl
    |false=>exact absurd (Or.inr ⟨c3,hq⟩) c2
   have c5:k=1∨k=2∨k=4:=by simp [DY] at c4;omega
   rcases c5 with rfl | rfl | rfl
   ·refine S_ ?_
    refine Cj ?_;refine Dh ?_;refine E4 ?_;refine Ms ?_;refine E5 ?_;refine GO ?_;refine GO ?_;refine GY ?_;exact ⟨false,K_,rfl⟩
   ·refine S_ ?_
    refine Cj ?_;refine Dh ?_;refine E4 ?_;refine Ms ?_;refine E5 ?_;refine E4 ?_;refine Td ?_;refine E5 ?_;refine GO ?_;refine GY ?_;exact ⟨false,K_,rfl⟩
   ·refine S_ ?_
    refine Cj ?_;refine Dh ?_;refine E4 ?_;refine Ms ?_;refine E5 ?_;refine E4 ?_;refine Td ?_;refine E5 ?_;refine E4 ?_;refine AA (EE (b:=4) rfl rfl) rfl ?_;refine E5 ?_;refine GY ?_;exact ⟨false,K_,rfl⟩
  ·refine S_ ?_
   refine Cj ?_;refine Dh ?_;refine GO ?_;refine GO ?_;refine GO ?_;refine GY ?_;exact ⟨false,K_,rfl⟩
 refine Ar ?_;refine KN ?_;refine Fb (Vi k a.length O_ O_) qZ ?_;refine Rr ?_;refine Bu rfl (by rw [decide_eq_true O_];rfl) ?_
 refine Ar ?_;refine VZ (ZR L N a m hN O_ hm O_) qS ?_;refine Rr ?_;refine Bu rfl (by rw [c7];rfl) ?_
 refine Ar ?_;refine AR ?_;refine AA (Ux rfl rfl rfl) rfl ?_;refine BE (BO oo AH) AM rfl ?_;refine Bm rfl rfl rfl rfl Ly C1 C1 AM ?_;refine AQ ?_;refine Ay ?_;refine DJ [0,1,2,3,10,11] (fun (j:Nat)=>⟨93,AS [0,1,2,3,10,11] [Al 0,Ae k,Ae n,.c (.is a),Al 2,Ae (j:Int)],[.row true (.ac [.sl 1 0 N N 3]),.row true (.an L),.row true (.ac [.val (.int .i64 k),.val (.int .i64 n),.is a])]⟩) (fun j=>N-j) (fun j=>j≤i∧ ∀q,q<j→V2 (Aa L q) ⟨k,n,a⟩=false) 0 K_ ⟨Nat.zero_le _,fun i hi=>absurd hi (Nat.not_lt_zero i)⟩ ?_
 rintro j ⟨hj,hB⟩
 refine Ar ?_;refine Ea ?_;refine Jy ?_;refine Lo ?_;refine DF ?_;refine AN ?_;by_cases hji:j=i
 ·subst hji
  refine S_ ?_;refine II ?_;refine Is ?_;refine PI ?_;refine QT ?_;refine Ah ?_;refine ZU ?_;refine Rl (R5 (j:=j) rfl O_ rfl N9 Ly O_) rfl ?_;refine Yv ?_;refine Io (AY (VN (Aa L j) ⟨k,n,a⟩ (hargs j O_) (by show a.length≤_;omega)) mW rfl rfl rfl BT) AM rfl ?_
  refine Gw ?_;refine Ef rfl (by rw [SC.2 hx]) ?_
  refine A9 ?_;exact Ct
 ·have hne:=hb j O_
  refine S_ ?_;refine II ?_;refine Is ?_;refine PI ?_;refine QT ?_;refine Ah ?_;refine ZU ?_;refine Rl (R5 (j:=j) rfl O_ rfl N9 Ly O_) rfl ?_;refine Yv ?_;refine Io (AY (VN (Aa L j) ⟨k,n,a⟩ (hargs j O_) (by show a.length≤_;omega)) mW rfl rfl rfl BT) AM rfl ?_
  refine Gw ?_;refine Bu rfl (by rw [hne]) ?_
  refine A9 ?_;refine Cl ?_;exact ⟨j+1,K_,by show N-(j+1)<N-j;omega,by omega,fun q hq=>hb q O_⟩
theorem nK(L:List Nd)(N:Nat)(k n:Int)(a:List Int)(m:Nat)(hA:C2 L)(hN:L.length=N)(hNl:N≤1000000)(hm:a.length=m)(hml:m≤1000)(he:Bl N k n a=0)(hf:F2 L ⟨k,n,a⟩=none):Ev prog (.call 48 [Al 0,Ae k,Ae n,.c (.is a)] [.row true (.ac [.sl 1 0 N N 3]),.row true (.an L)]) (.val (.tup [Ae ((N:Nat):Int),Ae ((0:Nat):Int)]) [.row true (.ac [.sl 2 0 (N+1) (N+1) 3]),.dead,.row true (.an (L++[⟨k,n,a⟩]))]):=by
 have hargs:∀j,j<N→(Aa L j).a.length≤1000000:=fun j h=>by have h1:=(In (hA.ok j O_)).len;have h2:=ES (Aa L j).k;dsimp only at h1;omega
 have hok:=In he
 have c1:=hok.kind
 dsimp only at c1
 have c2:¬(n<0∨(0<n∧DY k=false)):=by
  have h3:=hok.num
  dsimp only at h3
  rintro (h | ⟨h,h2⟩)
  ·omega
  ·rw [h3.2 h] at h2;cases h2
 have c2n:¬n<0:=fun h=>c2 (.inl h)
 have c5:=hok.len
 dsimp only at c5
 have ml:=ES k
 have c7:hasB N a=true:=by
  cases hq:hasB N a with
  |true=>rfl
  |false=>revert he;unfold Bl;rw [if_neg O_,if_neg c2,if_neg O_,if_pos hq];intro h;cases h
 refine AG func48 rfl ntmps48 rfl AH ?_;refine JQ ?_;refine Dh ?_;refine CQ ?_;refine A6 ?_;refine GD [0,1,2,3,35] (fun (q:Bool)=>⟨93,AS [0,1,2,3,35] [Al 0,Ae k,Ae n,.c (.is a),.c (.val (.bool q))],[.row true (.ac [.sl 1 0 N N 3]),.row true (.an L)]⟩) false ?_ ?_
 ·by_cases c3:0<n
  ·have c4:DY k=true:=by cases hq:DY k with
    |true=>rfl
    |false=>exact absurd (Or.inr ⟨c3,hq⟩) c2
   have c5:k=1∨k=2∨k=4:=by simp [DY] at c4;omega
   rcases c5 with rfl | rfl | rfl
   ·refine S_ ?_
    refine Cj ?_;refine Dh ?_;refine E4 ?_;refine Ms ?_;refine E5 ?_;refine GO ?_;refine GO ?_;refine GY ?_;exact ⟨false,K_,rfl⟩
   ·refine S_ ?_
    refine Cj ?_;refine Dh ?_;refine E4 ?_;refine Ms ?_;refine E5 ?_;refine E4 ?_;refine Td ?_;refine E5 ?_;refine GO ?_;refine GY ?_;exact ⟨false,K_,rfl⟩
   ·refine S_ ?_
    refine Cj ?_;refine Dh ?_;refine E4 ?_;refine Ms ?_;refine E5 ?_;refine E4 ?_;refine Td ?_;refine E5 ?_;refine E4 ?_;refine AA (EE (b:=4) rfl rfl) rfl ?_;refine E5 ?_;refine GY ?_;exact ⟨false,K_,rfl⟩
  ·refine S_ ?_
   refine Cj ?_;refine Dh ?_;refine GO ?_;refine GO ?_;refine GO ?_;refine GY ?_;exact ⟨false,K_,rfl⟩
 refine Ar ?_;refine KN ?_;refine Fb (Vi k a.length O_ O_) qZ ?_;refine Rr ?_;refine Bu rfl (by rw [decide_eq_true O_];rfl) ?_
 refine Ar ?_;refine VZ (ZR L N a m hN O_ hm O_) qS ?_;refine Rr ?_;refine Bu rfl (by rw [c7];rfl) ?_
 refine Ar ?_;refine AR ?_;refine AA (Ux rfl rfl rfl) rfl ?_;refine BE (BO oo AH) AM rfl ?_;refine Bm rfl rfl rfl rfl Ly C1 C1 AM ?_;refine AQ ?_;refine Ay ?_;refine DJ [0,1,2,3,10,11] (fun (j:Nat)=>⟨93,AS [0,1,2,3,10,11] [Al 0,Ae k,Ae n,.c (.is a),Al 2,Ae (j:Int)],[.row true (.ac [.sl 1 0 N N 3]),.row true (.an L),.row true (.ac [.val (.int .i64 k),.val (.int .i64 n),.is a])]⟩) (fun j=>N-j) (fun j=>j≤N∧ ∀q,q<j→V2 (Aa L q) ⟨k,n,a⟩=false) 0 K_ ⟨Nat.zero_le _,fun i hi=>absurd hi (Nat.not_lt_zero i)⟩ ?_
 rintro j ⟨hj,hB⟩
 by_cases hlt:j<N
 ·have hne:V2 (Aa L j) ⟨k,n,a⟩=false:=by cases hq:V2 (Aa L j) ⟨k,n,a⟩ with
   |false=>rfl
   |true=>exact absurd (SC.1 hq) (MZ hf O_)
  refine Ar ?_;refine Ea ?_;refine Jy ?_;refine Lo ?_;refine SN ?_;refine II ?_;refine Is ?_;refine PI ?_;refine QT ?_;refine Ah ?_;refine ZU ?_;refine Rl (R5 (j:=j) rfl O_ rfl N9 Ly O_) rfl ?_;refine Yv ?_;refine Io (AY (VN (Aa L j) ⟨k,n,a⟩ (hargs j O_) (by show a.length≤_;omega)) mW rfl rfl rfl BT) AM rfl ?_
  refine Gw ?_;refine Bu rfl (by rw [hne]) ?_
  refine A9 ?_;refine Cl ?_;refine ⟨j+1,K_,by show N-(j+1)<N-j;omega,by omega,fun q hq=>?_⟩
  rcases (by omega:q<j∨q=j) with h | rfl
  ·exact hB q h
  ·exact hne
 ·obtain rfl:N=j:=by omega
  refine Ar ?_;refine Ea ?_;refine Jy ?_;refine Lo ?_;refine DF ?_;refine AZ ?_;refine Ea ?_;refine Jy ?_;refine Lo ?_;refine AA (Mn (b:=1048576) rfl rfl) rfl ?_;refine AZ ?_;refine Cs (L5 (AY (cj a O_) vD rfl rfl rfl BT) AH An rfl) rfl ?_;refine J2 ?_;refine Pp rfl rfl rfl rfl zT Dw WR_ AM ?_;refine A6 ?_;refine Gm [(6,[]),(7,[1]),(10,[0])] [0,1] 2 mixed K_ K_ ?_;refine Gj ?_;refine Bf (HA rfl) rfl ?_;refine Bf (Ai rfl (Uz _ _)) rfl ?_;refine pw ?_;refine Bf (Bj rfl rfl N9 Ly C1 D_) rfl ?_;refine Dc (Ev.mem (dx rfl rfl)) rfl W4 ?_;refine Dc (ZS rfl rfl rfl rfl underlying53 underlying53 rW hN O_ AH AM) rfl W4 ?_;refine Bf (HA rfl) rfl ?_;refine Bf (Ai rfl (Uz _ _)) rfl ?_;refine WA (YY (w:= .ac [.sl 4 0 (N+1) (N+1) 3]) rfl rfl rfl rfl qF (by show 0<1;decide) rfl AM) rfl W4 ?_
  refine iI ?_;refine A9 ?_;refine Ea ?_;refine Jy ?_;refine Lo ?_;refine jJ ?_;exact Ct
theorem pT{P:Program}{e:Operand→AV}{M:Ak}{t t2:TypeId}{x y:Operand}{b o:Nat}(hu:P.underlying t=some (.pointer (P.pointee t)))(hx:e x= .c (.ptr b o))(hy:e y= .c (.val (.pointer none))):Ev P (.op (.binOp .eql t x y t2) e M) (.val (.c (.val (.bool false))) M):=
 Ev.sem fun O ι w ρ hO hR hρ=>by
  obtain ⟨dst,op,ty,pos,af,gd⟩:=O
  subst hO
  have h1:=hρ x (by simp [Op.operands])
  have h2:=hρ y (by simp [Op.operands])
  rw [hx] at h1;rw [hy] at h2
  obtain ⟨l,hl,hv⟩:=h1
  have h2:ρ y= .pointer none:=h2
  refine .inl ⟨.bool false,w,ι,.inl ?_,rfl,Step.refl hR (Nat.le_refl _)⟩
  simp [execOp,hv,h2,eqGuard,run_eql_pointer_nil _ t _ hu]
theorem uN:prog.underlying 42=some (.pointer (prog.pointee 42)):=by kernel_rfl
theorem gy(L:List Nd)(N:Nat)(k n:Int)(a:List Int)(hA:C2 L)(hN:L.length=N)(hNl:N<1000000)(hml:a.length≤1000)(hr:∀x∈k::n::a,-9223372036854775808≤x∧x≤9223372036854775807)(he:Bl N k n a=0)(hf:F2 L ⟨k,n,a⟩=none):
  Ev prog (.call 21 [.c (.ptr 0 0),.c (.val (.int .i64 k)),.c (.val (.int .i64 n)),.c (.is a)] [.row true (.ac [.sl 1 0 N N 3,.mp 2]),.row true (.an L),.row true (.mp (Bk L))])
   (.val (.tup [.c (.val (.int .i64 ((N:Nat):Int))),.c (.val (.int .i64 ((0:Nat):Int)))]) [.row true (.ac [.sl 3 0 (N+1) (N+1) 3,.mp 2]),.dead,.row true (.mp (Bk (L++[⟨k,n,a⟩]))),.row true (.an (L++[⟨k,n,a⟩]))]):=by
 have h1:=wW L N k n a a.length a.length hA hN O_ rfl hml hr he hf
 have h2:Ev prog (.call 21 [.c (.ptr 0 0),.c (.val (.int .i64 k)),.c (.val (.int .i64 n)),.c (.sl 3 0 a.length a.length 1)] [.row true (.ac [.sl 1 0 N N 3,.mp 2]),.row true (.an L),.row true (.mp (Bk L)),.row false (.ai a)])
   (.val (.tup [.c (.val (.int .i64 ((N:Nat):Int))),.c (.val (.int .i64 ((0:Nat):Int)))]) [.row true (.ac [.sl 4 0 (N+1) (N+1) 3,.mp 2]),.dead,.row true (.mp (Bk (L++[⟨k,n,a⟩]))),.row false (.ai a),.row true (.an (L++[⟨k,n,a⟩]))]):=
  Ev.relink [0,3,1,2] K_ K_ K_ h1 K_ K_
 exact Ev.isRow (a:=a) (args':=[.c (.ptr 0 0),.c (.val (.int .i64 k)),.c (.val (.int .i64 n)),.c (.sl 3 0 a.length a.length 1)]) 3 [4] rfl rfl rfl (fun j hj=>by match j with | 0=>rfl | 1=>rfl | 2=>rfl | 3=>exact absurd rfl hj | j+4=>rfl) h2 K_ K_ K_ K_
theorem iJ(L:List Nd)(N:Nat)(k n:Int)(hA:C2 L)(hN:L.length=N)(hNl:N<1000000)(hr:∀x∈[k,n],-9223372036854775808≤x∧x≤9223372036854775807)(he:Bl N k n []=0)(hf:F2 L ⟨k,n,[]⟩=none):
  Ev prog (.call 21 [.c (.ptr 0 0),.c (.val (.int .i64 k)),.c (.val (.int .i64 n)),.c .nsl] [.row true (.ac [.sl 1 0 N N 3,.mp 2]),.row true (.an L),.row true (.mp (Bk L))])
   (.val (.tup [.c (.val (.int .i64 ((N:Nat):Int))),.c (.val (.int .i64 ((0:Nat):Int)))]) [.row true (.ac [.sl 3 0 (N+1) (N+1) 3,.mp 2]),.dead,.row true (.mp (Bk (L++[⟨k,n,[]⟩]))),.row true (.an (L++[⟨k,n,[]⟩]))]):=
 Ev.weakA (.same (.same (.same (.nilZ .nil)))) (gy L N k n [] hA hN hNl D_ hr he hf)
def wL1:List Nd:=[⟨1,1,[]⟩]
def wL2:List Nd:=[⟨1,1,[]⟩,⟨2,2,[]⟩]
def Yk:List Nd:=[⟨1,1,[]⟩,⟨2,2,[]⟩,⟨6,0,[0,1]⟩]
theorem wA1:C2 wL1:=C2.snoc .nil D_ D_ rfl
theorem wA2:C2 wL2:=C2.snoc (L:=wL1) wA1 D_ D_ D_
theorem wA3:C2 Yk:=C2.snoc (L:=wL2) wA2 D_ D_ D_
def ng:Nd→(Int→AB 8)→AB 8×Nat:=fun _ _=>([],0)
theorem wH(i:Nat)(hi:i<3):¬VO Yk (Aa Yk i):=by
 match i,hi with
 |0,_=>unfold VO;decide
 |1,_=>unfold VO;decide
 |2,_=>unfold VO;decide
def wK:AB 8:=AJ (jI++FJ 1)
def wM:AB 8:=AJ (rX++FJ 2)
def wS:AB 8:=BP (AJ wK) (Ag 12) [] (jn [wM])
theorem aY:wM.length=32:=Ap _
theorem yF:wK.length=32:=Ap _
theorem w0:BU ng Yk 0=(wK,0):=rfl
theorem w1:BU ng Yk 1=(wM,0):=rfl
theorem wJ:Jm [wM]=(jn [wM],0):=by
 unfold Jm
 rw [if_pos (by rw [RZ,aY];decide)]
theorem AAc:FM ng Yk (BF Yk 2) []=FM ng Yk [2] [(0,wK),(1,wM)]:=rfl
theorem AAa:Iv ng Yk (As [(0,wK),(1,wM)]) (Aa Yk (2:Int).toNat)=IJ (AJ wK) (Jm [wM]):=rfl
theorem w2s:IJ (AJ wK) (Jm [wM])=(wS,0):=by rw [wJ];rfl
theorem w2:BU ng Yk 2=(wS,0):=by
 unfold BU
 rw [AAc,FM.eq_2,AAa,w2s,if_pos rfl]
 rfl
theorem qv:wS.length=52:=by
 unfold wS
 rw [CZ _ _ _ _ (Ap _) (A1 12),NP,RZ,aY]
 rfl
theorem wO:ni (AJ wK) wS=([wM],0):=by
 have hj:jl [wM]=36:=by rw [RZ,aY];rfl
 have e:DU (AJ wK) (Ag 12) [] (cut wS 0 (wS.length-16))=cut wS (wS.length-16) 16:=qE (AJ wK) (Ag 12) (jn [wM]) (Ap _) (A1 12)
 have he:Nt (AJ wK) wS=0:=by
  unfold Nt
  rw [if_neg (by rw [qv];decide),if_pos e]
 unfold ni
 rw [if_pos he,show GK (AJ wK) (Ag 12) wS=jn [wM] from bT (AJ wK) (Ag 12) (jn [wM]) (Ap _) (A1 12)]
 exact Wv (by rw [NP,hj];decide) (vi _ (by rw [hj];decide))
theorem wB(i:Nat)(hi:i<3)(v:AB 8)(h:BU ng Yk i=(v,0)):Ev prog (.call 22 [Al 0,Ae (i:Int)] [.row false (.ac [.sl 1 0 3 3 3,.mp 2]),.row false (.an Yk),.row false (.mp (Bk Yk))]) (.val (.tup [.c (.bs v),Ae ((0:Nat):Int)]) [.row false (.ac [.sl 1 0 3 3 3,.mp 2]),.row false (.an Yk),.row false (.mp (Bk Yk))]):=by
 have:=ft ng Yk (Bk Yk) 3 i rfl D_ hi wA3 (fun D k hk _ _ hh=>absurd hh (wH k (by have:=(Dr Yk i _ hk).2;omega)))
 rw [h] at this
 exact this
attribute [irreducible] wK wM wS
theorem oO:Ev prog (.call 19 [] []) (.val (.c (.val (.bool true))) []):=by
 have m1:=iJ [] 0 1 1 .nil rfl D_ D_ D_ rfl
 have m2:=iJ wL1 1 2 2 wA1 rfl D_ D_ D_ D_
 have m3:=gy wL2 2 6 0 [0,1] wA2 rfl D_ D_ D_ D_ D_
 have b0:=wB 0 D_ wK w0
 have b1:=wB 1 D_ wM w1
 have b2:=wB 2 D_ wS w2
 have hO:=TQ (AJ wK) wS (Ap _) (by rw [qv];decide)
 rw [wO] at hO
 dsimp only [List.length] at hO
 have hMl:=aY
 have hKl:=yF
 refine AG func19 rfl ntmps19 rfl AH ?_;refine QM ?_;refine Fb (pW) uU ?_;refine Ab ?_;refine Cs (pT uN rfl rfl) rfl ?_;refine AZ ?_;refine Cs (DG (bs:=[0,1,2]) (m1) K1 K_ rfl rfl BT AM) rfl ?_;refine GQ ?_;refine Cs (DG (bs:=[0,3,2]) (m2) K1 K_ rfl rfl BT AM) rfl ?_;refine Cx ?_;refine G4 ?_;refine BH ?_;refine AR ?_;refine Cs (L5 (Ev.mem (Wj (l:=[_,_]) underlying41 QK rfl rfl D_ D_ AH)) AH An rfl) rfl ?_;refine Cs (DG (bs:=[0,4,2]) (m3) K1 K_ rfl rfl BT AM) rfl ?_;refine Cx ?_;refine G4 ?_;refine BH ?_;refine Bh (AY (bs:=[0,5,2]) (b0) iU K_ K_ rfl BT) AM rfl ?_;refine Cx ?_;refine G4 ?_;refine BH ?_;refine Bh (AY (bs:=[0,5,2]) (b2) iU K_ K_ rfl BT) AM rfl ?_;refine Cx ?_;refine G4 ?_;refine BH ?_;refine Bh (AY (bs:=[0,5,2]) (b1) iU K_ K_ rfl BT) AM rfl ?_;refine GQ ?_;refine Fb (Um wK (by rw [hKl];decide)) XV ?_
 refine AR ?_;refine Fb (hO) rg ?_;refine GQ ?_;refine Ju ?_;refine BJ ?_;refine Ju ?_;refine Cg ?_;refine BJ ?_;refine Ju ?_;refine Cg ?_;refine BJ ?_;refine Ju ?_;refine Cg ?_;refine BJ ?_;refine HH ?_;refine BR ?_;refine AA (Cm (b:=1) rfl rfl) rfl ?_;refine Cg ?_;refine BJ ?_;refine fA ?_;refine BR ?_;refine PL ?_;refine BR ?_;refine FS ?_;refine Fb (bB wM (by rw [hMl];decide)) uO ?_
 refine Cg ?_;refine BJ ?_;refine Cy ?_;refine BR ?_;refine AA (Cm (b:=32) rfl rfl) rfl ?_;refine Cg ?_;exact B6
def kL3(n:Nat):List Nd:=[⟨1,(n:Int),[]⟩,⟨7,0,[0,0,0]⟩,⟨9,0,[1]⟩]
theorem k0(n:Nat):BU ng (kL3 n) 0=(AJ (jI++FJ n),0):=rfl
theorem k1(n:Nat):BU ng (kL3 n) 1=([],6):=rfl
theorem k2(n:Nat):BU ng (kL3 n) 2=([],6):=rfl
theorem tX(L:List Nd)(N:Nat)(k n:Int)(a:List Int)(m cap:Nat)(_hA:C2 L)(hN:L.length=N)(hNl:N≤1000000)(hm:a.length=m)(hml:m≤1000)(_hr:∀x∈k::n::a,-9223372036854775808≤x∧x≤9223372036854775807)(he:Bl N k n a≠0):Ev prog (.call 21 [Al 0,Ae k,Ae n,.c (.sl 1 0 m cap 1)] [.row true (.ac [.sl 2 0 N N 3,.mp 3]),.row true (.ai a),.row true (.an L),.row true (.mp (Bk L))]) (.val (.tup [Ae ((0:Nat):Int),Ae ((Bl N k n a:Nat):Int)]) [.row true (.ac [.sl 2 0 N N 3,.mp 3]),.row true (.ai a),.row true (.an L),.row true (.mp (Bk L))]):=by
 have hm:=hm
 refine iA ?_;refine AK ?_;refine JT ?_;refine GD [0,1,2,3,10] (fun (q:Bool)=>⟨118,AS [0,1,2,3,10] [Al 0,Ae k,Ae n,.c (.sl 1 0 m cap 1),.c (.val (.bool q))],[.row true (.ac [.sl 2 0 N N 3,.mp 3]),.row true (.ai a),.row true (.an L),.row true (.mp (Bk L))]⟩) (DY k) ?_ ?_
 ·by_cases h1:k=1
  ·refine S_ ?_
   refine Ns ?_;refine Dl ?_;refine Dl ?_;refine Bc ?_;exact ⟨true,K_,by simp [DY,h1]⟩
  ·by_cases h2:k=2
   ·refine S_ ?_
    refine Ns ?_;refine BJ ?_;refine Hn ?_;refine CQ ?_;refine Dl ?_;refine Bc ?_;exact ⟨true,K_,by simp [DY,h2]⟩
   ·refine S_ ?_
    refine Ns ?_;refine BJ ?_;refine Hn ?_;refine Kw ?_;refine Hn ?_;refine KE ?_;exact ⟨decide (k=4),K_,by simp [DY,h1,h2]⟩
 refine A9 ?_;refine Fb (VC k) iK ?_;refine F1 ?_;by_cases c1:k<1∨9<k
 ·rw [show Bl N k n a=6 by unfold Bl;rw [if_pos c1]]
  by_cases c2:k<1
  ·refine S_ ?_
   refine Cj ?_;refine V3 ?_;refine Dl ?_;refine Ad ?_;exact Ct
  ·refine S_ ?_
   refine Cj ?_;refine Dh ?_;refine CQ ?_;refine Ad ?_;exact Ct
 rw [not_or] at c1
 refine A9 ?_;refine Dh ?_;refine KE ?_;by_cases c2:n<0∨(0<n∧DY k=false)
 ·rw [show Bl N k n a=1 by unfold Bl;rw [if_neg O_,if_pos c2]]
  by_cases c3:n<0
  ·refine S_ ?_
   refine Cj ?_;refine V3 ?_;refine GN ?_;refine G5 ?_;refine G5 ?_;refine Cg ?_;refine Ad ?_;exact Ct
  ·have c4:0<n∧DY k=false:=c2.resolve_left c3
   have c5:=c4.1
   refine A9 ?_;refine Dh ?_;refine E4 ?_;refine FO ?_;refine E5 ?_;refine KE ?_;refine Q_ ?_;refine Ef rfl (by rw [c4.2];rfl) ?_
   refine AK ?_;exact Ct
 have c2n:¬n<0:=fun h=>c2 (.inl h)
 refine S_ ?_;refine GD [0,1,2,3,11,12,38] (fun (q:Bool)=>⟨118,AS [0,1,2,3,11,12,38] [Al 0,Ae k,Ae n,.c (.sl 1 0 m cap 1),Ae ((CK k:Nat):Int),Ae ((Eb k:Nat):Int),.c (.val (.bool q))],[.row true (.ac [.sl 2 0 N N 3,.mp 3]),.row true (.ai a),.row true (.an L),.row true (.mp (Bk L))]⟩) false ?_ ?_
 ·by_cases c3:0<n
  ·have c4:DY k=true:=by cases hq:DY k with
    |true=>rfl
    |false=>exact absurd (Or.inr ⟨c3,hq⟩) c2
   refine A9 ?_;refine Dh ?_;refine E4 ?_;refine FO ?_;refine E5 ?_;refine KE ?_;exact ⟨!(DY k),K_,by rw [c4];rfl⟩
  ·refine S_ ?_
   refine Cj ?_;refine Dh ?_;refine GO ?_;refine KE ?_;exact ⟨false,K_,rfl⟩
 have ml:=ES k
 by_cases c5:a.length<CK k∨Eb k<a.length
 ·rw [show Bl N k n a=2 by unfold Bl;rw [if_neg O_,if_neg c2,if_pos c5]]
  by_cases c6:a.length<CK k
  ·refine S_ ?_
   refine Cj ?_;refine H1 ?_;refine AR ?_;refine DF ?_;refine GN ?_;refine G5 ?_;refine Cg ?_;refine Ad ?_;exact Ct
  ·refine S_ ?_
   refine Cj ?_;refine H1 ?_;refine AR ?_;refine DF ?_;refine BJ ?_;refine H1 ?_;refine BR ?_;refine FS ?_;refine QU ?_;refine CQ ?_;refine Ad ?_;exact Ct
 rw [not_or] at c5
 refine A9 ?_;refine H1 ?_;refine AR ?_;refine DF ?_;refine BJ ?_;refine H1 ?_;refine BR ?_;refine FS ?_;refine QU ?_;refine KE ?_;have c7:hasB N a=false:=by
  cases hq:hasB N a with
  |false=>rfl
  |true=>exact absurd (by unfold Bl;rw [if_neg O_,if_neg c2,if_neg O_,if_neg (by rw [hq];simp)]) he
 rw [show Bl N k n a=8 by unfold Bl;rw [if_neg O_,if_neg c2,if_neg O_,if_pos c7]]
 refine Ar ?_;refine Fb (Wp L (Bk L) N a m cap hN O_ hm O_) dh ?_;refine FO ?_;refine Bc ?_;refine Q_ ?_;refine Ef rfl (by rw [c7];rfl) ?_
 refine AK ?_;exact Ct
theorem R0(L:List Nd)(N:Nat)(k n:Int)(a:List Int)(m cap:Nat)(hA:C2 L)(hN:L.length=N)(hNl:N≤1000000)(hm:a.length=m)(hml:m≤1000)(hr:∀x∈k::n::a,-9223372036854775808≤x∧x≤9223372036854775807)(he:Bl N k n a=0)(i:Nat)(hf:F2 L ⟨k,n,a⟩=some i):Ev prog (.call 21 [Al 0,Ae k,Ae n,.c (.sl 1 0 m cap 1)] [.row true (.ac [.sl 2 0 N N 3,.mp 3]),.row true (.ai a),.row true (.an L),.row true (.mp (Bk L))]) (.val (.tup [Ae ((i:Nat):Int),Ae ((0:Nat):Int)]) [.row true (.ac [.sl 2 0 N N 3,.mp 3]),.row true (.ai a),.row true (.an L),.row true (.mp (Bk L))]):=by
 have hok:=In he
 have c1:=hok.kind
 dsimp only at c1
 have c2:¬(n<0∨(0<n∧DY k=false)):=by
  have h3:=hok.num
  dsimp only at h3
  rintro (h | ⟨h,h2⟩)
  ·omega
  ·rw [h3.2 h] at h2;cases h2
 have c2n:¬n<0:=fun h=>c2 (.inl h)
 have c5:=hok.len
 dsimp only at c5
 have ml:=ES k
 have c7:hasB N a=true:=by
  cases hq:hasB N a with
  |true=>rfl
  |false=>revert he;unfold Bl;rw [if_neg O_,if_neg c2,if_neg O_,if_pos hq];intro h;cases h
 refine iA ?_;refine AK ?_;refine JT ?_;refine GD [0,1,2,3,10] (fun (q:Bool)=>⟨118,AS [0,1,2,3,10] [Al 0,Ae k,Ae n,.c (.sl 1 0 m cap 1),.c (.val (.bool q))],[.row true (.ac [.sl 2 0 N N 3,.mp 3]),.row true (.ai a),.row true (.an L),.row true (.mp (Bk L))]⟩) (DY k) ?_ ?_
 ·by_cases h1:k=1
  ·refine S_ ?_
   refine Ns ?_;refine Dl ?_;refine Dl ?_;refine Bc ?_;exact ⟨true,K_,by simp [DY,h1]⟩
  ·by_cases h2:k=2
   ·refine S_ ?_
    refine Ns ?_;refine BJ ?_;refine Hn ?_;refine CQ ?_;refine Dl ?_;refine Bc ?_;exact ⟨true,K_,by simp [DY,h2]⟩
   ·refine S_ ?_
    refine Ns ?_;refine BJ ?_;refine Hn ?_;refine Kw ?_;refine Hn ?_;refine KE ?_;exact ⟨decide (k=4),K_,by simp [DY,h1,h2]⟩
 refine A9 ?_;refine Fb (VC k) iK ?_;refine GQ ?_;refine Dh ?_;refine CQ ?_;refine Ay ?_;refine GD [0,1,2,3,11,12,38] (fun (q:Bool)=>⟨118,AS [0,1,2,3,11,12,38] [Al 0,Ae k,Ae n,.c (.sl 1 0 m cap 1),Ae ((CK k:Nat):Int),Ae ((Eb k:Nat):Int),.c (.val (.bool q))],[.row true (.ac [.sl 2 0 N N 3,.mp 3]),.row true (.ai a),.row true (.an L),.row true (.mp (Bk L))]⟩) false ?_ ?_
 ·by_cases c3:0<n
  ·have c4:DY k=true:=by cases hq:DY k with
    |true=>rfl
    |false=>exact absurd (Or.inr ⟨c3,hq⟩) c2
   refine A9 ?_;refine Dh ?_;refine E4 ?_;refine FO ?_;refine E5 ?_;refine KE ?_;exact ⟨!(DY k),K_,by rw [c4];rfl⟩
  ·refine S_ ?_
   refine Cj ?_;refine Dh ?_;refine GO ?_;refine KE ?_;exact ⟨false,K_,rfl⟩
 refine A9 ?_;refine H1 ?_;refine AR ?_;refine DF ?_;refine BJ ?_;refine H1 ?_;refine BR ?_;refine FS ?_;refine QU ?_;refine CQ ?_;refine BH ?_;refine Fb (Wp L (Bk L) N a m cap hN O_ hm O_) dh ?_;refine FO ?_;refine Bc ?_;refine Q_ ?_;refine Bu rfl (by rw [c7];rfl) ?_
 refine Ar ?_;refine AR ?_;refine Fb (fP k n a m cap hm hml hr) qD ?_;refine Ab ?_;refine Ea ?_;refine AA (Ai rfl (SL _ _)) rfl ?_;refine AA (B9 rfl rfl Vj Dw rfl) rfl ?_;refine AR ?_;refine Cs (sH (c:= .val (.int .i64 (i:Int))) underlying73 underlying9 rfl rfl rfl hA.keyed (by have h:=kQ (Mz hf).1;rw [(Mz hf).2] at h;exact h)) rfl ?_
 refine GQ ?_;refine Ab ?_;exact Ct
theorem RY(L:List Nd)(N:Nat)(k n:Int)(a:List Int)(m cap:Nat)(hA:C2 L)(hN:L.length=N)(hNl:N≤1000000)(hm:a.length=m)(hml:m≤1000)(hr:∀x∈k::n::a,-9223372036854775808≤x∧x≤9223372036854775807)(he:Bl N k n a=0)(hf:F2 L ⟨k,n,a⟩=none):Ev prog (.call 21 [Al 0,Ae k,Ae n,.c (.sl 1 0 m cap 1)] [.row true (.ac [.sl 2 0 N N 3,.mp 3]),.row true (.ai a),.row true (.an L),.row true (.mp (Bk L))]) (.val (.tup [Ae ((N:Nat):Int),Ae ((0:Nat):Int)]) [.row true (.ac [.sl 4 0 (N+1) (N+1) 3,.mp 3]),.row true (.ai a),.dead,.row true (.mp (Bk (L++[⟨k,n,a⟩]))),.row true (.an (L++[⟨k,n,a⟩]))]):=by
 have hok:=In he
 have c1:=hok.kind
 dsimp only at c1
 have c2:¬(n<0∨(0<n∧DY k=false)):=by
  have h3:=hok.num
  dsimp only at h3
  rintro (h | ⟨h,h2⟩)
  ·omega
  ·rw [h3.2 h] at h2;cases h2
 have c2n:¬n<0:=fun h=>c2 (.inl h)
 have c5:=hok.len
 dsimp only at c5
 have ml:=ES k
 have c7:hasB N a=true:=by
  cases hq:hasB N a with
  |true=>rfl
  |false=>revert he;unfold Bl;rw [if_neg O_,if_neg c2,if_neg O_,if_pos hq];intro h;cases h
 refine iA ?_;refine AK ?_;refine JT ?_;refine GD [0,1,2,3,10] (fun (q:Bool)=>⟨118,AS [0,1,2,3,10] [Al 0,Ae k,Ae n,.c (.sl 1 0 m cap 1),.c (.val (.bool q))],[.row true (.ac [.sl 2 0 N N 3,.mp 3]),.row true (.ai a),.row true (.an L),.row true (.mp (Bk L))]⟩) (DY k) ?_ ?_
 ·by_cases h1:k=1
  ·refine S_ ?_
   refine Ns ?_;refine Dl ?_;refine Dl ?_;refine Bc ?_;exact ⟨true,K_,by simp [DY,h1]⟩
  ·by_cases h2:k=2
   ·refine S_ ?_
    refine Ns ?_;refine BJ ?_;refine Hn ?_;refine CQ ?_;refine Dl ?_;refine Bc ?_;exact ⟨true,K_,by simp [DY,h2]⟩
   ·refine S_ ?_
    refine Ns ?_;refine BJ ?_;refine Hn ?_;refine Kw ?_;refine Hn ?_;refine KE ?_;exact ⟨decide (k=4),K_,by simp [DY,h1,h2]⟩
 refine A9 ?_;refine Fb (VC k) iK ?_;refine GQ ?_;refine Dh ?_;refine CQ ?_;refine Ay ?_;refine GD [0,1,2,3,11,12,38] (fun (q:Bool)=>⟨118,AS [0,1,2,3,11,12,38] [Al 0,Ae k,Ae n,.c (.sl 1 0 m cap 1),Ae ((CK k:Nat):Int),Ae ((Eb k:Nat):Int),.c (.val (.bool q))],[.row true (.ac [.sl 2 0 N N 3,.mp 3]),.row true (.ai a),.row true (.an L),.row true (.mp (Bk L))]⟩) false ?_ ?_
 ·by_cases c3:0<n
  ·have c4:DY k=true:=by cases hq:DY k with
    |true=>rfl
    |false=>exact absurd (Or.inr ⟨c3,hq⟩) c2
   refine A9 ?_;refine Dh ?_;refine E4 ?_;refine FO ?_;refine E5 ?_;refine KE ?_;exact ⟨!(DY k),K_,by rw [c4];rfl⟩
  ·refine S_ ?_
   refine Cj ?_;refine Dh ?_;refine GO ?_;refine KE ?_;exact ⟨false,K_,rfl⟩
 refine A9 ?_;refine H1 ?_;refine AR ?_;refine DF ?_;refine BJ ?_;refine H1 ?_;refine BR ?_;refine FS ?_;refine QU ?_;refine CQ ?_;refine BH ?_;refine Fb (Wp L (Bk L) N a m cap hN O_ hm O_) dh ?_;refine FO ?_;refine Bc ?_;refine Q_ ?_;refine Bu rfl (by rw [c7];rfl) ?_
 refine Ar ?_;refine AR ?_;refine Fb (fP k n a m cap hm hml hr) qD ?_;refine Ab ?_;refine Ea ?_;refine AA (Ai rfl (SL _ _)) rfl ?_;refine AA (B9 rfl rfl Vj Dw rfl) rfl ?_;refine AR ?_;refine Cs (gz (i:=Tryz.t3) (c:= .val (.int .i64 0)) underlying73 underlying9 K_ K_ (fun _=>rfl) rfl rfl rfl hA.keyed trivial (PZ hf)) rfl ?_
 refine GQ ?_;refine Ab ?_;refine Ea ?_;refine SQ ?_;refine Lo ?_;refine AA (Mn (b:=1048576) rfl rfl) rfl ?_;refine Ay ?_;refine Qe ?_;refine Is ?_;refine AE (Ai rfl (SL _ _)) rfl ?_;refine AE (B9 rfl rfl Vj Dw rfl) rfl ?_;refine Bt ?_;refine AE (HA rfl) rfl ?_;refine AE (Ai rfl (NQ _ _)) rfl ?_;refine QT ?_;refine YD ?_;refine Bn ?_;refine ij (Rw (c:= .val (.int .i64 (N:Int))) underlying73 underlying9 rfl rfl rfl rfl hA.keyed trivial (PZ hf) AM) ?_;refine A6 ?_;refine Gm [(10,[]),(11,[2]),(14,[0])] [0,2] 2 mixed K_ K_ ?_;refine Gj ?_;refine Bf (HA rfl) rfl ?_;refine Bf (Ai rfl (NQ _ _)) rfl ?_;refine pw ?_;refine Gj ?_;refine JP ?_;refine lT (AAl (AY (bH a m cap hm hml) vR rfl rfl rfl rfl)) (fun _=>rfl) rfl ?_
 refine Bf (Ux rfl rfl rfl) rfl ?_;refine Dc (Ev.mem (dx rfl rfl)) rfl W4 ?_;refine Dc (ZS rfl rfl rfl rfl underlying53 underlying53 rW hN O_ AH AM) rfl W4 ?_;refine Bf (HA rfl) rfl ?_;refine Bf (Ai rfl (NQ _ _)) rfl ?_;refine WA (YY (w:= .ac [.sl 5 0 (N+1) (N+1) 3,.mp 3]) rfl rfl rfl rfl qF (by show 0<2;decide) rfl AM) rfl W4 ?_
 refine iI ?_;refine A9 ?_;refine Ea ?_;refine SQ ?_;refine Lo ?_;refine jJ ?_;refine JT ?_;rw [YJ,hN]
 exact QW
structure Stp where
 k:Int
 n:Int
 a:List Int
 r:Bool
instance:Inhabited Stp:=⟨⟨0,0,[],false⟩⟩
def CX(S:List Stp)(i:Nat):Stp:=S.getD i ⟨0,0,[],false⟩
def stC(s:Stp):List C6:=[.val (.int .i64 s.k),.val (.int .i64 s.n),.is s.a,.val (.bool s.r)]
def stA(S:List Stp):List C6:=S.flatMap stC
theorem RP(S:List Stp):(stA S).length=4*S.length:=by
 induction S with
 |nil=>rfl
 |cons s S ih=>rw [stA,List.flatMap_cons,List.length_append,←stA,ih,List.length_cons];show 4+_=_;omega
theorem tz(S:List Stp)(i f:Nat)(hi:i<S.length)(hf:f<4):(stA S)[i*4+f]?=(stC (CX S i))[f]?:=by
 induction S generalizing i with
 |nil=>exact absurd hi (Nat.not_lt_zero i)
 |cons s S ih=>
  rw [stA,List.flatMap_cons,←stA]
  cases i with
  |zero=>
   rw [List.getElem?_append_left (by show _<4;omega)]
   simp [CX]
  |succ i=>
   rw [List.getElem?_append_right (by show 4≤_;omega),show (i+1)*4+f-(stC s).length=i*4+f by show _-4=_;omega,ih i (by simpa using hi)]
   rfl
section
variable {P:Program} {T:Nat→AV} {M:Ak} {t:TypeId} {a:Operand} {b o i:Nat} {own:Bool} {S:List Stp}
theorem FR{f:Nat}{c:C6}(hi:i<S.length)(hf:f<4)(hc:(stC (CX S i))[f]?=some c):i*4+f<(Arr.al (stA S)).size∧(Arr.al (stA S)).get (i*4+f)=c.cell:=by
 have h:=tz S i f hi hf
 rw [hc] at h
 refine ⟨?_,?_⟩
 ·show _<(stA S).length
  rw [RP];omega
 ·simp [Arr.get,sT,List.getD_eq_getElem?_getD,h]
theorem Lq(ha:AC T a= .c (.ptr b o))(ho:o=i*4+0)(hm:M[b]?=some (.row own (.al (stA S))))(hr:BC P t=some false)(hi:i<S.length):AL P (AC T) M (.load t a)=some (.c (.val (.int .i64 (CX S i).k))):=by
 subst ho;exact B9 ha hm hr (FR (f:=0) (c:= .val (.int .i64 (CX S i).k)) hi D_ rfl).1 (FR (f:=0) (c:= .val (.int .i64 (CX S i).k)) hi D_ rfl).2
theorem Lp(ha:AC T a= .c (.ptr b o))(ho:o=i*4+1)(hm:M[b]?=some (.row own (.al (stA S))))(hr:BC P t=some false)(hi:i<S.length):AL P (AC T) M (.load t a)=some (.c (.val (.int .i64 (CX S i).n))):=by
 subst ho;exact B9 ha hm hr (FR (f:=1) (c:= .val (.int .i64 (CX S i).n)) hi D_ rfl).1 (FR (f:=1) (c:= .val (.int .i64 (CX S i).n)) hi D_ rfl).2
theorem VF(ha:AC T a= .c (.ptr b o))(ho:o=i*4+2)(hm:M[b]?=some (.row own (.al (stA S))))(hr:BC P t=some false)(hi:i<S.length):AL P (AC T) M (.load t a)=some (.c (.is (CX S i).a)):=by
 subst ho;exact B9 ha hm hr (FR (f:=2) (c:= .is (CX S i).a) hi D_ rfl).1 (FR (f:=2) (c:= .is (CX S i).a) hi D_ rfl).2
theorem mx(ha:AC T a= .c (.ptr b o))(ho:o=i*4+3)(hm:M[b]?=some (.row own (.al (stA S))))(hr:BC P t=some false)(hi:i<S.length):AL P (AC T) M (.load t a)=some (.c (.val (.bool (CX S i).r))):=by
 subst ho;exact B9 ha hm hr (FR (f:=3) (c:= .val (.bool (CX S i).r)) hi D_ rfl).1 (FR (f:=3) (c:= .val (.bool (CX S i).r)) hi D_ rfl).2
end
theorem bQ{S:List Stp}{i m:Nat}(hi:i<S.length)(hm:i<m):CX S i∈S.take m:=by
 have:CX S i=S[i]:=by simp [CX,hi]
 rw [this]
 exact List.mem_take_iff_getElem.2 ⟨i,by omega,rfl⟩
def Ka(S:List Stp):Bool:=decide (600<S.length) || (S.take 150).any fun s=>decide (420<s.a.length)
theorem OO(k:r)(h:Hid r→g:=by intro h;refine AA (JL rfl underlying48) rfl ?_;exact h.out):g:=h ⟨k⟩
theorem ZN(k:r)(h:Hid r→g:=by intro h;refine AA (TU rfl rfl underlying48 vF O_) rfl ?_;exact h.out):g:=h ⟨k⟩
theorem fJ(S:List Stp)(n cap:Nat)(hn:S.length=n)(hnl:n≤9223372036854775807)(_ha:∀i,i<n→(CX S i).a.length≤9223372036854775807):Ev prog (.call 23 [.c (.sl 0 0 n cap 4)] [.row false (.al (stA S))]) (.val (.c (.val (.bool (Ka S)))) [.row false (.al (stA S))]):=by
 by_cases h6:600<n
 ·rw [show Ka S=true by unfold Ka;rw [hn,decide_eq_true h6];rfl]
  refine AG func23 rfl ntmps23 rfl AH ?_;refine Im ?_;refine OO ?_;refine AA (Fd (b:=600) rfl rfl) rfl ?_;exact Gc
 have hB0:Ka S=(S.take 150).any fun s=>decide (420<s.a.length):=by unfold Ka;rw [hn,decide_eq_false h6];rfl
 have hB':(∀i,i<n→i<150→ ¬420<(CX S i).a.length)→((S.take 150).any fun s=>decide (420<s.a.length))=false:=fun h=>by
  rw [List.any_eq_false]
  intro s hs
  obtain ⟨i,hi,rfl⟩:=List.getElem_of_mem hs
  have hl:i<150∧i<S.length:=by simp at hi;omega
  have:=h i O_ hl.1
  simpa [CX,hl.2] using this
 refine AG func23 rfl ntmps23 rfl AH ?_;refine Im ?_;refine OO ?_;refine AA (Fd (b:=600) rfl rfl) rfl ?_;refine AQ ?_;refine Ay ?_;refine DJ [0,3] (fun (j:Nat)=>⟨24,AS [0,3] [.c (.sl 0 0 n cap 4),Ae (j:Int)],[.row false (.al (stA S))]⟩) (fun j=>n-j) (fun j=>j≤n∧j≤150∧ ∀i,i<j→ ¬420<(CX S i).a.length) 0 K_ ⟨Nat.zero_le _,Nat.zero_le _,fun i h=>absurd h (Nat.not_lt_zero i)⟩ ?_
 rintro j ⟨hj,hj2,hB⟩
 by_cases hlt:j<n
 ·by_cases hlt2:j<150
  ·refine S_ ?_
   refine Cj ?_;refine AR ?_;refine OO ?_;refine DF ?_;refine BJ ?_;refine AA (BA (b:=150) rfl rfl) rfl ?_;refine Cg ?_;refine AN ?_;by_cases h4:420<(CX S j).a.length
   ·rw [show Ka S=true by rw [hB0];exact List.any_eq_true.2 ⟨CX S j,bQ O_ hlt2,decide_eq_true h4⟩]
    refine Ar ?_;refine ZN ?_;refine AA (Ai rfl (ZI _ _)) rfl ?_;refine AA (VF (i:=j) rfl O_ rfl rfl O_) rfl ?_;refine KN ?_;refine AA (Fd (b:=420) rfl rfl) rfl ?_;exact Gc
   ·refine S_ ?_
    refine Cj ?_;refine AR ?_;refine ZN ?_;refine AA (Ai rfl (ZI _ _)) rfl ?_;refine AA (VF (i:=j) rfl O_ rfl rfl O_) rfl ?_;refine KN ?_;refine AA (Fd (b:=420) rfl rfl) rfl ?_;refine AZ ?_;refine Cl ?_;refine ⟨j+1,K_,by show n-(j+1)<n-j;omega,by omega,by omega,fun i hi=>?_⟩
    rcases (by omega:i<j∨i=j) with h | rfl
    ·exact hB i h
    ·exact h4
  ·rw [show Ka S=false by rw [hB0];exact hB' fun i hi hi2=>hB i O_]
   refine Ar ?_;refine OO ?_;refine DF ?_;refine BJ ?_;refine AA (BA (b:=150) rfl rfl) rfl ?_;refine Cg ?_;exact Gc
 ·rw [show Ka S=false by rw [hB0];exact hB' fun i hi hi2=>hB i O_]
  refine Ar ?_;refine OO ?_;refine DF ?_;refine GN ?_;refine CQ ?_;exact Gc
def IH(s:Stp)(N:Nat):List Int:=if s.r then s.a else Gf s.a N
def V7(L:List Nd)(s:Stp):List Nd:=(mk L s.k s.n (IH s L.length)).1
def bL(S:List Stp):Nat→List Nd
 |0=>[]
 |j+1=>V7 (bL S j) (CX S j)
theorem zW{L:List Nd}{k n:Int}{a:List Int}(h:Bl L.length k n a≠0):(mk L k n a).1=L:=by unfold mk;rw [if_pos h]
theorem AAd{L:List Nd}{k n:Int}{a:List Int}{i:Nat}(h:Bl L.length k n a=0)(hf:F2 L ⟨k,n,a⟩=some i):(mk L k n a).1=L:=by unfold mk;rw [if_neg O_,hf]
theorem AAV{L:List Nd}{k n:Int}{a:List Int}(h:Bl L.length k n a=0)(hf:F2 L ⟨k,n,a⟩=none)(hl:L.length<1048576):(mk L k n a).1=L++[⟨k,n,a⟩]:=by
 unfold mk;rw [if_neg O_,hf];dsimp only;rw [if_neg O_]
theorem dk{s:Stp}{N:Nat}:(IH s N).length=s.a.length:=by unfold IH;split<;>simp [Gf]
theorem Yd{s:Stp}{N:Nat}(h:∀x∈s.a,-9223372036854775808≤x∧x≤9223372036854775807)(hN:N≤1000000):∀x∈IH s N,-9223372036854775808≤x∧x≤9223372036854775807:=by
 unfold IH
 split
 ·exact h
 ·intro x hx
  obtain ⟨y,hy,rfl⟩:=List.mem_map.1 hx
  have:=h y hy
  split
  ·rename_i hc
   have h1:=Int.emod_nonneg y (show (N:Int)≠0 by omega)
   have h2:=Int.emod_lt_of_pos y (show (0:Int)<N by omega)
   omega
  ·exact this
def Sg(x:Int):Prop:= -9223372036854775808≤x∧x≤9223372036854775807
structure xO(S:List Stp):Prop where
 num:∀i,i<S.length→Sg (CX S i).k∧Sg (CX S i).n∧ ∀x∈(CX S i).a,Sg x
 len:∀i,i<S.length→i<150→(CX S i).a.length≤420
theorem rh{L:List Nd}{s:Stp}(h:C2 L)(hl:L.length<1048576)(hn:s.n≤9223372036854775807):C2 (V7 L s)∧(V7 L s).length≤L.length+1:=by
 unfold V7
 by_cases he:Bl L.length s.k s.n (IH s L.length)=0
 ·cases hf:F2 L ⟨s.k,s.n,IH s L.length⟩ with
  |some i=>rw [AAd he hf];exact ⟨h,by omega⟩
  |none=>rw [AAV he hf hl];exact ⟨h.snoc he hn hf,by simp⟩
 ·rw [zW he];exact ⟨h,by omega⟩
theorem iy{S:List Stp}(hS:xO S):∀j,j≤S.length→j≤150→C2 (bL S j)∧(bL S j).length≤j
 |0,_,_=>⟨.nil,Nat.le_refl _⟩
 |j+1,h,h2=>by
  have h3:=iy hS j O_ O_
  have h4:=rh (s:=CX S j) h3.1 O_ (hS.num j O_).2.1.2
  exact ⟨h4.1,by have:=h4.2;show (V7 _ _).length≤_;omega⟩
theorem yb:B0 prog 55 []=some (.agg (.ac [.nsl])):=by kernel_rfl
theorem nD(L:List Nd)(es:List (Value×C6))(N:Nat)(_hNl:N≤1048576)(_hN:L.length=N):Ev prog (.call 51 [Al 0] [.row false (.ac [.sl 1 0 N N 3,.mp 2]),.row false (.an L),.row false (.mp es)]) (.val (Ae ((N:Nat):Int)) [.row false (.ac [.sl 1 0 N N 3,.mp 2]),.row false (.an L),.row false (.mp es)]):=by
 refine AG func51 rfl ntmps51 rfl AH ?_;refine Im ?_;refine Ea ?_;refine SQ ?_;refine Lo ?_;exact B6
theorem JJ(k:r)(h:Hid r→g:=by intro h;refine Bf (TU rfl rfl underlying48 vF O_) rfl ?_;exact h.out):g:=h ⟨k⟩
theorem TI(k:r)(h:Hid r→g:=by intro h;refine Bf (Ai rfl (sd _ _)) rfl ?_;exact h.out):g:=h ⟨k⟩
theorem Sm(k:r)(h:Hid r→g:=by intro h;refine Bf (Ai rfl (uD _ _)) rfl ?_;exact h.out):g:=h ⟨k⟩
theorem oG(S:List Stp)(n cap:Nat)(hn:S.length=n)(hnl:n≤9223372036854775807)(hS:xO S)(L:List Nd)(N:Nat)(hL:bL S (min n 150)=L)(hN:L.length=N):Ev prog (.call 24 [.c (.sl 0 0 n cap 4)] [.row false (.al (stA S))]) (.val (.tup [Al 1,Al 2,.c (.val (.bool true))]) [.row false (.al (stA S)),.row true (.ac [.sl 3 0 N N 3,.mp 4]),.row true (.ac [.sl 5 0 N N 3]),.row true (.an L),.row true (.mp (Bk L)),.row true (.an L)]):=by
 refine AG func24 rfl ntmps24 rfl AH ?_;refine AK ?_;refine G4 ?_;refine EV ?_;refine A7 (pW) uU ?_;refine AA (ag (by simp) yb) rfl ?_
 refine dz ?_;refine Er ?_;refine oK 4 0 3 (.an []) rfl rfl rfl rfl ?_;refine A9 ?_;refine Cs (pT uN rfl rfl) rfl ?_;refine AQ ?_;refine Ay ?_;refine DJ [0,5,6,7] (fun (zz:Nat×List Nd×Nat)=>⟨107,AS [0,5,6,7] [.c (.sl 0 0 n cap 4),Al 1,Al 2,Ae (zz.1:Int)],[.row false (.al (stA S)),.row true (.ac [.sl 3 0 zz.2.2 zz.2.2 3,.mp 4]),.row true (.ac [.sl 5 0 zz.2.2 zz.2.2 3]),.row true (.an zz.2.1),.row true (.mp (Bk zz.2.1)),.row true (.an zz.2.1)]⟩) (fun zz=>n-zz.1) (fun zz=>zz.1≤n∧zz.1≤150∧bL S zz.1=zz.2.1∧zz.2.1.length=zz.2.2) (0,[],0) K_ ⟨Nat.zero_le _,Nat.zero_le _,rfl,rfl⟩ ?_
 rintro ⟨j,K,m⟩ ⟨hj,hj2,hK,hm⟩
 dsimp only at hj hj2 hK hm ⊢
 by_cases hc:j<n∧j<150
 ·obtain ⟨c1,c2⟩:=hc
  have hb:=iy hS j O_ hj2
  rw [hK] at hb
  obtain ⟨hA,hml⟩:=hb
  rw [hm] at hml
  have hnum:=hS.num j O_
  have hlen:=hS.len j O_ c2
  have hnx:bL S (j+1)=V7 K (CX S j):=by rw [←hK];rfl
  unfold V7 at hnx
  rw [hm] at hnx
  have hal:(IH (CX S j) m).length≤420:=by rw [dk];exact hlen
  have har:=Yd (N:=m) hnum.2.2 O_
  have hrr:∀x∈(CX S j).k::(CX S j).n::IH (CX S j) m,-9223372036854775808≤x∧x≤9223372036854775807:=by
   intro x hx
   rcases List.mem_cons.1 hx with rfl | hx
   ·exact hnum.1
   rcases List.mem_cons.1 hx with rfl | hx
   ·exact hnum.2.1
   ·exact har x hx
  have hSome:=ge (CX S j).a m O_ O_ hnum.2.2
  rw [←Si (CX S j).a m] at hSome
  refine Ar ?_;refine OO ?_;refine DF ?_;refine BJ ?_;refine AA (BA (b:=150) rfl rfl) rfl ?_;refine Cg ?_;refine Df ?_;refine ZN ?_;refine AA (Ai rfl (ZI _ _)) rfl ?_;refine AA (VF (i:=j) rfl O_ rfl rfl O_) rfl ?_;refine BH ?_;refine ZN ?_;refine AA (Ai rfl (td _ _)) rfl ?_;refine AA (mx (i:=j) rfl O_ rfl rfl O_) rfl ?_;refine Rr ?_;refine GD [0,5,6,7,8] (fun (a:List Int)=>⟨107,AS [0,5,6,7,8] [.c (.sl 0 0 n cap 4),Al 1,Al 2,Ae (j:Int),.c (.is a)],[.row false (.al (stA S)),.row true (.ac [.sl 3 0 m m 3,.mp 4]),.row true (.ac [.sl 5 0 m m 3]),.row true (.an K),.row true (.mp (Bk K)),.row true (.an K)]⟩) (IH (CX S j) m) ?_ ?_
  ·cases hr:(CX S j).r with
   |true=>
    refine Bu rfl rfl ?_;refine S_ ?_;exact ⟨(CX S j).a,K_,by unfold IH;rw [hr];rfl⟩
   |false=>
    refine Ef rfl rfl ?_;refine Ar ?_;refine Ea ?_;refine Jy ?_;refine Lo ?_;refine Cs (L5 (AY (bs:=[]) (hSome) uc K_ K_ rfl BT) AH An rfl) rfl ?_;refine Bc ?_;exact ⟨Gf (CX S j).a m,K_,by unfold IH;rw [hr];rfl⟩
  clear hSome
  generalize IH (CX S j) m=aa at*
  obtain ⟨l,hl⟩:∃l,aa.length=l:=⟨_,rfl⟩
  generalize hk:(CX S j).k=k at*
  generalize hnn:(CX S j).n=nn at*
  have hI:=mY aa aa aa.length aa.length rfl O_ O_
  rw [decide_eq_true rfl] at hI
  refine A9 ?_;refine A7 (cj aa O_) vD ?_;refine Bc ?_;by_cases he:Bl m k nn aa=0
  ·cases hf:F2 K ⟨k,nn,aa⟩ with
   |some i=>
    refine S_ ?_;refine Gm [(12,[1,3,4])] [1,3,4] 0 mixed K_ K_ ?_;refine Gj ?_;refine JP ?_;refine JJ ?_;refine TI ?_;refine Bf ((Lq (i:=j) rfl O_ rfl rfl O_).trans (by rw [hk])) rfl ?_
    refine Gj ?_;refine JJ ?_;refine Sm ?_;refine Bf ((Lp (i:=j) rfl O_ rfl rfl O_).trans (by rw [hnn])) rfl ?_
    refine JP ?_;refine Dc (DG (bs:=[1,6,3,4]) (R0 K m k nn aa aa.length aa.length hA hm O_ rfl O_ hrr he i hf) K1 K_ rfl rfl BT AM) rfl W4 ?_;refine Bf (E9 rfl) rfl ?_;refine Hf ?_;refine Hf ?_;refine RM ?_;refine Mh ?_;refine S_ ?_;refine Gm [(12,[2,5])] [2,5] 0 mixed K_ K_ ?_;refine Gj ?_;refine JP ?_;refine JJ ?_;refine TI ?_;refine Bf ((Lq (i:=j) rfl O_ rfl rfl O_).trans (by rw [hk])) rfl ?_
    refine Gj ?_;refine JJ ?_;refine Sm ?_;refine Bf ((Lp (i:=j) rfl O_ rfl rfl O_).trans (by rw [hnn])) rfl ?_
    refine JP ?_;refine Dc (DG (bs:=[2,5]) (mw K m k nn aa aa.length hA hm O_ rfl O_ he i hf) oL K_ rfl rfl BT AM) rfl W4 ?_;refine Bf (E9 rfl) rfl ?_;refine Hf ?_;refine Hf ?_;refine RM ?_;refine Mh ?_;refine Ar ?_;refine Lc ?_;refine BJ ?_;refine FS ?_;refine Lc ?_;refine Kw ?_;refine FS ?_;refine Xt (hI) iw ?_;refine BR ?_;refine DM ?_;refine AZ ?_;refine tO (TM aa aa.length aa.length rfl O_) pX ?_;refine AZ ?_;refine Cl ?_;exact ⟨(j+1,K,m),K_,by show n-(j+1)<n-j;omega,by show j+1≤n;omega,by show j+1≤150;omega,by rw [hnx,AAd (by rw [hm];exact he) hf],hm⟩
   |none=>
    refine S_ ?_;refine Gm [(12,[1,3,4])] [1,3,4] 1 mixed K_ K_ ?_;refine Gj ?_;refine JP ?_;refine JJ ?_;refine TI ?_;refine Bf ((Lq (i:=j) rfl O_ rfl rfl O_).trans (by rw [hk])) rfl ?_
    refine Gj ?_;refine JJ ?_;refine Sm ?_;refine Bf ((Lp (i:=j) rfl O_ rfl rfl O_).trans (by rw [hnn])) rfl ?_
    refine JP ?_;refine Dc (DG (bs:=[1,6,3,4]) (RY K m k nn aa aa.length aa.length hA hm O_ rfl O_ hrr he hf) K1 K_ rfl rfl BT AM) rfl W4 ?_;refine Bf (E9 rfl) rfl ?_;refine Hf ?_;refine Hf ?_;refine RM ?_;refine Mh ?_;refine S_ ?_;refine Gm [(12,[2,5])] [2,5] 1 mixed K_ K_ ?_;refine Gj ?_;refine JP ?_;refine JJ ?_;refine TI ?_;refine Bf ((Lq (i:=j) rfl O_ rfl rfl O_).trans (by rw [hk])) rfl ?_
    refine Gj ?_;refine JJ ?_;refine Sm ?_;refine Bf ((Lp (i:=j) rfl O_ rfl rfl O_).trans (by rw [hnn])) rfl ?_
    refine JP ?_;refine Dc (DG (bs:=[2,5]) (nK K m k nn aa aa.length hA hm O_ rfl O_ he hf) oL K_ rfl rfl BT AM) rfl W4 ?_;refine Bf (E9 rfl) rfl ?_;refine Hf ?_;refine Hf ?_;refine RM ?_;refine Mh ?_;refine Ar ?_;refine Lc ?_;refine BJ ?_;refine FS ?_;refine Lc ?_;refine Kw ?_;refine FS ?_;refine Xt (hI) iw ?_;refine BR ?_;refine DM ?_;refine AZ ?_;refine tO (TM aa aa.length aa.length rfl O_) pX ?_;refine AZ ?_;refine Cl ?_;exact ⟨(j+1,K++[⟨k,nn,aa⟩],m+1),K_,by show n-(j+1)<n-j;omega,by show j+1≤n;omega,by show j+1≤150;omega,by rw [hnx,AAV (by rw [hm];exact he) hf O_],by simp [hm]⟩
  ·refine S_ ?_
   refine Gm [(12,[1,3,4])] [1,3,4] 0 mixed K_ K_ ?_;refine Gj ?_;refine JP ?_;refine JJ ?_;refine TI ?_;refine Bf ((Lq (i:=j) rfl O_ rfl rfl O_).trans (by rw [hk])) rfl ?_
   refine Gj ?_;refine JJ ?_;refine Sm ?_;refine Bf ((Lp (i:=j) rfl O_ rfl rfl O_).trans (by rw [hnn])) rfl ?_
   refine JP ?_;refine Dc (DG (bs:=[1,6,3,4]) (tX K m k nn aa aa.length aa.length hA hm O_ rfl O_ hrr he) K1 K_ rfl rfl BT AM) rfl W4 ?_;refine Bf (E9 rfl) rfl ?_;refine Hf ?_;refine Hf ?_;refine RM ?_;refine Mh ?_;refine S_ ?_;refine Gm [(12,[2,5])] [2,5] 0 mixed K_ K_ ?_;refine Gj ?_;refine JP ?_;refine JJ ?_;refine TI ?_;refine Bf ((Lq (i:=j) rfl O_ rfl rfl O_).trans (by rw [hk])) rfl ?_
   refine Gj ?_;refine JJ ?_;refine Sm ?_;refine Bf ((Lp (i:=j) rfl O_ rfl rfl O_).trans (by rw [hnn])) rfl ?_
   refine JP ?_;refine Dc (DG (bs:=[2,5]) (ri K m k nn aa aa.length hA hm O_ rfl O_ he) oL K_ rfl rfl BT AM) rfl W4 ?_;refine Bf (E9 rfl) rfl ?_;refine Hf ?_;refine Hf ?_;refine RM ?_;refine Mh ?_;refine Ar ?_;refine Lc ?_;refine BJ ?_;refine FS ?_;refine Lc ?_;refine Kw ?_;refine FS ?_;refine Xt (hI) iw ?_;refine BR ?_;refine DM ?_;refine AZ ?_;refine tO (TM aa aa.length aa.length rfl O_) pX ?_;refine AZ ?_;refine Cl ?_;exact ⟨(j+1,K,m),K_,by show n-(j+1)<n-j;omega,by show j+1≤n;omega,by show j+1≤150;omega,by rw [hnx,zW (by rw [hm];exact he)],hm⟩
 ·obtain rfl:K=L:=by rw [←hK,←hL,show j=min n 150 by omega]
  obtain rfl:m=N:=by rw [←hm,hN]
  have hb:=iy hS j O_ hj2
  rw [hK,hm] at hb
  by_cases c1:j<n
  ·have c2:¬j<150:=fun h=>hc ⟨c1,h⟩
   refine Ar ?_;refine OO ?_;refine DF ?_;refine BJ ?_;refine AA (BA (b:=150) rfl rfl) rfl ?_;refine Cg ?_;refine A6 ?_;refine KT ?_;refine Bt ?_;refine Ah ?_;refine YH (nD K (Bk K) m O_ hm) vK ?_;refine Is ?_;refine PI ?_;refine QT ?_;refine YD ?_;refine AE ((Cm (a:=m) (b:=m) rfl rfl).trans (by rw [decide_eq_true rfl])) rfl ?_
   refine AE (Ac rfl) rfl ?_;refine G1 ?_;refine A6 ?_;exact k_3 (EG rfl) (EG rfl) (EG rfl) (by (kernel_rfl))
  ·refine S_ ?_
   refine Cj ?_;refine AR ?_;refine OO ?_;refine DF ?_;refine GN ?_;refine CQ ?_;refine A6 ?_;refine KT ?_;refine Bt ?_;refine Ah ?_;refine YH (nD K (Bk K) m O_ hm) vK ?_;refine Is ?_;refine PI ?_;refine QT ?_;refine YD ?_;refine AE ((Cm (a:=m) (b:=m) rfl rfl).trans (by rw [decide_eq_true rfl])) rfl ?_
   refine AE (Ac rfl) rfl ?_;refine G1 ?_;refine A6 ?_;exact k_3 (EG rfl) (EG rfl) (EG rfl) (by (kernel_rfl))
theorem gm{P:Program}{f:FuncId}{fn:Func}{c:Code}{args:List AV}{m:Ak}{N n:Nat}{Q:AV→Ak→Prop}(hf:P.funcs[f]?=some fn)(hb:fn.body=some c)(hN:fn.ntmps=N)(hn:Nat.ble args.length N=true)(hm:m.length=n)
  (h:WC P n c ⟨N,tN args,m⟩ (fun e s=> ∃v m',Q v m'∧XW P n fn.results.toList v m' e s)):∃v m',Q v m'∧Ev P (.call f args m) (.val v m'):=by
 obtain ⟨e,r,h1,v,m',hq,h2⟩:=h.h
 exact ⟨v,m',hq,AG hf hb hN hn hm ⟨⟨e,r,h1,h2⟩⟩⟩
def ACG(L:List Nd)(N:Nat)(v:AV)(m':Ak):Prop:= ∃l:List Int,(l.length≤N∧ ∀x∈l,0≤x∧x<(N:Int))∧v= .c (.sl 2 0 l.length l.length 1)∧m'=[.row false (.ac [.sl 1 0 N N 3]),.row false (.an L),.row true (.ai l)]
theorem sc(L:List Nd)(N i:Nat)(hN:L.length=N)(hNl:N≤1048576)(hi:i<N)(hA:C2 L):∃v m',ACG L N v m'∧Ev prog (.call 52 [.c (.ptr 0 0),.c (.val (.int .i64 (i:Int)))] [.row false (.ac [.sl 1 0 N N 3]),.row false (.an L)]) (.val v m'):=by
 refine gm func52 rfl ntmps52 rfl AH ?_;refine Im ?_;refine Ea ?_;refine Jy ?_;refine Lo ?_;refine Cs (jH (n:=N) (m:=2) underlying116 rfl rfl AAi uw O_ O_ rfl) rfl ?_;refine BH ?_;refine Qc ?_;refine Rd (q:=true) rfl rfl rfl pf (by rw [List.length_replicate];omega) AM ?_
 refine CT ?_;refine DJ [0,1,5,6] (fun (zz:Nat×Int×List Bool)=>⟨71,AS [0,1,5,6] [Al 0,Ae (i:Int),.c (.sl 2 0 N N 1),Ae zz.2.1],[.row false (.ac [.sl 1 0 N N 3]),.row false (.an L),.row true (.bl zz.2.2)]⟩) (fun zz=>zz.1) (fun zz=>zz.2.1=(zz.1:Int)-1∧zz.1≤i+1∧zz.2.2.length=N) (i+1,(i:Int),(List.replicate N false).set i true) K_ ⟨by simp,Nat.le_refl _,by simp⟩ ?_
 rintro ⟨k,x,c⟩ ⟨hx,hk,hc⟩
 dsimp only at hx hk hc ⊢
 cases k with
 |zero=>
  subst hx
  refine A9 ?_;refine QP ?_;refine AQ ?_;refine Bc ?_;refine Q_ ?_;refine FP 8 1 (.ai []) rfl rfl AH rfl ?_;refine AK ?_;refine Ay ?_;refine DJ [0,1,5,8,9] (fun (zz:Nat×Nat×List Int)=>⟨71,AS [0,1,5,8,9] [Al 0,Ae (i:Int),.c (.sl 2 0 N N 1),.c (.sl 3 0 zz.2.1 zz.2.1 1),Ae (zz.1:Int)],[.row false (.ac [.sl 1 0 N N 3]),.row false (.an L),.row true (.bl c),.row true (.ai zz.2.2)]⟩) (fun zz=>N-zz.1) (fun zz=>zz.1≤N∧zz.2.1≤zz.1∧zz.2.2.length=zz.2.1∧ ∀x∈zz.2.2,0≤x∧x<(N:Int)) (0,0,[]) K_ ⟨Nat.zero_le _,Nat.le_refl _,rfl,fun x h=>by cases h⟩ ?_
  rintro ⟨j,on,out⟩ ⟨hj,hon,hol,hou⟩
  dsimp only at hj hon hol hou ⊢
  by_cases hlt:j<N
  ·generalize hq:JN c j=q at*
   refine Ar ?_;refine AA (JL rfl underlying116) rfl ?_;refine DF ?_;refine Df ?_;refine Qc ?_;refine AA ((QI rfl rfl XX O_).trans (by rw [hq])) rfl ?_
   refine AN ?_
   cases q with
   |true=>
    refine Ar ?_;refine Nu ?_;refine bw ?_;refine Ab ?_;refine Cl ?_;refine ⟨(j+1,on+1,out++[(j:Int)]),K_,by show N-(j+1)<N-j;omega,by show j+1≤N;omega,by show on+1≤j+1;omega,by simp [hol],fun x hx=>?_⟩
    rcases List.mem_append.1 hx with h | h
    ·exact hou x h
    ·simp at h;omega
   |false=>
    refine A9 ?_;refine Cl ?_;exact ⟨(j+1,on,out),K_,by show N-(j+1)<N-j;omega,by show j+1≤N;omega,by show on≤j+1;omega,hol,hou⟩
  ·refine S_ ?_
   refine Cj ?_;refine AR ?_;refine AA (JL rfl underlying116) rfl ?_;refine DF ?_;refine CT ?_;refine ⟨_,_,⟨out,⟨by omega,hou⟩,rfl,rfl⟩,?_⟩
   subst hol
   exact EZ
 |succ k=>
  obtain rfl:x=(k:Int):=by omega
  clear hx
  refine A9 ?_;refine R1 ?_;refine AQ ?_;refine Ay ?_;have hnd:=hA.nd (i:=k) O_
  have hargs:=hnd.args
  have hlen:=hnd.len.2
  have hml:=ES (Aa L k).k
  clear hnd
  refine DJ [0,1,5,6,7] (fun (zz:Nat×List Bool)=>⟨71,AS [0,1,5,6,7] [Al 0,Ae (i:Int),.c (.sl 2 0 N N 1),Ae (k:Int),Ae (zz.1:Int)],[.row false (.ac [.sl 1 0 N N 3]),.row false (.an L),.row true (.bl zz.2)]⟩) (fun zz=>(Aa L k).a.length-zz.1) (fun zz=>zz.1≤(Aa L k).a.length∧zz.2.length=N) (0,c) K_ ⟨Nat.zero_le _,hc⟩ ?_
  rintro ⟨j,d⟩ ⟨hj,hd⟩
  dsimp only at hj hd ⊢
  generalize hq:JN d k=q at*
  cases q with
  |false=>
   refine Ar ?_;refine Qc ?_;refine AA ((QI rfl rfl XX O_).trans (by rw [hq])) rfl ?_
   refine GN ?_;refine G5 ?_;refine G5 ?_;refine G5 ?_;refine G5 ?_;refine N5 Cv rfl ?_;refine CQ ?_;refine AZ ?_;refine Nv ?_;refine Bc ?_;exact ⟨(k,(k:Int)-1,d),K_,by show k<k+1;omega,rfl,by show k≤i+1;omega,hd⟩
  |true=>
   by_cases hlt:j<(Aa L k).a.length
   ·obtain ⟨y,hy⟩:∃y:Nat,AX (Aa L k).a j=(y:Int):=⟨(AX (Aa L k).a j).toNat,by have:=hargs (AX (Aa L k).a j) (by simp [AX,hlt]);omega⟩
    have hyN:y<N:=by have:=hargs (AX (Aa L k).a j) (by simp [AX,hlt]);omega
    refine Ar ?_;refine Qc ?_;refine AA ((QI rfl rfl XX O_).trans (by rw [hq])) rfl ?_
    refine BJ ?_;refine FS ?_;refine Ea ?_;refine BR ?_;refine Jy ?_;refine BR ?_;refine Ve ?_;refine BR ?_;refine FS ?_;refine cg ?_;refine BR ?_;refine J2 ?_;refine BR ?_;refine G9 Cv ?_;refine Cs (Ev.val (iN (j:=k) rfl O_ rfl TB O_)) rfl ?_;refine BR ?_;refine KN ?_;refine BR ?_;refine DF ?_;refine Cg ?_;refine Df ?_;refine Ea ?_;refine Jy ?_;refine Ve ?_;refine AR ?_;refine cg ?_;refine J2 ?_;refine Cs (Ev.val (iN (j:=k) rfl O_ rfl TB O_)) rfl ?_;refine AR ?_;refine Nq ?_;refine AA ((C0 rfl Bv O_).trans (by rw [hy])) rfl ?_
    refine Qc ?_;refine Rd (q:=true) rfl rfl rfl pf O_ AM ?_;refine AZ ?_;refine Cl ?_;exact ⟨(j+1,d.set y true),K_,by show (Aa L k).a.length-(j+1)<(Aa L k).a.length-j;omega,by show j+1≤_;omega,by show (d.set y true).length=N;simp [hd]⟩
   ·refine S_ ?_
    refine Cj ?_;refine AR ?_;refine Qc ?_;refine AA ((QI rfl rfl XX O_).trans (by rw [hq])) rfl ?_
    refine BJ ?_;refine FS ?_;refine Ea ?_;refine BR ?_;refine Jy ?_;refine BR ?_;refine Ve ?_;refine BR ?_;refine FS ?_;refine cg ?_;refine BR ?_;refine J2 ?_;refine BR ?_;refine G9 Cv ?_;refine Cs (Ev.val (iN (j:=k) rfl O_ rfl TB O_)) rfl ?_;refine BR ?_;refine KN ?_;refine BR ?_;refine DF ?_;refine Cg ?_;refine AZ ?_;refine Nv ?_;refine Bc ?_;exact ⟨(k,(k:Int)-1,d),K_,by show k<k+1;omega,rfl,by show k≤i+1;omega,hd⟩
def AAx(M:Ak)(v:AV)(m':Ak):Prop:= ∃b:Bool,v= .c (.val (.bool b))∧m'=M
theorem wN(L:List Nd)(N i:Nat)(hN:L.length=N)(hNl:N≤1048576)(hi:i<N)(hA:C2 L):∃v m',AAx [.row false (.ac [.sl 1 0 N N 3]),.row false (.an L)] v m'∧Ev prog (.call 25 [.c (.ptr 0 0),.c (.val (.int .i64 (i:Int)))] [.row false (.ac [.sl 1 0 N N 3]),.row false (.an L)]) (.val v m'):=by
 obtain ⟨v,m',⟨l,⟨hll,hlr⟩,rfl,rfl⟩,hB⟩:=sc L N i hN hNl hi hA
 obtain ⟨q,hq⟩:∃q,l.length=q:=⟨_,rfl⟩
 rw [hq] at hB hll
 refine gm func25 rfl ntmps25 rfl AH ?_;refine AK ?_;refine BH ?_;refine VZ (hB) ABG ?_;refine Ad ?_;refine Ad ?_;refine Ay ?_;refine DJ [0,1,5,6,7] (fun (zz:Nat×Nat)=>⟨41,AS [0,1,5,6,7] [Al 0,Ae (i:Int),.c (.sl 2 0 q q 1),Ae (zz.2:Int),Ae (zz.1:Int)],[.row false (.ac [.sl 1 0 N N 3]),.row false (.an L),.row true (.ai l)]⟩) (fun zz=>q-zz.1) (fun zz=>zz.1≤q∧zz.2≤zz.1) (0,0) K_ ⟨Nat.zero_le _,Nat.le_refl _⟩ ?_
 rintro ⟨j,cn⟩ ⟨hj,hcn⟩
 dsimp only at hj hcn ⊢
 by_cases hlt:j<q
 ·have hgj:=hlr (AX l j) (by simp [AX,show j<l.length by omega])
  obtain ⟨y,hy⟩:∃y:Nat,AX l j=(y:Int):=⟨(AX l j).toNat,by omega⟩
  have hyN:y<N:=by omega
  obtain ⟨k,hk⟩:∃k,(Aa L y).k=k:=⟨_,rfl⟩
  refine Ar ?_;refine H1 ?_;refine SN ?_;refine Oj ?_;refine Is ?_;refine PI ?_;refine QT ?_;refine Bt ?_;refine fi ?_;refine AE ((JZ rfl rfl Bv O_).trans (by rw [hy])) rfl ?_
  refine ZU ?_;refine AE (Ai rfl (jY _ _)) rfl ?_;refine AE ((cP (j:=y) rfl O_ rfl Bv O_).trans (by rw [hk])) rfl ?_
  refine Bn ?_;refine AN ?_;by_cases k5:k=5
  ·subst k5
   refine AK ?_;refine Iu ?_;refine Ab ?_;refine di ?_;refine Ab ?_;refine Cl ?_;exact ⟨(j+1,cn+1),K_,by show q-(j+1)<q-j;omega,by show j+1≤q;omega,by show cn+1≤j+1;omega⟩
  by_cases k7:k=7
  ·subst k7
   refine AK ?_;refine Iu ?_;refine Ad ?_;refine VE ?_;refine Ab ?_;refine di ?_;refine Ab ?_;refine Cl ?_;exact ⟨(j+1,cn+1),K_,by show q-(j+1)<q-j;omega,by show j+1≤q;omega,by show cn+1≤j+1;omega⟩
  by_cases k8:k=8
  ·subst k8
   refine AK ?_;refine Iu ?_;refine Ad ?_;refine VE ?_;refine Ad ?_;refine Vn ?_;refine Ab ?_;refine di ?_;refine Ab ?_;refine Cl ?_;exact ⟨(j+1,cn+1),K_,by show q-(j+1)<q-j;omega,by show j+1≤q;omega,by show cn+1≤j+1;omega⟩
  refine AK ?_;refine Lw ?_;refine Lw ?_;refine Hn ?_;refine Ab ?_;refine Cl ?_;exact ⟨(j+1,cn),K_,by show q-(j+1)<q-j;omega,by show j+1≤q;omega,by show cn≤j+1;omega⟩
 ·by_cases h6:cn≤6
  ·refine S_ ?_
   refine Cj ?_;refine AR ?_;refine H1 ?_;refine DF ?_;refine AZ ?_;refine AA (eZ (b:=6) rfl rfl) rfl ?_;refine BJ ?_;refine H1 ?_;refine BR ?_;refine AA (eZ (b:=60) rfl rfl) rfl ?_;refine Cg ?_;refine Ay ?_;refine ⟨_,_,⟨decide (q≤60),rfl,rfl⟩,?_⟩
   exact EZ
  ·refine S_ ?_
   refine Cj ?_;refine AR ?_;refine H1 ?_;refine DF ?_;refine AZ ?_;refine AA (eZ (b:=6) rfl rfl) rfl ?_;refine GN ?_;refine N5 Cv rfl ?_;refine CQ ?_;refine Ay ?_;refine ⟨_,_,⟨false,rfl,rfl⟩,?_⟩
   exact EZ
end Go.Proofs.YtmbepikkgkcgkaaGreatDoor
namespace Go.Proofs.YtmbepikkgkcgkaaGreatDoor
variable {g r : Prop}
open Go.Proofs.Tryz
theorem ACY:Jg 1224481:=Jk 1107 D_ D_ (by decide+kernel)
theorem ABz:Jg 531581:=Jk 730 D_ D_ (by decide+kernel)
theorem ABr:Jg 1257559732178653:=iO (q:=1224481) (k:=1027014492) (a:=2) (q':=531581) (k':=2365697292) (a':=2) 51 ACY ABz (by decide+kernel) (by decide+kernel) (by decide+kernel) (by decide+kernel) (by decide+kernel) (by decide+kernel) (by decide+kernel) (by decide+kernel) (by decide+kernel) (by decide+kernel)
theorem ACU:Jg 4434155615661930479:=Xg (q:=1257559732178653) (k:=3526) (a:=2) 62 ABr (by decide+kernel) (by decide+kernel) (by decide+kernel) (by decide+kernel) (by decide+kernel) (by decide+kernel)
theorem ACV:Jg 172054593956031949258510691:=Xg (q:=4434155615661930479) (k:=38802110) (a:=2) 88 ACU (by decide+kernel) (by decide+kernel) (by decide+kernel) (by decide+kernel) (by decide+kernel) (by decide+kernel)
theorem ABb:Jg 19757330305831588566944191468367130476339:=Xg (q:=172054593956031949258510691) (k:=114831751082918) (a:=2) 134 ACV (by decide+kernel) (by decide+kernel) (by decide+kernel) (by decide+kernel) (by decide+kernel) (by decide+kernel)
theorem ABf:Jg 276602624281642239937218680557139826668747:=Xg (q:=19757330305831588566944191468367130476339) (k:=14) (a:=2) 138 ABb (by decide+kernel) (by decide+kernel) (by decide+kernel) (by decide+kernel) (by decide+kernel) (by decide+kernel)
theorem prL:Jg 7237005577332262213973186563042994240857116359379907606001950938285454250989:=Xg (q:=276602624281642239937218680557139826668747) (k:=26163907866482859529727157400808004) (a:=2) 253 ABf (by decide+kernel) (by decide+kernel) (by decide+kernel) (by decide+kernel) (by decide+kernel) (by decide+kernel)
end Go.Proofs.YtmbepikkgkcgkaaGreatDoor
namespace Go.Proofs.YtmbepikkgkcgkaaGreatDoor
open Go.RowKit
variable {g r : Prop}
open Go.Proofs.Tryz
theorem mC{m:Nat}(h:F8 TS m=H2):A2 ∣ m:=by
 have hp:Jg A2:=prL
 by_cases hd:A2 ∣ m
 ·exact hd
 exfalso
 have h1:=YV hp hd
 have h2:F8 TS (m^(A2-1))=H2:=by
  obtain ⟨c,hc⟩:∃c,m^(A2-1)=m*c:=⟨m^(A2-2),by
   rw [←Nat.pow_succ'];rfl⟩
  rw [hc,Oi Gl,h,RK]
 have h3:m^(A2-1)=A2*(m^(A2-1)/A2)+1:=by
  have:=Nat.div_add_mod (m^(A2-1)) A2
  omega
 generalize m^(A2-1)/A2=c at h3
 generalize m^(A2-1)=e at h2 h3
 subst h3
 rw [Fs Gl,Oi Gl,rG,RK,VU,Tr] at h2
 have:TS.x=0:=by rw [h2];rfl
 exact absurd this (by unfold TS bX;decide+kernel)
theorem VM{m:Nat}(h:¬A2 ∣ m):Tc (F8 TS m)≠0:=fun e=>by
 have d:=Zt (JA Gl m) e
 rw [←Fs Gl] at d
 have:=mC d
 rw [show m+m=2*m by omega] at this
 rcases Jg.euclid prL this with h2 | h2
 ·exact absurd (Nat.le_of_dvd D_ h2) D_
 ·exact h h2
theorem TC(key:AB 8)(hkey:key.length=32):kN key<2^255∧kN key%8=0∧2^254≤kN key:=by
 have hb0:(nth (GP key) 0).toNat%8=0:=by
  unfold GP
  rw [DH _ _ _ _ (by rw [B1];omega),if_neg D_,DH _ _ _ _ O_,if_pos rfl]
  exact (by decide+kernel:∀x:BitVec 8,(x&&&248#8).toNat%8=0) _
 have hb31:64≤(nth (GP key) 31).toNat∧(nth (GP key) 31).toNat<128:=by
  unfold GP
  rw [DH _ _ _ _ (by rw [B1];omega),if_pos rfl]
  exact (by decide+kernel:∀x:BitVec 8,64≤((x&&&127#8) ||| 64#8).toNat∧((x&&&127#8) ||| 64#8).toNat<128) _
 have h0:=MA (GP key) 32 0 D_
 have h31:=MA (GP key) 32 31 D_
 have hl:=O2 (GP key) 32
 unfold kN
 generalize D8 (GP key) 32=n at*
 rw [Nat.pow_zero,Nat.div_one] at h0
 rw [←h0] at hb0
 rw [←h31] at hb31
 have e1:n/256^31<256:=Nat.div_lt_of_lt_mul (by rw [←Nat.pow_succ];exact hl)
 rw [Nat.mod_eq_of_lt e1] at hb31
 have e2:=Nat.div_add_mod n (256^31)
 have e3:=Nat.mod_lt n (show 0<256^31 by decide)
 generalize n/256^31=t at*
 generalize n%256^31=u at*
 have e4:(256:Nat)^31=452312848583266388373324160190187140051835877600158453279131187530910662656:=by decide
 have e5:(2:Nat)^255=128*452312848583266388373324160190187140051835877600158453279131187530910662656:=by decide
 have e6:(2:Nat)^254=64*452312848583266388373324160190187140051835877600158453279131187530910662656:=by decide
 rw [e4] at e2 e3
 rw [e5,e6]
 exact ⟨by omega,by omega,by omega⟩
theorem ZB(key:AB 8)(hkey:key.length=32):¬A2 ∣ kN key:=fun h=>by
 obtain ⟨h1,h2,h3⟩:=TC key hkey
 obtain ⟨c,hc⟩:∃c,kN key=8*c:=⟨kN key/8,by omega⟩
 rw [hc] at h h1 h3
 rcases Jg.euclid prL h with h4 | h4
 ·exact absurd (Nat.le_of_dvd D_ h4) D_
 ·have h5:0<c:=by omega
  have h6:=Nat.le_of_dvd h5 h4
  unfold A2 at h6
  omega
theorem Yp(l:AB 8)(i:Nat)(h:i<l.length):put l i (nth l i)=l:=
 Vx (by simp) fun j hj=>by
  rw [DH _ _ _ _ h]
  split
  ·rename_i e;rw [e]
  ·rfl
theorem kT:∀x:BitVec 8,x.toNat<128→x&&&127#8=x:=by decide+kernel
theorem ACC(x:Fp):uP (F x)=x:=by
 unfold uP
 have h:nth (F x) 31&&&127#8=nth (F x) 31:=by
  refine kT _ ?_;unfold F
  rw [SV _ _ D_,BitVec.toNat_ofNat]
  have:=x.isLt
  unfold PP at this
  have e4:(256:Nat)^31=452312848583266388373324160190187140051835877600158453279131187530910662656:=by decide
  rw [e4]
  omega
 rw [h,Yp _ _ (by rw [bz];decide),Z_F]
theorem uG:uP (put (Ag 32) 0 9#8)=zf 9:=by decide+kernel
def F6(key:AB 8):AB 8:=QL key (put (Ag 32) 0 9#8)
theorem uE:Tc TS≠0:=by rw [cd];decide+kernel
theorem AAN(key:AB 8)(hkey:key.length=32):uP (F6 key)=Tc (F8 TS (kN key)):=by
 unfold F6 QL
 rw [ACC,uG,←cd,bp Gl uE (TC key hkey).1]
theorem Wg(key other:AB 8)(hkey:key.length=32)(ho:other.length=32):QL key (F6 other)=F (Tc (F8 TS (kN other*kN key))):=by
 unfold QL
 rw [AAN other ho,bp (JA Gl _) (VM (ZB other ho)) (TC key hkey).1,←Oi Gl]
theorem Su(key other:AB 8)(hkey:key.length=32)(ho:other.length=32):QL key (F6 other)≠Ag 32:=fun e=>by
 rw [Wg key other hkey ho,←xR,je] at e
 refine VM (fun h=>?_) e
 rcases Jg.euclid prL h with h | h
 ·exact ZB other ho h
 ·exact ZB key hkey h
theorem dL(key other:AB 8)(hkey:key.length=32)(ho:other.length=32):QL key (F6 other)=QL other (F6 key):=by
 rw [Wg key other hkey ho,Wg other key ho hkey,Nat.mul_comm]
def ox(k:Int):Nat:=if k=6 then 16 else if k=8 then 64 else if k=7 then 48 else 0
def io(k:Int):Nat:=if k=6∨k=8 then 1 else if k=7 then 2 else 0
def tr(l:List (AB 8)):Nat:=(l.map fun b=>4+b.length).sum
theorem xr(l:List (AB 8)):jl l=tr l:=by
 unfold tr
 induction l with
 |nil=>rfl
 |cons x l ih=>rw [RZ,ih,List.map_cons,List.sum_cons]
theorem R4(l:List (AB 8)):((Jm l).2=0∧(Jm l).1.length=tr l)∨(Jm l).2=2:=by
 unfold Jm
 split
 ·exact .inl ⟨rfl,by rw [NP,xr]⟩
 ·exact .inr rfl
def rK(y:Nd)(g:Int→AB 8)(n:Nat):Prop:=
 if y.k=1∨y.k=2∨y.k=3∨y.k=4 then n=32 else if y.k=5 then n=64 else n=ox y.k+tr ((y.a.drop (io y.k)).map g)
theorem xV{L:List Nd}(hA:C2 L){x:Nat}(hx:x<L.length)(h5:(Aa L x).k=5):∃K,K.length=32∧(bt Cz L x).1=F6 K++H3 K∧(bt Cz L x).2=0:=by
 rw [bV Gi hA hx]
 refine ⟨AJ (gB Cz L (AX (Aa L x).a 0)),Ap _,?_⟩
 generalize gB Cz L=g
 generalize Aa L x=y at*
 have e:Iv Cz L g y=T7 (AJ (g (AX y.a 0))):=by
  unfold Iv
  rw [if_neg O_,if_neg O_,if_neg O_,if_neg O_,if_neg O_,if_neg O_,if_neg O_]
  unfold Cz
  rw [if_pos h5]
 rw [e]
 exact ⟨rfl,rfl⟩
theorem cB{L:List Nd}(hA:C2 L){i:Nat}(hi:i<L.length):((bt Cz L i).2=0∧rK (Aa L i) (gB Cz L) (bt Cz L i).1.length)∨(bt Cz L i).2=2∨(bt Cz L i).2=6:=by
 have hnd:=hA.nd hi
 have hk:=hnd.kind
 have hlen:=hnd.len
 have hargs:=hnd.args
 rw [bV Gi hA hi]
 have hpub:∀x:Int,x∈(Aa L i).a→(Aa L x.toNat).k=5→ ∃K,K.length=32∧gB Cz L x=F6 K++H3 K:=fun x hx h5=>by
  obtain ⟨K,h1,h2,_⟩:=xV hA (x:=x.toNat) (by have:=hargs x hx;omega) h5
  exact ⟨K,h1,h2⟩
 generalize gB Cz L=g at*
 generalize Aa L i=y at*
 obtain ⟨k,n,a⟩:=y
 unfold Iv rK
 dsimp only at*
 by_cases e1:k=1
 ·rw [if_pos e1,if_pos (.inl e1)];exact .inl ⟨rfl,Ap _⟩
 rw [if_neg e1]
 by_cases e2:k=2
 ·rw [if_pos e2,if_pos O_];exact .inl ⟨rfl,Ap _⟩
 rw [if_neg e2]
 by_cases e3:k=3
 ·rw [if_pos e3,if_pos O_]
  rcases R4 (a.map g) with ⟨h,_⟩ | h
  ·unfold KG;rw [if_pos h];exact .inl ⟨rfl,Ap _⟩
  ·unfold KG;rw [if_neg (by rw [h];decide)];exact .inr (.inl h)
 rw [if_neg e3]
 by_cases e9:k=9
 ·subst e9
  rw [if_pos rfl,if_neg D_,if_neg D_]
  rcases R4 (a.map g) with ⟨h,h2⟩ | h
  ·exact .inl ⟨h,by rw [h2,show io 9=0 from rfl,show ox 9=0 from rfl,List.drop_zero,Nat.zero_add]⟩
  ·exact .inr (.inl h)
 rw [if_neg e9]
 by_cases e4:k=4
 ·rw [if_pos e4,if_pos O_];exact .inl ⟨rfl,Ot _ _ _⟩
 rw [if_neg e4,if_neg (show ¬(k=1∨k=2∨k=3∨k=4) by omega)]
 by_cases e6:k=6
 ·subst e6
  rw [if_pos rfl,if_neg D_]
  unfold IJ
  rcases R4 ((a.drop 1).map g) with ⟨h,h2⟩ | h
  ·rw [if_pos h]
   exact .inl ⟨rfl,by rw [CZ _ _ _ _ (Ap _) (A1 12),h2,show io 6=1 from rfl,show ox 6=16 from rfl,Nat.add_comm]⟩
  ·rw [if_neg (by rw [h];decide)];exact .inr (.inl h)
 rw [if_neg e6]
 by_cases e7:k=7∧ ¬(Aa L (AX a 0).toNat).k=5
 ·rw [if_pos e7];exact .inr (.inr rfl)
 rw [if_neg e7]
 unfold Cz
 dsimp only
 by_cases e5:k=5
 ·rw [if_pos e5,if_pos e5];exact .inl ⟨rfl,Sk _⟩
 rw [if_neg e5,if_neg e5]
 by_cases e8:k=8
 ·subst e8
  rw [if_pos rfl]
  unfold PY
  rcases R4 ((a.drop 1).map g) with ⟨h,h2⟩ | h
  ·rw [if_pos h]
   refine .inl ⟨rfl,?_⟩
   show (DK _ _++_).length=_
   rw [List.length_append,Ik _ _ (Ap _),h2]
   rfl
  ·rw [if_neg (by rw [h];decide)];exact .inr (.inl h)
 rw [if_neg e8]
 obtain rfl:k=7:=by omega
 rw [if_pos rfl]
 have h2:2≤a.length:=hlen.1
 obtain ⟨K,hK,hg⟩:=hpub (AX a 0) (by simp [AX,show 0<a.length by omega]) (Classical.byContradiction fun h=>e7 ⟨rfl,h⟩)
 have hplace:(g (AX a 0)).take 32=F6 K:=by
  rw [hg,List.take_append_of_le_length (by unfold F6;rw [IZ];decide),List.take_of_length_le (by unfold F6;rw [IZ];decide)]
 unfold Nm
 rcases R4 ((a.drop 2).map g) with ⟨h,h2⟩ | h
 ·rw [if_pos h,hplace,if_neg (Su _ _ (Ap _) hK)]
  refine .inl ⟨rfl,?_⟩
  show (QL _ Kl++BP _ _ _ _).length=_
  rw [List.length_append,IZ,CZ _ _ _ _ (Ki _ _) (A1 12),h2]
  show 32+(_+16)=48+_
  rw [show io 7=2 from rfl]
  omega
 ·rw [if_neg (by rw [h];decide)];exact .inr (.inl h)
theorem lh(a:List Int):∀(c:List Bool) (k:Nat),JN (mark c a) k=true→JN c k=true∨ ∃x∈a,x.toNat=k:=by
 induction a with
 |nil=>exact fun c k h=> .inl h
 |cons x a ih=>
  intro c k h
  rcases ih _ k h with h | ⟨z,hz,e⟩
  ·by_cases e:x.toNat=k
   ·exact .inr ⟨x,List.mem_cons_self,e⟩
   ·refine .inl ?_
    unfold JN at*
    simp only [List.getD_eq_getElem?_getD,List.getElem?_set_ne e] at h ⊢
    exact h
  ·exact .inr ⟨z,List.mem_cons_of_mem _ hz,e⟩
theorem Yr(L:List Nd)(S:Int→Prop)(hS:∀k:Nat,S (k:Int)→ ∀x∈(Aa L k).a,S x∧0≤x):∀(n:Nat) (c:List Bool),(∀k:Nat,JN c k=true→S (k:Int))→ ∀x∈W7 L n c,S x
 |0,c,_,x,hx=>by cases hx
 |n+1,c,hc,x,hx=>by
  unfold W7 at hx
  by_cases hg:JN c n=true
  ·rw [if_pos hg] at hx
   rcases List.mem_cons.1 hx with rfl | hx
   ·exact hc n hg
   ·refine Yr L S hS n _ (fun k hk=>?_) x hx
    rcases lh _ _ _ hk with h | ⟨z,hz,e⟩
    ·exact hc k h
    ·obtain ⟨h1,h2⟩:=hS n (hc n hg) z hz
     rw [←e,Int.toNat_of_nonneg h2];exact h1
  ·rw [if_neg hg] at hx
   exact Yr L S hS n c hc x hx
theorem cM{L:List Nd}(hA:C2 L){i j:Nat}(hi:i<L.length)(hj:(j:Int)∈BF L i):∀x∈BF L j,x∈BF L i:=by
 intro x hx
 have hji:=(Dr L i _ hj).2
 unfold BF at hx
 rw [List.mem_reverse] at hx
 refine (Yr L (fun x=>x∈BF L i∧0≤x) (fun k hk z hz=>?_) (j+1) _ (fun k hk=>?_) x hx).1
 ·have h1:=Hw hA hi hk.1 z hz
  exact ⟨⟨h1,(Dr L i z h1).1⟩,(Dr L i z h1).1⟩
 ·by_cases e:k=j
  ·subst e;exact ⟨hj,by omega⟩
  ·exfalso
   unfold JN at hk
   rw [List.getD_eq_getElem?_getD,List.getElem?_set_ne (fun h=>e h.symm)] at hk
   by_cases hl:k<j+1
   ·rw [List.getElem?_replicate,if_pos hl] at hk;cases hk
   ·rw [List.getElem?_replicate,if_neg hl] at hk;cases hk
theorem kH{L:List Nd}(hA:C2 L){i:Nat}(hi:i<L.length):
  (∃e,BU Cz L i=([],e)∧(e=2∨e=6))∨
  (∃b,BU Cz L i=(b,0)∧rK (Aa L i) (gB Cz L) b.length∧ ∀x∈(Aa L i).a,BU Cz L x.toNat=(gB Cz L x,0)):=by
 rcases Jt Gi hA hi with ⟨h1,h2⟩ | ⟨k,hk,h1,h2⟩
 ·have h0:=h1 _ (G3 L i)
  rw [Int.toNat_natCast] at h0
  rcases cB hA hi with ⟨_,h⟩ | h | h
  ·refine .inr ⟨_,h2,h,fun x hx=>?_⟩
   have hxb:=Hw hA hi (G3 L i) x hx
   have hxr:=(hA.nd hi).args x hx
   have hxi:x.toNat<L.length:=by omega
   have hxc:((x.toNat:Nat):Int)=x:=Int.toNat_of_nonneg hxr.1
   rcases Jt Gi hA hxi with ⟨_,h3⟩ | ⟨k,hk,h3,_⟩
   ·exact h3
   ·exact absurd (h1 k (cM hA hi (by rw [hxc];exact hxb) k hk)) h3
  ·rw [h] at h0;cases h0
  ·rw [h] at h0;cases h0
 ·have hkb:=Dr L i k hk
  rcases cB hA (i:=k.toNat) O_ with ⟨h,_⟩ | h | h
  ·exact absurd h h1
  ·exact .inl ⟨2,by rw [h2,h],.inl rfl⟩
  ·exact .inl ⟨6,by rw [h2,h],.inr rfl⟩
end Go.Proofs.YtmbepikkgkcgkaaGreatDoor
namespace Go.Proofs.YtmbepikkgkcgkaaGreatDoor
open Go.ChangeShapes Go.WideShapes Go.ChangeAt Go.RowKit
variable {g r : Prop}
open Go.Proofs.Tryz
section
variable {H:Type} {enc:TypeId×Value→H} {P:Program} {w:World} {base:Nat} {held:Bool}
theorem cJ{e:TypeId}{t:TypeId}{fuel:Nat}{cs:List Value}{x:DataW H×List MemPlace}(ht:P.underlying t=some (.slice e))(he:P.underlying e=some (.int .i64))(hc:P.cellsOf e=1)(h:DataW.trod enc P w base (fun _=>true) held fuel t cs=some x):
  ∃(v:Value) (a:List Int),cs=[v]∧a.length≤maxLen∧(∀y∈a,Sg y)∧ ∀ι:Emb,ι.tx=XS w→(Cell.is a).rel ι v:=by
 rcases open_ints ht he hc h with ⟨hcs,_⟩ | ⟨x,len,c,zs,hcs,_,hl,hm,hz,_,hcell,hwz⟩
 ·exact ⟨_,[],hcs,Nat.zero_le _,(fun y hy=>by cases hy),fun ι _=>⟨none,0,rfl,Nat.le_refl _,.inl rfl⟩⟩
 ·rw [if_pos rfl] at hz
  have hlen:(zs.take len).length=len:=by simp;omega
  refine ⟨_,zs.take len,hcs,by omega,fun y hy=>?_,fun ι hι=>⟨some x,c,by rw [hlen],by omega,?_⟩⟩
  ·have:=hwz y (List.mem_of_mem_take hy)
   simp only [Lit.wf,Bool.and_eq_true,decide_eq_true_eq] at this
   rw [show IntKind.i64.min= -9223372036854775808 from rfl,show IntKind.i64.max=9223372036854775807 from rfl] at this
   exact this
  ·rcases Nat.eq_zero_or_pos c with h0 | h0
   ·exact .inl h0
   ·right
    obtain ⟨b,off,spot⟩:=x
    have hspot:spot=none:=by
     have h1:=hcell 0 O_
     simpa [Addr.add] using World.cell?_spot h1
    subst hspot
    have at_:∀i,i<c→ι.tx b (off+i) (.int .i64 (zs.getD i 0)):=fun i hi=>by
     have h1:=hcell i O_
     rw [show (⟨b,off,none⟩:Addr).add i=⟨b,off+i,none⟩ from Wq b off i] at h1
     unfold World.cell? at h1
     split at h1
     ·rename_i cs t fr hh
      rw [hι]
      exact ⟨cs,t,fr,hh,h1⟩
     ·cases h1
    refine ⟨b,off,rfl,⟨_,_,at_ 0 h0⟩,fun i hi=>?_⟩
    rw [hlen] at hi
    have:=at_ i O_
    dsimp only
    rw [show (zs.take len).getD i 0=zs.getD i 0 by simp [hi]]
    exact this
theorem qc{n:Int}(h:(Lit.int .i64 n).wf=true):Sg n:=by
 simp only [Lit.wf,Bool.and_eq_true,decide_eq_true_eq] at h
 rw [show IntKind.i64.min= -9223372036854775808 from rfl,show IntKind.i64.max=9223372036854775807 from rfl] at h
 exact h
theorem si{u e:TypeId}{f0 f1 f2 f3:Field}{fuel:Nat}{cs:List Value}{x:DataW H×List MemPlace}(ht:P.underlying u=some (.struct #[f0,f1,f2,f3]))
  (h0:P.underlying f0.type=some (.int .i64)) (h1:P.underlying f1.type=some (.int .i64)) (h2:P.underlying f2.type=some (.slice e)) (he:P.underlying e=some (.int .i64)) (h3:P.underlying f3.type=some .bool)
  (c0:P.cellsOf f0.type=1) (c1:P.cellsOf f1.type=1) (c2:P.cellsOf f2.type=1) (c3:P.cellsOf f3.type=1) (ce:P.cellsOf e=1) (cu:P.cellsOf u=4) (o0:f0.offset=0) (o1:f1.offset=1) (o2:f2.offset=2) (o3:f3.offset=3)
  (h:DataW.trod enc P w base (fun _=>true) held fuel u cs=some x):
  ∃s:Stp,∃v:Value,cs=[.int .i64 s.k,.int .i64 s.n,v,.bool s.r]∧(Sg s.k∧Sg s.n∧ ∀y∈s.a,Sg y)∧s.a.length≤maxLen∧ ∀ι:Emb,ι.tx=XS w→(Cell.is s.a).rel ι v:=by
 obtain ⟨xs,n,_,rfl,hl,hlen,hf⟩:=DataW.trod_struct ht h
 rw [cu] at hl
 match cs,hl with
 |[a0,a1,a2,a3],_=>
  match xs,hlen with
  |[y0,y1,y2,y3],_=>
   have g0:=hf 0 f0 rfl
   have g1:=hf 1 f1 rfl
   have g2:=hf 2 f2 rfl
   have g3:=hf 3 f3 rfl
   rw [o0,c0] at g0;rw [o1,c1] at g1;rw [o2,c2] at g2;rw [o3,c3] at g3
   obtain ⟨k,e0,_,w0⟩:=DataW.trod_int h0 g0
   obtain ⟨m,e1,_,w1⟩:=DataW.trod_int h1 g1
   obtain ⟨v,a,e2,b1,b2,b3⟩:=cJ h2 he ce g2
   obtain ⟨r,e3,_⟩:=DataW.trod_bool h3 g3
   simp at e0 e1 e2 e3
   subst e0 e1 e2 e3
   exact ⟨⟨k,m,a,r⟩,a2,rfl,⟨qc w0,qc w1,b2⟩,b1,b3⟩
theorem uQ{r:Reach}{b0:Nat}{t u e:TypeId}{f0 f1 f2 f3:Field}{v:Value}{d:DataW H}{ps:List MemPlace}(htt:P.underlying t=some (.slice u))(ht:P.underlying u=some (.struct #[f0,f1,f2,f3]))
  (h0:P.underlying f0.type=some (.int .i64)) (h1:P.underlying f1.type=some (.int .i64)) (h2:P.underlying f2.type=some (.slice e)) (he:P.underlying e=some (.int .i64)) (h3:P.underlying f3.type=some .bool)
  (c0:P.cellsOf f0.type=1) (c1:P.cellsOf f1.type=1) (c2:P.cellsOf f2.type=1) (c3:P.cellsOf f3.type=1) (ce:P.cellsOf e=1) (cu:P.cellsOf u=4) (o0:f0.offset=0) (o1:f1.offset=1) (o2:f2.offset=2) (o3:f3.offset=3)
  (hval:Value.okWide P w r b0 t v) (hd:DataW.Trod enc P w base (fun _=>true) held t v d ps):
  ∃S:List Stp,ye w 4 v (.al (stA S))∧S.length≤maxLen∧(∀i,i<S.length→Sg (CX S i).k∧Sg (CX S i).n∧ ∀x∈(CX S i).a,Sg x)∧ ∀i,i<S.length→(CX S i).a.length≤maxLen:=by
 obtain ⟨a0,len0,cap0,rfl⟩:=okWide_slice htt hval
 obtain ⟨fuel,hf⟩:=hd
 rcases DataW.trod_slice htt hf with ⟨hcs,_⟩ | ⟨a,len,cap,elems,rest,n,_,hcs,_,_,hl,hm,hlen,hel,hsp,_⟩
 ·simp [Value.cells] at hcs
  obtain ⟨rfl,rfl,rfl⟩:=hcs
  exact ⟨[],⟨rfl,none,0,0,rfl,Nat.le_refl _,rfl,.inl rfl⟩,Nat.zero_le _,fun i hi=>absurd hi (Nat.not_lt_zero i),fun i hi=>absurd hi (Nat.not_lt_zero i)⟩
 ·simp [Value.cells] at hcs
  obtain ⟨rfl,rfl,rfl⟩:=hcs
  obtain ⟨hr1,hr2⟩:=hsp rfl
  rw [cu] at hel hr2
  have each:∀i,i<cap0→ ∃s:Stp,∃v:Value,(∀f,f<4→w.cell? ((a.add (i*4)).add f)=([.int .i64 s.k,.int .i64 s.n,v,.bool s.r]:List Value)[f]?)∧(Sg s.k∧Sg s.n∧ ∀y∈s.a,Sg y)∧s.a.length≤maxLen∧ ∀ι:Emb,ι.tx=XS w→(Cell.is s.a).rel ι v:=by
   intro i hi
   have go:∃y,(w.cells? base (a.add (i*4)) 4).bind (DataW.trod enc P w base (fun _=>true) held n u)=some y:=by
    by_cases hil:i<len0
    ·exact ⟨elems[i]'O_,by rw [hel i hil,List.getElem?_eq_getElem]⟩
    ·have:=hr2 (i-len0) O_
     rw [show len0+(i-len0)=i by omega] at this
     exact ⟨rest[i-len0]'O_,by rw [this,List.getElem?_eq_getElem]⟩
   obtain ⟨y,hy⟩:=go
   obtain ⟨cs,h5,h6⟩:=Option.bind_eq_some_iff.1 hy
   obtain ⟨s,v,rfl,g1,g2,g3⟩:=si ht h0 h1 h2 he h3 c0 c1 c2 c3 ce cu o0 o1 o2 o3 h6
   exact ⟨s,v,(World.cells?_some h5).2.2,g1,g2,g3⟩
  obtain ⟨Y,hY⟩:=Go.Deep.choose_lt each
  have hln:((List.range len0).map Y).length=len0:=by simp
  have hgs:∀i,i<len0→CX ((List.range len0).map Y) i=Y i:=fun i hi=>by simp [CX,hi]
  refine ⟨(List.range len0).map Y,⟨rfl,some a,len0,cap0,rfl,hl,by show (stA _).length=_;rw [RP,hln,Nat.mul_comm],?_⟩,by rw [hln];omega,fun i hi=>?_,fun i hi=>?_⟩
  ·rcases Nat.eq_zero_or_pos cap0 with h00 | h00
   ·exact .inl h00
   ·right
    obtain ⟨b,off,spot⟩:=a
    have hspot:spot=none:=by
     obtain ⟨v,h5,_⟩:=hY 0 h00
     have h1:=h5 0 D_
     simpa [Addr.add] using World.cell?_spot h1
    subst hspot
    have at_:∀i f,i<cap0→f<4→ ∀c,w.cell? (((⟨b,off,none⟩:Addr).add (i*4)).add f)=some c→w.cell? ⟨b,off+(i*4+f),none⟩=some c:=fun i f hi hf c h=>by
     rw [show (⟨b,off,none⟩:Addr).add (i*4)=⟨b,off+i*4,none⟩ from Wq b off _,show (⟨b,off+i*4,none⟩:Addr).add f=⟨b,off+i*4+f,none⟩ from Wq b _ f,Nat.add_assoc] at h
     exact h
    obtain ⟨v0,k0,_⟩:=hY 0 h00
    have z:=at_ 0 0 h00 D_ _ (k0 0 D_)
    unfold World.cell? at z
    split at z
    ·rename_i cs t fr hh
     refine ⟨b,off,cs,t,fr,rfl,hh,fun i hi=>?_⟩
     have hi:i<(stA ((List.range len0).map Y)).length:=hi
     rw [RP,hln] at hi
     obtain ⟨q,f,hq,hf4,rfl⟩:∃q f,q<len0∧f<4∧i=q*4+f:=⟨i/4,i%4,by omega,by omega,by omega⟩
     obtain ⟨v,k5,_,_,k6⟩:=hY q O_
     have val:∀c,([.int .i64 (Y q).k,.int .i64 (Y q).n,v,.bool (Y q).r]:List Value)[f]?=some c→cs[off+(q*4+f)]?=some c:=fun c hc=>by
      have:=at_ q f O_ hf4 c ((k5 f hf4).trans hc)
      unfold World.cell? at this
      simp only [hh] at this
      simpa using this
     have hg:=hgs q hq
     match f,hf4 with
     |0,_=>exact ⟨_,val _ rfl,fun ι _=>by rw [(FR (f:=0) (c:= .val (.int .i64 (Y q).k)) (by rw [hln];exact hq) D_ (by rw [hg];rfl)).2];rfl⟩
     |1,_=>exact ⟨_,val _ rfl,fun ι _=>by rw [(FR (f:=1) (c:= .val (.int .i64 (Y q).n)) (by rw [hln];exact hq) D_ (by rw [hg];rfl)).2];rfl⟩
     |2,_=>exact ⟨_,val _ rfl,fun ι hι=>by rw [(FR (f:=2) (c:= .is (Y q).a) (by rw [hln];exact hq) D_ (by rw [hg];rfl)).2];exact k6 ι hι⟩
     |3,_=>exact ⟨_,val _ rfl,fun ι _=>by rw [(FR (f:=3) (c:= .val (.bool (Y q).r)) (by rw [hln];exact hq) D_ (by rw [hg];rfl)).2];rfl⟩
    ·cases z
  ·rw [hln] at hi
   rw [hgs i hi]
   obtain ⟨_,_,h5,_⟩:=hY i O_
   exact h5
  ·rw [hln] at hi
   rw [hgs i hi]
   obtain ⟨_,_,_,h5,_⟩:=hY i O_
   exact h5
end
end Go.Proofs.YtmbepikkgkcgkaaGreatDoor
